/- All inputs of the law ShadeTriangle. -/
import Derived.Test.YtffomiamkiakcaaShadeTriangleRun0
import Derived.Test.YtffomiamkiakcaaShadeTriangleRun1
import Derived.Test.YtffomiamkiakcaaShadeTriangleRun2
import Derived.Test.YtffomiamkiakcaaShadeTriangleRun3
import Derived.Test.YtffomiamkiakcaaCoreD
set_option linter.unusedVariables false
namespace Go.Proofs.Ytffomiamkiakcaa.ShadeTriangle
open Go Go.Vit Go.Proofs
theorem rw7 {lf n : Nat} : Vit.runT (tabR (β := Unit) lf) (n + 1) 7 = S7 lf (Vit.runT (tabR lf) n) := by kernel_rfl
section
attribute [local irreducible] Vit.runT loopS
theorem pre {a b : Nat} (ha : a < 256) (hb : b < 256) (K : Value → Value → Option Unit) :
    (oCv .i64 (.int .u8 (a : Int)) fun t4 => oInt .rem .i64 t4 (.int .i64 (.ofNat 8)) fun t5 => oInt .add .i64 (.int .i64 (.ofNat 2)) t5 fun t6 => oCv .i64 (.int .u8 (b : Int)) fun t7 => oInt .rem .i64 t7 t6 fun t9 => K t6 t9)
      = K (.int .i64 ((2 + a % 8 : Nat) : Int)) (.int .i64 ((b % (2 + a % 8) : Nat) : Int)) := by
  have h6 := Nat.mod_lt a (show 0 < 8 by omega)
  rw [oCv_nat (by omega), show Int.ofNat 8 = ((8 : Nat) : Int) from rfl, oInt_remN (by omega), show Int.ofNat 2 = ((2 : Nat) : Int) from rfl, oInt_addN (by omega), oCv_nat (by omega), oInt_remN (by omega)]
theorem same_run {a b lf n L : Nat} {m : Mem} {k : Value → Mem → Option Unit} (ha : a < 256) (hb : b < 256) :
    Vit.runT (tabR lf) (n + 1) 7 [.int .u8 (a : Int), .int .u8 (b : Int)] L m k = Vit.runT (tabR lf) (n + 1) 7 [.int .u8 ((a % 8 : Nat) : Int), .int .u8 ((b % (2 + a % 8) : Nat) : Int)] L m k := by
  have h6 := Nat.mod_lt a (show 0 < 8 by omega)
  have h7 := Nat.mod_lt b (show 0 < 2 + a % 8 by omega)
  rw [rw7]
  refine (pre ha hb _).trans (Eq.trans ?_ (pre (a := a % 8) (b := b % (2 + a % 8)) (by omega) (by omega) _).symm)
  rw [Nat.mod_mod, Nat.mod_mod]
end
def Runs (a b : Nat) : Prop := Vit.runT (tabR 1000000) 60 7 [.int .u8 (a : Int), .int .u8 (b : Int)] mTab.next mTab isTrue = some ()
theorem case0 : ∀ b : Nat, b < 2 → Runs 0 b
  | 0, _ => e0_0
  | 1, _ => e0_1
  | b + 2, h => absurd h (by omega)
theorem case1 : ∀ b : Nat, b < 3 → Runs 1 b
  | 0, _ => e1_0
  | 1, _ => e1_1
  | 2, _ => e1_2
  | b + 3, h => absurd h (by omega)
theorem case2 : ∀ b : Nat, b < 4 → Runs 2 b
  | 0, _ => e2_0
  | 1, _ => e2_1
  | 2, _ => e2_2
  | 3, _ => e2_3
  | b + 4, h => absurd h (by omega)
theorem case3 : ∀ b : Nat, b < 5 → Runs 3 b
  | 0, _ => e3_0
  | 1, _ => e3_1
  | 2, _ => e3_2
  | 3, _ => e3_3
  | 4, _ => e3_4
  | b + 5, h => absurd h (by omega)
theorem case4 : ∀ b : Nat, b < 6 → Runs 4 b
  | 0, _ => e4_0
  | 1, _ => e4_1
  | 2, _ => e4_2
  | 3, _ => e4_3
  | 4, _ => e4_4
  | 5, _ => e4_5
  | b + 6, h => absurd h (by omega)
theorem case5 : ∀ b : Nat, b < 7 → Runs 5 b
  | 0, _ => e5_0
  | 1, _ => e5_1
  | 2, _ => e5_2
  | 3, _ => e5_3
  | 4, _ => e5_4
  | 5, _ => e5_5
  | 6, _ => e5_6
  | b + 7, h => absurd h (by omega)
theorem case6 : ∀ b : Nat, b < 8 → Runs 6 b
  | 0, _ => e6_0
  | 1, _ => e6_1
  | 2, _ => e6_2
  | 3, _ => e6_3
  | 4, _ => e6_4
  | 5, _ => e6_5
  | 6, _ => e6_6
  | 7, _ => e6_7
  | b + 8, h => absurd h (by omega)
theorem case7 : ∀ b : Nat, b < 9 → Runs 7 b
  | 0, _ => e7_0
  | 1, _ => e7_1
  | 2, _ => e7_2
  | 3, _ => e7_3
  | 4, _ => e7_4
  | 5, _ => e7_5
  | 6, _ => e7_6
  | 7, _ => e7_7
  | 8, _ => e7_8
  | b + 9, h => absurd h (by omega)
theorem runs : ∀ a : Nat, a < 8 → ∀ b : Nat, b < 2 + a → Runs a b
  | 0, _, b, h => case0 b (by omega)
  | 1, _, b, h => case1 b (by omega)
  | 2, _, b, h => case2 b (by omega)
  | 3, _, b, h => case3 b (by omega)
  | 4, _, b, h => case4 b (by omega)
  | 5, _, b, h => case5 b (by omega)
  | 6, _, b, h => case6 b (by omega)
  | 7, _, b, h => case7 b (by omega)
  | n + 8, h, _, _ => absurd h (by omega)
theorem all {x y : Int} (hx : 0 ≤ x ∧ x < 256) (hy : 0 ≤ y ∧ y < 256) : Vit.runT (tabR 1000000) 60 7 [.int .u8 x, .int .u8 y] mTab.next mTab isTrue = some () := by
  obtain ⟨a, rfl⟩ : ∃ a : Nat, x = a := ⟨x.toNat, by omega⟩
  obtain ⟨b, rfl⟩ : ∃ a : Nat, y = a := ⟨y.toNat, by omega⟩
  rw [same_run (n := 59) (by omega) (by omega)]
  have h6 := Nat.mod_lt a (show 0 < 8 by omega)
  exact runs _ h6 _ (Nat.mod_lt b (show 0 < 2 + a % 8 by omega))
end Go.Proofs.Ytffomiamkiakcaa.ShadeTriangle
