/- All inputs of the law BondCounted. -/
import Derived.Test.YticlkfhmmcepjaaDoorBondCountedRun0
import Derived.Test.YticlkfhmmcepjaaDoorBondCountedRun1
import Derived.Test.YticlkfhmmcepjaaDoorBondCountedRun2
import Derived.Test.YticlkfhmmcepjaaDoorW11
set_option linter.unusedVariables false
namespace Go.Proofs.YticlkfhmmcepjaaDoor.BondCounted
open Go Go.Vit Go.Proofs
theorem rw7 {lf n : Nat} : Vit.runT (tabW (β := Unit) lf) (n + 1) 7 = S7 lf (Vit.runT (tabW lf) n) := by kernel_rfl
section
attribute [local irreducible] Vit.runT loopS
theorem pre {a b : Nat} (ha : a < 256) (hb : b < 256) (K : Value → Value → Option Unit) :
    (oCv .i64 (.int .u8 (a : Int)) fun t4 => oInt .rem .i64 t4 (.int .i64 (.ofNat 6)) fun t5 => oInt .add .i64 (.int .i64 (.ofNat 1)) t5 fun t6 => oCv .i64 (.int .u8 (b : Int)) fun t7 => oInt .add .i64 t6 (.int .i64 (.ofNat 1)) fun t8 => oInt .rem .i64 t7 t8 fun t9 => K t6 t9)
      = K (.int .i64 ((1 + a % 6 : Nat) : Int)) (.int .i64 ((b % (2 + a % 6) : Nat) : Int)) := by
  have h6 := Nat.mod_lt a (show 0 < 6 by omega)
  rw [oCv_nat (by omega), show Int.ofNat 6 = ((6 : Nat) : Int) from rfl, oInt_remN (by omega), show Int.ofNat 1 = (1 : Int) from rfl, oInt_add ⟨by omega, by omega⟩, oCv_nat (by omega), oInt_add ⟨by omega, by omega⟩]
  rw [show (1 : Int) + ((a % 6 : Nat) : Int) + 1 = ((2 + a % 6 : Nat) : Int) by omega, oInt_remN (by omega), show (1 : Int) + ((a % 6 : Nat) : Int) = ((1 + a % 6 : Nat) : Int) by omega]
theorem same_run {a b lf n L : Nat} {m : Mem} {k : Value → Mem → Option Unit} (ha : a < 256) (hb : b < 256) :
    Vit.runT (tabW lf) (n + 1) 7 [.int .u8 (a : Int), .int .u8 (b : Int)] L m k = Vit.runT (tabW lf) (n + 1) 7 [.int .u8 ((a % 6 : Nat) : Int), .int .u8 ((b % (2 + a % 6) : Nat) : Int)] L m k := by
  have h6 := Nat.mod_lt a (show 0 < 6 by omega)
  have h7 := Nat.mod_lt b (show 0 < 2 + a % 6 by omega)
  rw [rw7]
  refine (pre ha hb _).trans (Eq.trans ?_ (pre (a := a % 6) (b := b % (2 + a % 6)) (by omega) (by omega) _).symm)
  rw [Nat.mod_mod, Nat.mod_mod]
end
def Runs (a b : Nat) : Prop := Vit.runT (tabW 1000000) 60 7 [.int .u8 (a : Int), .int .u8 (b : Int)] mTab.next mTab isTrue = some ()
theorem case1 : ∀ b : Nat, b < 2 → Runs 0 b
  | 0, _ => e1_0
  | 1, _ => e1_1
  | b + 2, h => absurd h (by omega)
theorem case2 : ∀ b : Nat, b < 3 → Runs 1 b
  | 0, _ => e2_0
  | 1, _ => e2_1
  | 2, _ => e2_2
  | b + 3, h => absurd h (by omega)
theorem case3 : ∀ b : Nat, b < 4 → Runs 2 b
  | 0, _ => e3_0
  | 1, _ => e3_1
  | 2, _ => e3_2
  | 3, _ => e3_3
  | b + 4, h => absurd h (by omega)
theorem case4 : ∀ b : Nat, b < 5 → Runs 3 b
  | 0, _ => e4_0
  | 1, _ => e4_1
  | 2, _ => e4_2
  | 3, _ => e4_3
  | 4, _ => e4_4
  | b + 5, h => absurd h (by omega)
theorem case5 : ∀ b : Nat, b < 6 → Runs 4 b
  | 0, _ => e5_0
  | 1, _ => e5_1
  | 2, _ => e5_2
  | 3, _ => e5_3
  | 4, _ => e5_4
  | 5, _ => e5_5
  | b + 6, h => absurd h (by omega)
theorem case6 : ∀ b : Nat, b < 7 → Runs 5 b
  | 0, _ => e6_0
  | 1, _ => e6_1
  | 2, _ => e6_2
  | 3, _ => e6_3
  | 4, _ => e6_4
  | 5, _ => e6_5
  | 6, _ => e6_6
  | b + 7, h => absurd h (by omega)
theorem runs2 : ∀ a b : Nat, a < 6 → b < 2 + a → Runs a b
  | 0, b, _, h => case1 b (by omega)
  | 1, b, _, h => case2 b (by omega)
  | 2, b, _, h => case3 b (by omega)
  | 3, b, _, h => case4 b (by omega)
  | 4, b, _, h => case5 b (by omega)
  | 5, b, _, h => case6 b (by omega)
  | a + 6, b, h, _ => absurd h (by omega)
theorem runs {a b : Nat} (ha : a < 256) (hb : b < 256) : Runs a b := by
  unfold Runs
  rw [same_run ha hb]
  exact runs2 (a % 6) (b % (2 + a % 6)) (Nat.mod_lt _ (by omega)) (Nat.mod_lt _ (by omega))
end Go.Proofs.YticlkfhmmcepjaaDoor.BondCounted
