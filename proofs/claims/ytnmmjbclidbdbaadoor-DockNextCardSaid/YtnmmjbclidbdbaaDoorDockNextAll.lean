/- All inputs of the law DockNext. -/
import Derived.Test.YtnmmjbclidbdbaaDoorDockNextRun0
import Derived.Test.YtnmmjbclidbdbaaDoorDockNextRun1
import Derived.Test.YtnmmjbclidbdbaaDoorDockNextRun2
import Derived.Test.YtnmmjbclidbdbaaDoorDockNextRun3
import Derived.Test.YtnmmjbclidbdbaaDoorDockNextRun4
import Derived.Test.YtnmmjbclidbdbaaDoorDockNextRun5
import Derived.Test.YtnmmjbclidbdbaaDoorDockNextRun6
import Derived.Test.YtnmmjbclidbdbaaDoorDockNextRun7
import Derived.Test.YtnmmjbclidbdbaaDoorCoreD
set_option linter.unusedVariables false
namespace Go.Proofs.YtnmmjbclidbdbaaDoor.DockNext
open Go Go.Vit Go.Proofs
theorem rw7 {lf n : Nat} : Vit.runT (tabR (β := Unit) lf) (n + 1) 7 = S7 lf (Vit.runT (tabR lf) n) := by kernel_rfl
section
attribute [local irreducible] Vit.runT loopS
theorem pre {a b : Nat} (ha : a < 256) (hb : b < 256) (K : Value → Value → Option Unit) :
    (oCv .i64 (.int .u8 (a : Int)) fun t4 => oInt .rem .i64 t4 (.int .i64 (.ofNat 8)) fun t5 => oInt .add .i64 (.int .i64 (.ofNat 1)) t5 fun t6 => oCv .i64 (.int .u8 (b : Int)) fun t7 => oInt .rem .i64 t7 t6 fun t9 => K t6 t9)
      = K (.int .i64 ((1 + a % 8 : Nat) : Int)) (.int .i64 ((b % (1 + a % 8) : Nat) : Int)) := by
  have h6 := Nat.mod_lt a (show 0 < 8 by omega)
  rw [oCv_nat (by omega), show Int.ofNat 8 = ((8 : Nat) : Int) from rfl, oInt_remN (by omega), show Int.ofNat 1 = ((1 : Nat) : Int) from rfl, oInt_addN (by omega), oCv_nat (by omega), oInt_remN (by omega)]
theorem same_run {a b t lf n L : Nat} {m : Mem} {k : Value → Mem → Option Unit} (ha : a < 256) (hb : b < 256) :
    Vit.runT (tabR lf) (n + 1) 7 [.int .u8 (a : Int), .int .u8 (t : Int), .int .u8 (b : Int)] L m k = Vit.runT (tabR lf) (n + 1) 7 [.int .u8 ((a % 8 : Nat) : Int), .int .u8 (t : Int), .int .u8 ((b % (1 + a % 8) : Nat) : Int)] L m k := by
  have h6 := Nat.mod_lt a (show 0 < 8 by omega)
  have h7 := Nat.mod_lt b (show 0 < 1 + a % 8 by omega)
  rw [rw7]
  refine (pre ha hb _).trans (Eq.trans ?_ (pre (a := a % 8) (b := b % (1 + a % 8)) (by omega) (by omega) _).symm)
  rw [Nat.mod_mod, Nat.mod_mod]
end
def Runs (a t b : Nat) : Prop := Vit.runT (tabR 1000000) 60 7 [.int .u8 (a : Int), .int .u8 (t : Int), .int .u8 (b : Int)] mTab.next mTab isTrue = some ()
theorem of_all {i lo st : Nat} (h : ((List.range st).all fun t => (List.range (i + 1)).all fun w => okU (Vit.runT (tabR 1000000) 60 7 [.int .u8 (.ofNat i), .int .u8 (.ofNat (Nat.add lo t)), .int .u8 (.ofNat w)] mTab.next mTab isTrue)) = true)
    {t b : Nat} (h1 : lo ≤ t) (h2 : t < lo + st) (hb : b < i + 1) : Runs i t b := by
  have := List.all_eq_true.1 (List.all_eq_true.1 h (t - lo) (List.mem_range.2 (by omega))) b (List.mem_range.2 hb)
  have e : Nat.add lo (t - lo) = t := by show lo + (t - lo) = t; omega
  rw [e] at this
  exact okU_e this
theorem case0 {t b : Nat} (ht : t < 256) (hb : b < 1) : Runs 0 t b := by
  exact of_all r0_0 (by omega) (by omega) hb
theorem case1 {t b : Nat} (ht : t < 256) (hb : b < 2) : Runs 1 t b := by
  exact of_all r1_0 (by omega) (by omega) hb
theorem case2 {t b : Nat} (ht : t < 256) (hb : b < 3) : Runs 2 t b := by
  exact of_all r2_0 (by omega) (by omega) hb
theorem case3 {t b : Nat} (ht : t < 256) (hb : b < 4) : Runs 3 t b := by
  exact of_all r3_0 (by omega) (by omega) hb
theorem case4 {t b : Nat} (ht : t < 256) (hb : b < 5) : Runs 4 t b := by
  by_cases h0 : t < 128
  · exact of_all r4_0 (by omega) (by omega) hb
  exact of_all r4_128 (by omega) (by omega) hb
theorem case5 {t b : Nat} (ht : t < 256) (hb : b < 6) : Runs 5 t b := by
  by_cases h0 : t < 128
  · exact of_all r5_0 (by omega) (by omega) hb
  exact of_all r5_128 (by omega) (by omega) hb
theorem case6 {t b : Nat} (ht : t < 256) (hb : b < 7) : Runs 6 t b := by
  by_cases h0 : t < 64
  · exact of_all r6_0 (by omega) (by omega) hb
  by_cases h1 : t < 128
  · exact of_all r6_64 (by omega) (by omega) hb
  by_cases h2 : t < 192
  · exact of_all r6_128 (by omega) (by omega) hb
  exact of_all r6_192 (by omega) (by omega) hb
theorem case7 {t b : Nat} (ht : t < 256) (hb : b < 8) : Runs 7 t b := by
  by_cases h0 : t < 64
  · exact of_all r7_0 (by omega) (by omega) hb
  by_cases h1 : t < 128
  · exact of_all r7_64 (by omega) (by omega) hb
  by_cases h2 : t < 192
  · exact of_all r7_128 (by omega) (by omega) hb
  exact of_all r7_192 (by omega) (by omega) hb
theorem runs : ∀ a : Nat, a < 8 → ∀ t b : Nat, t < 256 → b < 1 + a → Runs a t b
  | 0, _, _, _, ht, hb => case0 ht (by omega)
  | 1, _, _, _, ht, hb => case1 ht (by omega)
  | 2, _, _, _, ht, hb => case2 ht (by omega)
  | 3, _, _, _, ht, hb => case3 ht (by omega)
  | 4, _, _, _, ht, hb => case4 ht (by omega)
  | 5, _, _, _, ht, hb => case5 ht (by omega)
  | 6, _, _, _, ht, hb => case6 ht (by omega)
  | 7, _, _, _, ht, hb => case7 ht (by omega)
  | n + 8, h, _, _, _, _ => absurd h (by omega)
theorem all {x y z : Int} (hx : 0 ≤ x ∧ x < 256) (hy : 0 ≤ y ∧ y < 256) (hz : 0 ≤ z ∧ z < 256) : Vit.runT (tabR 1000000) 60 7 [.int .u8 x, .int .u8 y, .int .u8 z] mTab.next mTab isTrue = some () := by
  obtain ⟨a, rfl⟩ : ∃ a : Nat, x = a := ⟨x.toNat, by omega⟩
  obtain ⟨t, rfl⟩ : ∃ a : Nat, y = a := ⟨y.toNat, by omega⟩
  obtain ⟨b, rfl⟩ : ∃ a : Nat, z = a := ⟨z.toNat, by omega⟩
  rw [same_run (n := 59) (by omega) (by omega)]
  have h6 := Nat.mod_lt a (show 0 < 8 by omega)
  exact runs _ h6 _ _ (by omega) (Nat.mod_lt b (show 0 < 1 + a % 8 by omega))
end Go.Proofs.YtnmmjbclidbdbaaDoor.DockNext
