/- All inputs of the law TopWound. -/
import Derived.Test.YtppallabmjdolaaDoorTopWoundRun0
import Derived.Test.YtppallabmjdolaaDoorTopWoundRun1
import Derived.Test.YtppallabmjdolaaDoorTopWoundRun2
import Derived.Test.YtppallabmjdolaaDoorTopWoundRun3
import Derived.Test.YtppallabmjdolaaDoorTopWoundRun4
import Derived.Test.YtppallabmjdolaaDoorCoreD
set_option linter.unusedSimpArgs false
set_option linter.unusedVariables false
set_option maxRecDepth 1000000
namespace Go.Proofs.YtppallabmjdolaaDoor.TopWound
open Go Go.Vit Go.Proofs
attribute [local irreducible] Vit.runT loopS
theorem rM {lf n : Nat} : Vit.runT (tabM (β := Unit) lf) (n + 1) 4 = S4 lf (Vit.runT (tabM lf) n) := by kernel_rfl
theorem pre {n a b : Nat} {L : Nat} {m : Mem} {k : Value → Mem → Option Unit} (ha : a < 256) (hb : b < 256) :
    Vit.runT (tabM 1000000) (n + 1) 4 [.int .u8 (a : Int), .int .u8 (b : Int)] L m k = Vit.runT (tabM 1000000) (n + 1) 4 [.int .u8 ((a % 16 : Nat) : Int), .int .u8 ((b % (1 + a % 16) : Nat) : Int)] L m k := by
  rw [rM]
  have h16 : (Value.int .i64 16) = Value.int .i64 ((16 : Nat) : Int) := rfl
  have h01 : (Value.int .i64 1) = Value.int .i64 ((1 : Nat) : Int) := rfl
  have hl := Nat.mod_lt a (show 0 < 16 by omega)
  have hl2 := Nat.mod_lt b (show 0 < 1 + a % 16 by omega)
  dsimp only [S4, iofNat, inegSucc]
  rw [uc_e, uc_e, un0_e, uc_e, uc_e, un0_e, oCv_nat (by omega), h16, oInt_remN (by omega), h01, oInt_addN (by omega), oCv_nat (by omega), oInt_remN (by omega), oCv_nat (by omega), oInt_remN (by omega), oInt_addN (by omega), Nat.mod_mod, oCv_nat (by omega), oInt_remN (by omega), Nat.mod_mod]
theorem all {a b : Nat} (ha : a < 256) (hb : b < 256) : Vit.runT (tabM 1000000) 200 4 [.int .u8 (a : Int), .int .u8 (b : Int)] mTab.next mTab isTrue = some () := by
  rw [pre (n := 199) ha hb]
  have h2 := Nat.mod_lt b (show 0 < 1 + a % 16 by omega)
  have h1 : a % 16 < 16 := Nat.mod_lt _ (by omega)
  generalize b % (1 + a % 16) = B at h2 ⊢
  generalize a % 16 = A at h1 h2 ⊢
  match A, h1 with
  | 0, _ => exact okU_e (List.all_eq_true.1 t0 B (List.mem_range.2 (by omega)))
  | 1, _ => exact okU_e (List.all_eq_true.1 t1 B (List.mem_range.2 (by omega)))
  | 2, _ => exact okU_e (List.all_eq_true.1 t2 B (List.mem_range.2 (by omega)))
  | 3, _ => exact okU_e (List.all_eq_true.1 t3 B (List.mem_range.2 (by omega)))
  | 4, _ => exact okU_e (List.all_eq_true.1 t4 B (List.mem_range.2 (by omega)))
  | 5, _ => exact okU_e (List.all_eq_true.1 t5 B (List.mem_range.2 (by omega)))
  | 6, _ => exact okU_e (List.all_eq_true.1 t6 B (List.mem_range.2 (by omega)))
  | 7, _ => exact okU_e (List.all_eq_true.1 t7 B (List.mem_range.2 (by omega)))
  | 8, _ => exact okU_e (List.all_eq_true.1 t8 B (List.mem_range.2 (by omega)))
  | 9, _ => exact okU_e (List.all_eq_true.1 t9 B (List.mem_range.2 (by omega)))
  | 10, _ => exact okU_e (List.all_eq_true.1 t10 B (List.mem_range.2 (by omega)))
  | 11, _ => exact okU_e (List.all_eq_true.1 t11 B (List.mem_range.2 (by omega)))
  | 12, _ => exact okU_e (List.all_eq_true.1 t12 B (List.mem_range.2 (by omega)))
  | 13, _ => exact okU_e (List.all_eq_true.1 t13 B (List.mem_range.2 (by omega)))
  | 14, _ => exact okU_e (List.all_eq_true.1 t14 B (List.mem_range.2 (by omega)))
  | 15, _ => exact okU_e (List.all_eq_true.1 t15 B (List.mem_range.2 (by omega)))
  | A + 16, h => exact absurd h (by omega)
end Go.Proofs.YtppallabmjdolaaDoor.TopWound
