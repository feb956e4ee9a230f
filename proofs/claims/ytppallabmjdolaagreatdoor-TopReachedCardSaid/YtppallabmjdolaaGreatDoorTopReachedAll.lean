/- All inputs of the law TopReached. -/
import Derived.Test.YtppallabmjdolaaGreatDoorTopReachedRunA
import Derived.Test.YtppallabmjdolaaGreatDoorTopReachedRun1x2
import Derived.Test.YtppallabmjdolaaGreatDoorTopReachedRun2x1
import Derived.Test.YtppallabmjdolaaGreatDoorTopReachedRun2x2
import Derived.Test.YtppallabmjdolaaGreatDoorTabB
import Derived.Test.YtppallabmjdolaaGreatDoorL6
import Derived.Test.YtppallabmjdolaaGreatDoorCoreD
set_option linter.unusedSimpArgs false
set_option linter.unusedVariables false
set_option maxRecDepth 1000000
namespace Go.Proofs.YtppallabmjdolaaGreatDoor.TopReached
open Go Go.Vit Go.Proofs
attribute [local irreducible] Vit.runT loopS
theorem rM {lf n : Nat} : Vit.runT (tabM (β := Unit) lf) (n + 1) 6 = S6 lf (Vit.runT (tabM lf) n) := by kernel_rfl
theorem pre {n a b : Nat} {L : Nat} {m : Mem} {k : Value → Mem → Option Unit} (ha : a < 256) (hb : b < 256) :
    Vit.runT (tabM 1000000) (n + 1) 6 [.int .u8 (a : Int), .int .u8 (b : Int)] L m k = Vit.runT (tabM 1000000) (n + 1) 6 [.int .u8 ((a % 3 : Nat) : Int), .int .u8 ((b % 3 : Nat) : Int)] L m k := by
  have h1 : ∀ args, S6 1000000 (Vit.runT (tabM 1000000) n) args L m k = S6p 1000000 (Vit.runT (tabM 1000000) n) args L m k := fun args => (S6_ok ..).trans (S6p_ok ..).symm
  rw [rM, h1, h1]
  have h3 : (Value.int .i64 3) = Value.int .i64 ((3 : Nat) : Int) := rfl
  have h01 : (Value.int .i64 1) = Value.int .i64 ((1 : Nat) : Int) := rfl
  have hl := Nat.mod_lt a (show 0 < 3 by omega)
  have hl2 := Nat.mod_lt b (show 0 < 3 by omega)
  dsimp only [S6p, iofNat, inegSucc]
  rw [uc_e, uc_e, un0_e, uc_e, uc_e, un0_e, oCv_nat (by omega), h3, oInt_remN (by omega), h01, oInt_addN (by omega), oCv_nat (by omega), oInt_remN (by omega), oInt_addN (by omega), oCv_nat (by omega), oInt_remN (by omega), Nat.mod_mod, oInt_addN (by omega), oCv_nat (by omega), oInt_remN (by omega), Nat.mod_mod, oInt_addN (by omega)]
theorem all {a b : Nat} (ha : a < 256) (hb : b < 256) : Vit.runT (tabM 1000000) 200 6 [.int .u8 (a : Int), .int .u8 (b : Int)] mTab.next mTab isTrue = some () := by
  rw [pre (n := 199) ha hb]
  have h2 : b % 3 < 3 := Nat.mod_lt _ (by omega)
  have h1 : a % 3 < 3 := Nat.mod_lt _ (by omega)
  generalize b % 3 = B at h2 ⊢
  generalize a % 3 = A at h1 ⊢
  match A, h1, B, h2 with
  | 0, _, 0, _ => exact okU_e t0_0
  | 0, _, 1, _ => exact okU_e t0_1
  | 0, _, 2, _ => exact okU_e t0_2
  | 1, _, 0, _ => exact okU_e t1_0
  | 1, _, 1, _ => exact okU_e t1_1
  | 1, _, 2, _ => exact okU_e t1_2
  | 2, _, 0, _ => exact okU_e t2_0
  | 2, _, 1, _ => exact okU_e t2_1
  | 2, _, 2, _ => exact okU_e t2_2
end Go.Proofs.YtppallabmjdolaaGreatDoor.TopReached
