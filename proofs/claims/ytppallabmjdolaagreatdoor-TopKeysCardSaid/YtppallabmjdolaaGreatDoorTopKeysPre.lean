/- A run of the law TopKeys depends on residues only. -/
import Derived.Test.YtppallabmjdolaaGreatDoorTabB
import Derived.Test.YtppallabmjdolaaGreatDoorL3
import Derived.Test.YtppallabmjdolaaGreatDoorCoreD
set_option linter.unusedSimpArgs false
set_option linter.unusedVariables false
set_option maxRecDepth 1000000
namespace Go.Proofs.YtppallabmjdolaaGreatDoor.TopKeys
open Go Go.Vit Go.Proofs
attribute [local irreducible] Vit.runT loopS
theorem rM {lf n : Nat} : Vit.runT (tabM (β := Unit) lf) (n + 1) 3 = S3 lf (Vit.runT (tabM lf) n) := by kernel_rfl
theorem pre {n a b : Nat} {L : Nat} {m : Mem} {k : Value → Mem → Option Unit} (ha : a < 256) (hb : b < 256) :
    Vit.runT (tabM 1000000) (n + 1) 3 [.int .u8 (a : Int), .int .u8 (b : Int)] L m k = Vit.runT (tabM 1000000) (n + 1) 3 [.int .u8 ((a % 6 : Nat) : Int), .int .u8 ((b % (1 + a % 6) : Nat) : Int)] L m k := by
  have h1 : ∀ args, S3 1000000 (Vit.runT (tabM 1000000) n) args L m k = S3p 1000000 (Vit.runT (tabM 1000000) n) args L m k := fun args => (S3_ok ..).trans (S3p_ok ..).symm
  rw [rM, h1, h1]
  have h6 : (Value.int .i64 6) = Value.int .i64 ((6 : Nat) : Int) := rfl
  have h01 : (Value.int .i64 1) = Value.int .i64 ((1 : Nat) : Int) := rfl
  have hl := Nat.mod_lt a (show 0 < 6 by omega)
  have hl2 := Nat.mod_lt b (show 0 < 1 + a % 6 by omega)
  dsimp only [S3p, iofNat, inegSucc]
  rw [uc_e, uc_e, un0_e, uc_e, uc_e, un0_e, oCv_nat (by omega), h6, oInt_remN (by omega), h01, oInt_addN (by omega), oCv_nat (by omega), oInt_remN (by omega), oInt_addN (by omega), oCv_nat (by omega), oInt_remN (by omega), oInt_addN (by omega), Nat.mod_mod, oCv_nat (by omega), oInt_remN (by omega), Nat.mod_mod, oInt_addN (by omega)]
end Go.Proofs.YtppallabmjdolaaGreatDoor.TopKeys
