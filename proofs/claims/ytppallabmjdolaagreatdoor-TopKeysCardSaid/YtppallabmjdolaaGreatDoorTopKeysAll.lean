/- All inputs of the law TopKeys. -/
import Derived.Test.YtppallabmjdolaaGreatDoorTopKeysRunA
import Derived.Test.YtppallabmjdolaaGreatDoorTopKeysRun4x0
import Derived.Test.YtppallabmjdolaaGreatDoorTopKeysRun4x1
import Derived.Test.YtppallabmjdolaaGreatDoorTopKeysRun4x2
import Derived.Test.YtppallabmjdolaaGreatDoorTopKeysRun4x3
import Derived.Test.YtppallabmjdolaaGreatDoorTopKeysRun4x4
import Derived.Test.YtppallabmjdolaaGreatDoorTopKeysRun5x0
import Derived.Test.YtppallabmjdolaaGreatDoorTopKeysRun5x1
import Derived.Test.YtppallabmjdolaaGreatDoorTopKeysRun5x2
import Derived.Test.YtppallabmjdolaaGreatDoorTopKeysRun5x3
import Derived.Test.YtppallabmjdolaaGreatDoorTopKeysRun5x4
import Derived.Test.YtppallabmjdolaaGreatDoorTopKeysRun5x5
import Derived.Test.YtppallabmjdolaaGreatDoorTopKeysPre
set_option linter.unusedSimpArgs false
set_option linter.unusedVariables false
set_option maxRecDepth 1000000
namespace Go.Proofs.YtppallabmjdolaaGreatDoor.TopKeys
open Go Go.Vit Go.Proofs
theorem all {a b : Nat} (ha : a < 256) (hb : b < 256) : Vit.runT (tabM 1000000) 200 3 [.int .u8 (a : Int), .int .u8 (b : Int)] mTab.next mTab isTrue = some () := by
  rw [pre (n := 199) ha hb]
  have h2 := Nat.mod_lt b (show 0 < 1 + a % 6 by omega)
  have h1 : a % 6 < 6 := Nat.mod_lt _ (by omega)
  generalize b % (1 + a % 6) = B at h2 ⊢
  generalize a % 6 = A at h1 h2 ⊢
  match A, h1, B, h2 with
  | 0, _, 0, _ => exact okU_e t0_0
  | 1, _, 0, _ => exact okU_e t1_0
  | 1, _, 1, _ => exact okU_e t1_1
  | 2, _, 0, _ => exact okU_e t2_0
  | 2, _, 1, _ => exact okU_e t2_1
  | 2, _, 2, _ => exact okU_e t2_2
  | 3, _, 0, _ => exact okU_e t3_0
  | 3, _, 1, _ => exact okU_e t3_1
  | 3, _, 2, _ => exact okU_e t3_2
  | 3, _, 3, _ => exact okU_e t3_3
  | 4, _, 0, _ => exact okU_e t4_0
  | 4, _, 1, _ => exact okU_e t4_1
  | 4, _, 2, _ => exact okU_e t4_2
  | 4, _, 3, _ => exact okU_e t4_3
  | 4, _, 4, _ => exact okU_e t4_4
  | 5, _, 0, _ => exact okU_e t5_0
  | 5, _, 1, _ => exact okU_e t5_1
  | 5, _, 2, _ => exact okU_e t5_2
  | 5, _, 3, _ => exact okU_e t5_3
  | 5, _, 4, _ => exact okU_e t5_4
  | 5, _, 5, _ => exact okU_e t5_5
end Go.Proofs.YtppallabmjdolaaGreatDoor.TopKeys
