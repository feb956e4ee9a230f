/- All inputs of the law BondAny. -/
import Derived.Test.YticlkfhmmcepjaaDoorBondAnyRun
namespace Go.Proofs.YticlkfhmmcepjaaDoor.BondAny
open Go Go.Vit Go.Proofs

def Runs (h k : Int) : Prop := Vit.runT (tab 1000000) 60 4 [.int .i64 h, .int .i64 k] mTab.next mTab isTrue = some ()
theorem case1 (k : Int) : Runs (.ofNat 1) k := by
  match k with
  | .negSucc b => exact n1 b
  | .ofNat 0 => exact e1_0
  | .ofNat 1 => exact e1_1
  | .ofNat (b + 2) => exact b1 b
theorem case2 (k : Int) : Runs (.ofNat 2) k := by
  match k with
  | .negSucc b => exact n2 b
  | .ofNat 0 => exact e2_0
  | .ofNat 1 => exact e2_1
  | .ofNat 2 => exact e2_2
  | .ofNat (b + 3) => exact b2 b
theorem case3 (k : Int) : Runs (.ofNat 3) k := by
  match k with
  | .negSucc b => exact n3 b
  | .ofNat 0 => exact e3_0
  | .ofNat 1 => exact e3_1
  | .ofNat 2 => exact e3_2
  | .ofNat 3 => exact e3_3
  | .ofNat (b + 4) => exact b3 b
theorem case4 (k : Int) : Runs (.ofNat 4) k := by
  match k with
  | .negSucc b => exact n4 b
  | .ofNat 0 => exact e4_0
  | .ofNat 1 => exact e4_1
  | .ofNat 2 => exact e4_2
  | .ofNat 3 => exact e4_3
  | .ofNat 4 => exact e4_4
  | .ofNat (b + 5) => exact b4 b
theorem case5 (k : Int) : Runs (.ofNat 5) k := by
  match k with
  | .negSucc b => exact n5 b
  | .ofNat 0 => exact e5_0
  | .ofNat 1 => exact e5_1
  | .ofNat 2 => exact e5_2
  | .ofNat 3 => exact e5_3
  | .ofNat 4 => exact e5_4
  | .ofNat 5 => exact e5_5
  | .ofNat (b + 6) => exact b5 b
theorem case6 (k : Int) : Runs (.ofNat 6) k := by
  match k with
  | .negSucc b => exact n6 b
  | .ofNat 0 => exact e6_0
  | .ofNat 1 => exact e6_1
  | .ofNat 2 => exact e6_2
  | .ofNat 3 => exact e6_3
  | .ofNat 4 => exact e6_4
  | .ofNat 5 => exact e6_5
  | .ofNat 6 => exact e6_6
  | .ofNat (b + 7) => exact b6 b
theorem runs (h k : Int) : Runs h k := by
  match h with
  | .negSucc a => exact neg a k
  | .ofNat 0 => exact zero k
  | .ofNat 1 => exact case1 k
  | .ofNat 2 => exact case2 k
  | .ofNat 3 => exact case3 k
  | .ofNat 4 => exact case4 k
  | .ofNat 5 => exact case5 k
  | .ofNat 6 => exact case6 k
  | .ofNat (a + 7) => exact big a k
theorem all (h : Int) (_ : (Lit.int .i64 h).wf = true) (k : Int) (_ : (Lit.int .i64 k).wf = true) : Vit.runT (tab 1000000) 60 4 [.int .i64 h, .int .i64 k] mTab.next mTab isTrue = some () := runs h k
end Go.Proofs.YticlkfhmmcepjaaDoor.BondAny
