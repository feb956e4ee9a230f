/- All inputs of the law DutyPairs. -/
import Derived.Test.YtcaoifacidnhcaaDoorDutyPairsRun0
import Derived.Test.YtcaoifacidnhcaaDoorDutyPairsRun1
import Derived.Test.YtcaoifacidnhcaaDoorDutyPairsRun2
namespace Go.Proofs.YtcaoifacidnhcaaDoor.DutyPairs
open Go Go.Vit Go.Proofs
theorem all : ∀ n : Nat, Vit.runT (tabR 1000000) 60 6 [.int .i64 (.ofNat n)] mTab.next mTab isTrue = some ()
  | 0 => e0
  | 1 => e1
  | 2 => e2
  | 3 => e3
  | 4 => e4
  | 5 => e5
  | 6 => e6
  | 7 => e7
  | 8 => e8
  | 9 => e9
  | 10 => e10
  | 11 => e11
  | 12 => e12
  | 13 => e13
  | 14 => e14
  | 15 => e15
  | 16 => e16
  | 17 => e17
  | 18 => e18
  | 19 => e19
  | 20 => e20
  | 21 => e21
  | 22 => e22
  | 23 => e23
  | 24 => e24
  | 25 => e25
  | 26 => e26
  | 27 => e27
  | 28 => e28
  | 29 => e29
  | 30 => e30
  | 31 => e31
  | 32 => e32
  | 33 => e33
  | 34 => e34
  | 35 => e35
  | 36 => e36
  | 37 => e37
  | 38 => e38
  | 39 => e39
  | 40 => e40
  | a + 41 => eb a
theorem runs : ∀ x : Int, Vit.runT (tabR 1000000) 60 6 [.int .i64 x] mTab.next mTab isTrue = some ()
  | .ofNat n => all n
  | .negSucc a => en a
end Go.Proofs.YtcaoifacidnhcaaDoor.DutyPairs
