/- What gaps of a wrapper are to the steps of its marks: all wrappers of at most 60 marks and 7 turns, reckoned. -/
import Derived.Test.YtppallabmjdolaaGreatDoorG3
set_option linter.unusedSimpArgs false
set_option linter.unusedVariables false
set_option maxRecDepth 100000
namespace Go.Vit
open Go
def oneS (g : List Nat) : Nat → Nat
  | 0 => 0
  | i + 1 => max (oneS g i) (g.getD i 0)
def twoS (g : List Nat) : Nat → Nat
  | 0 => 0
  | i + 1 => if 0 < i then max (twoS g i) (g.getD i 0 + g.getD (i - 1) 0) else twoS g i
def free (M S T : Nat) : Bool := (List.range T).all fun j => Nat.beq j 0 || !(Nat.beq (j * S % M) 0)
def plc (M S T : Nat) : List Nat := (List.range T).map fun j => j * S % M
def lawOk (M S T : Nat) : Bool := !(free M S T) || (Nat.ble T (M / Nat.gcd M S) && (okAll M S T && (decide (leX (ci (plc M S T)) false = (oneS (gapsN M S T) (T - 1) : Int)) &&
  decide (leX (ci (plc M S T)) true = ((if T = 2 then oneS (gapsN M S T) (T - 1) else twoS (gapsN M S T) (T - 1) : Nat) : Int)))))
def lawAll (M : Nat) : Bool := (List.range M).all fun S => (List.range 8).all fun T => Nat.beq T 0 || lawOk M S T
def lawPart (a n : Nat) : Bool := (List.range n).all fun i => lawAll (a + i)
theorem lawPart_at {a n M : Nat} (h : lawPart a n = true) (h1 : a ≤ M) (h2 : M < a + n) : lawAll M = true := by
  have := List.all_eq_true.1 h (M - a) (List.mem_range.2 (by omega))
  rwa [show a + (M - a) = M by omega] at this
end Go.Vit
