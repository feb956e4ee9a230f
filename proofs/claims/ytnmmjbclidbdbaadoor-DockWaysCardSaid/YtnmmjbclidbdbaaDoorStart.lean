/- The program of this seat: the tables, the start of a run. -/
import Derived.Test.YtnmmjbclidbdbaaDoorCards
import Derived.Test.YtnmmjbclidbdbaaDoorTie
import Derived.Test.YtnmmjbclidbdbaaDoorFs
import Derived.Test.YtnmmjbclidbdbaaDoorCoreC
set_option linter.unusedSimpArgs false
set_option linter.unusedVariables false
namespace Go.Vit
open Go Go.Proofs Go.Proofs.YtnmmjbclidbdbaaDoor Go.ChangeShapes Go.WideShapes Go.RowKit

def db32 : List Int := [0,1,28,2,29,14,24,3,30,22,20,15,25,17,4,8,31,27,13,23,21,19,16,7,26,12,18,6,11,5,10,9]
def db64 : List Int := [0,1,56,2,57,49,28,3,61,58,42,50,38,29,17,4,62,47,59,36,45,43,51,22,53,39,33,30,24,18,12,5,63,55,48,27,60,41,37,16,46,35,44,21,52,32,23,11,54,26,40,15,34,20,31,10,25,14,19,9,13,8,7,6]
def u8s (l : List Int) : List Value := l.map fun n => .int .u8 n
def k0 : Blk := ⟨1, u8s db32, none⟩
def k1 : Blk := ⟨1, u8s db64, none⟩
def mTab : Mem := ⟨Tr.set depth (Tr.set depth .e 0 (some k0)) 1 (some k1), 2⟩
def es0 : List Ent := [⟨0, 0, 0⟩, ⟨1, 0, 0⟩]
def laid0 : List (String × DataW Unit) := [("math/bits.deBruijn32tab", Rows.laid_math_bits_deBruijn32tab), ("math/bits.deBruijn64tab", Rows.laid_math_bits_deBruijn64tab)]

theorem prog_ok : Prog Tryd.prog := by
  refine ⟨fun f fn h => ?_, by kernel_rfl⟩
  have all : (Tryd.prog.funcs.all fun fn => !(fn.name == "runtime.NumGoroutine")) = true := by kernel_rfl
  rw [Array.all_eq_true] at all
  obtain ⟨hf, hfn⟩ := Array.getElem?_eq_some_iff.1 h
  have := all f hf
  rw [hfn] at this
  simpa using this

theorem rd0 : mTab.rd 0 = some k0 := by kernel_rfl
theorem rd1 : mTab.rd 1 = some k1 := by kernel_rfl
/-- The run's start, in a world that holds the tables. -/
theorem start {W : World} {U : Nat} (h : laidMetH Tryd.prog laid0 W) : Rel 2 mTab.next ⟨W, ltab Tryd.prog fsT⟩ U (fun b => es0[b]?) mTab W := by
  have h : laidMet Tryd.prog laid0 W := h
  obtain ⟨s0, c0⟩ := tab_of_laid (zs := db32) (k := .u8) (g := 0) (t := 118) (e := 5) (n := 32) (by kernel_rfl) (by kernel_rfl) Tryd.underlying118 Tryd.underlying5 (by kernel_rfl) (by kernel_rfl) h (by exact List.Mem.head _)
  obtain ⟨s1, c1⟩ := tab_of_laid (zs := db64) (k := .u8) (g := 1) (t := 119) (e := 5) (n := 64) (by kernel_rfl) (by kernel_rfl) Tryd.underlying119 Tryd.underlying5 (by kernel_rfl) (by kernel_rfl) h (by exact List.Mem.tail _ (List.Mem.head _))
  have two : ∀ (b : Nat) (e : Ent), es0[b]? = some e → (b = 0 ∧ e = ⟨0, 0, 0⟩) ∨ (b = 1 ∧ e = ⟨1, 0, 0⟩) := fun b e hb => by
    match b, hb with
    | 0, hb => cases hb; exact .inl ⟨rfl, rfl⟩
    | 1, hb => cases hb; exact .inr ⟨rfl, rfl⟩
    | b + 2, hb => cases hb
  have cells : ∀ (l : List Int) (i : Nat) (v : Value), (u8s l)[i]? = some v → ∃ z, l[i]? = some z ∧ v = .int .u8 z := fun l i v hv => by
    simp only [u8s, List.getElem?_map, Option.map_eq_some_iff] at hv
    obtain ⟨z, hz, rfl⟩ := hv
    exact ⟨z, hz, rfl⟩
  refine Rel.start rfl (fun g hg => ?_) (fun b e hb => ?_) (fun b e k hb hk => ?_)
  · match g, hg with
    | 0, _ => rfl
    | 1, _ => rfl
  · rcases two b e hb with ⟨rfl, rfl⟩ | ⟨rfl, rfl⟩
    · exact s0
    · exact s1
  · rcases two b e hb with ⟨rfl, rfl⟩ | ⟨rfl, rfl⟩
    · rw [rd0] at hk
      cases hk
      refine ⟨rfl, fun i v hv => ?_⟩
      obtain ⟨z, hz, rfl⟩ := cells _ _ _ hv
      exact ⟨_, .int _ _, by simpa using c0 i z hz⟩
    · rw [rd1] at hk
      cases hk
      refine ⟨rfl, fun i v hv => ?_⟩
      obtain ⟨z, hz, rfl⟩ := cells _ _ _ hv
      exact ⟨_, .int _ _, by simpa using c1 i z hz⟩

theorem own : ownKnob Tryd.prog.godebug = none := by kernel_rfl
/-- A world for witnesses: the settled one, the tables holding what their initialisers lay. -/
def fill (l : List Int) : Obj → Obj
  | .cells _ t frozen => .cells (u8s l).toArray t frozen
  | o => o
noncomputable def laidWorld (os : Os) : World :=
  { World.holding Tryd.prog os ⟨#[], #[], []⟩ with heap := ((World.holding Tryd.prog os ⟨#[], #[], []⟩).heap.modify 0 (fill db32)).modify 1 (fill db64) }
end Go.Vit
