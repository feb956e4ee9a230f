/- The program of this seat: lasting slots, the tables, the start of a run. -/
import Derived.Test.YticlkfhmmcepjaaDoorCards
import Derived.Test.YticlkfhmmcepjaaDoorTie
import Derived.Test.YticlkfhmmcepjaaDoorVitQ
set_option linter.unusedSimpArgs false
set_option linter.unusedVariables false
namespace Go.Vit
open Go Go.Proofs Go.Proofs.YticlkfhmmcepjaaDoor Go.ChangeShapes Go.WideShapes Go.RowKit

def KK (f : Nat) : List Nat := (cond (Nat.ble f 65) (cond (Nat.ble f 32) (cond (Nat.ble f 15) (cond (Nat.ble f 7) (cond (Nat.ble f 3) (cond (Nat.ble f 1) (cond (Nat.ble f 0) [] []) (cond (Nat.ble f 2) [] [4, 18, 16, 17, 15, 14, 12, 13, 11, 10, 8, 9, 7, 6, 5, 3, 2, 1, 0])) (cond (Nat.ble f 5) (cond (Nat.ble f 4) [4, 8, 6, 7, 5, 1, 0] [2, 22, 25, 26, 24, 185, 186, 187, 21, 18, 19, 12, 16, 17, 14, 15, 13, 96, 97, 91, 92, 11, 74, 75, 76, 8, 6, 9, 7, 5, 4, 3, 1, 0]) (cond (Nat.ble f 6) [2, 29, 32, 30, 191, 192, 193, 187, 188, 27, 28, 19, 25, 18, 23, 17, 21, 26, 24, 22, 15, 14, 16, 98, 99, 100, 12, 10, 8, 13, 11, 9, 6, 7, 5, 45, 46, 4, 3, 1, 0] [4, 21, 155, 156, 157, 18, 19, 13, 14, 16, 17, 15, 10, 11, 9, 52, 12, 46, 47, 7, 8, 6, 5, 1, 0]))) (cond (Nat.ble f 11) (cond (Nat.ble f 9) (cond (Nat.ble f 8) [2, 18, 20, 161, 162, 163, 17, 16, 15, 14, 12, 11, 8, 10, 13, 6, 9, 7, 5, 4, 3, 1, 0] [4, 17, 15, 16, 14, 13, 11, 12, 10, 9, 7, 8, 6, 5, 1, 2, 0]) (cond (Nat.ble f 10) [4, 15, 14, 13, 11, 12, 10, 9, 7, 8, 6, 5, 1, 2, 0] [0, 18, 17, 16, 15, 14, 13, 20, 21, 19, 11, 9, 7, 5, 12, 10, 8, 6, 4, 2, 1])) (cond (Nat.ble f 13) (cond (Nat.ble f 12) [8, 22, 21, 19, 17, 15, 20, 18, 16, 14, 12, 3, 13, 2, 11, 10, 9, 1, 4, 0] [4, 26, 158, 159, 25, 24, 22, 20, 18, 16, 13, 23, 21, 19, 17, 15, 14, 12, 6, 11, 8, 3, 10, 41, 42, 9, 7, 32, 33, 5, 2, 1, 0]) (cond (Nat.ble f 14) [2, 0] [0, 18, 17, 16, 15, 14, 13, 11, 9, 7, 5, 3, 1, 12, 10, 8, 6, 4, 2])))) (cond (Nat.ble f 23) (cond (Nat.ble f 19) (cond (Nat.ble f 17) (cond (Nat.ble f 16) [3, 4, 2, 5, 1, 0] [3, 5, 6, 8, 7, 2, 4, 1, 0]) (cond (Nat.ble f 18) [5, 4, 9, 38, 39, 8, 6, 3, 7, 2, 1, 0] [5, 4, 7, 3, 6, 2, 1, 0])) (cond (Nat.ble f 21) (cond (Nat.ble f 20) [3, 4, 2, 5, 1, 0] [3, 5, 8, 7, 9, 6, 2, 4, 1, 0]) (cond (Nat.ble f 22) [4, 5, 1, 0] [5, 6, 7, 21, 22, 4, 1, 0]))) (cond (Nat.ble f 27) (cond (Nat.ble f 25) (cond (Nat.ble f 24) [5, 6, 7, 4, 1, 0] [5, 4, 6, 9, 7, 21, 22, 23, 1, 2, 0]) (cond (Nat.ble f 26) [4, 1, 0] [3, 2, 8, 6, 19, 20, 21, 4, 5, 1, 0])) (cond (Nat.ble f 29) (cond (Nat.ble f 28) [4, 3, 0, 1] [4, 3, 0, 1]) (cond (Nat.ble f 30) [4, 1, 0] (cond (Nat.ble f 31) [5, 4, 1, 6, 7, 2, 0] [5, 4, 1, 6, 7, 2, 0])))))) (cond (Nat.ble f 48) (cond (Nat.ble f 40) (cond (Nat.ble f 36) (cond (Nat.ble f 34) (cond (Nat.ble f 33) [5, 4, 1, 6, 7, 2, 0] [5, 4, 7, 1, 6, 8, 15, 16, 10, 11, 0]) (cond (Nat.ble f 35) [3, 0, 1] [3, 0, 1])) (cond (Nat.ble f 38) (cond (Nat.ble f 37) [3, 2, 4, 5, 1, 0] [3, 2, 4, 5, 1, 0]) (cond (Nat.ble f 39) [3, 2, 6, 9, 8, 24, 25, 26, 4, 5, 1, 0] [2, 0]))) (cond (Nat.ble f 44) (cond (Nat.ble f 42) (cond (Nat.ble f 41) [4, 1, 0] [3, 1, 0]) (cond (Nat.ble f 43) [2, 0] [2, 4, 5, 3, 0])) (cond (Nat.ble f 46) (cond (Nat.ble f 45) [5, 4, 1, 6, 2, 0] [3, 2, 5, 7, 8, 6, 4, 1, 0]) (cond (Nat.ble f 47) [3, 2, 4, 1, 0] [2, 4, 1, 0])))) (cond (Nat.ble f 56) (cond (Nat.ble f 52) (cond (Nat.ble f 50) (cond (Nat.ble f 49) [2, 1, 0] [5, 4, 6, 7, 1, 2, 0]) (cond (Nat.ble f 51) [5, 4, 1, 6, 2, 0] [3, 2, 5, 7, 8, 6, 4, 1, 0])) (cond (Nat.ble f 54) (cond (Nat.ble f 53) [3, 2, 5, 7, 8, 6, 4, 1, 0] [2, 4, 1, 0]) (cond (Nat.ble f 55) [2, 1, 0] [0]))) (cond (Nat.ble f 60) (cond (Nat.ble f 58) (cond (Nat.ble f 57) [2, 0] [2, 0]) (cond (Nat.ble f 59) [6, 7, 2, 1, 0] [4, 5, 2, 9, 7, 8, 16, 17, 1, 10, 11, 12, 0])) (cond (Nat.ble f 62) (cond (Nat.ble f 61) [2, 3, 0] [0]) (cond (Nat.ble f 63) [3, 2, 4, 1, 0] (cond (Nat.ble f 64) [2, 9, 6, 5, 8, 22, 23, 24, 3, 15, 16, 17, 1, 0] [2, 3, 5, 6, 1, 4, 0]))))))) (cond (Nat.ble f 98) (cond (Nat.ble f 81) (cond (Nat.ble f 73) (cond (Nat.ble f 69) (cond (Nat.ble f 67) (cond (Nat.ble f 66) [3, 2, 4, 1, 0] [2, 1, 0]) (cond (Nat.ble f 68) [4, 3, 2, 1, 0] [4, 6, 5, 1, 7, 10, 11, 12, 2, 0])) (cond (Nat.ble f 71) (cond (Nat.ble f 70) [4, 1, 2, 5, 0] [4, 5, 1, 2, 6, 0]) (cond (Nat.ble f 72) [2, 3, 5, 7, 8, 9, 1, 0] [4, 1, 0]))) (cond (Nat.ble f 77) (cond (Nat.ble f 75) (cond (Nat.ble f 74) [6, 2, 0, 1] [6, 2, 1, 0]) (cond (Nat.ble f 76) [2, 3, 0] [3, 1, 0])) (cond (Nat.ble f 79) (cond (Nat.ble f 78) [3, 1, 0] [4, 2, 1, 0]) (cond (Nat.ble f 80) [2, 0] [2, 0])))) (cond (Nat.ble f 89) (cond (Nat.ble f 85) (cond (Nat.ble f 83) (cond (Nat.ble f 82) [2, 0] [4, 5, 1, 7, 8, 0]) (cond (Nat.ble f 84) [18, 17, 16, 14, 15, 13, 9, 11, 12, 8, 3, 0, 10, 1, 2] [2, 0])) (cond (Nat.ble f 87) (cond (Nat.ble f 86) [4, 5, 1, 0] [2, 1, 0]) (cond (Nat.ble f 88) [3, 1, 0] [4, 1, 0]))) (cond (Nat.ble f 93) (cond (Nat.ble f 91) (cond (Nat.ble f 90) [3, 1, 0] [2, 0]) (cond (Nat.ble f 92) [2, 0] [0, 7, 2, 6, 1])) (cond (Nat.ble f 95) (cond (Nat.ble f 94) [7, 10, 6, 0, 9, 8, 2, 1] [0, 10, 8, 7, 9, 6, 1, 2]) (cond (Nat.ble f 96) [7, 6, 49, 12, 11, 9, 10, 0, 8, 1, 2] (cond (Nat.ble f 97) [0, 7, 6, 2, 1] [6, 10, 9, 0, 2, 7, 8, 1])))))) (cond (Nat.ble f 115) (cond (Nat.ble f 106) (cond (Nat.ble f 102) (cond (Nat.ble f 100) (cond (Nat.ble f 99) [4, 1, 0] [8, 10, 9, 2, 3, 1, 0]) (cond (Nat.ble f 101) [9, 8, 11, 10, 2, 3, 1, 0] [2, 0])) (cond (Nat.ble f 104) (cond (Nat.ble f 103) [2, 0] [3, 0, 1]) (cond (Nat.ble f 105) [3, 0, 2, 9, 8, 1] [2, 0]))) (cond (Nat.ble f 110) (cond (Nat.ble f 108) (cond (Nat.ble f 107) [2, 0] [6, 2, 1, 0]) (cond (Nat.ble f 109) [10, 3, 4, 2, 1, 0] [2, 0])) (cond (Nat.ble f 112) (cond (Nat.ble f 111) [9, 8, 3, 1, 2, 0] []) (cond (Nat.ble f 113) [] (cond (Nat.ble f 114) [] []))))) (cond (Nat.ble f 123) (cond (Nat.ble f 119) (cond (Nat.ble f 117) (cond (Nat.ble f 116) [] []) (cond (Nat.ble f 118) [] [])) (cond (Nat.ble f 121) (cond (Nat.ble f 120) [] []) (cond (Nat.ble f 122) [] []))) (cond (Nat.ble f 127) (cond (Nat.ble f 125) (cond (Nat.ble f 124) [] []) (cond (Nat.ble f 126) [] [])) (cond (Nat.ble f 129) (cond (Nat.ble f 128) [] []) (cond (Nat.ble f 130) [] (cond (Nat.ble f 131) [] []))))))))
def db32 : List Int := [0,1,28,2,29,14,24,3,30,22,20,15,25,17,4,8,31,27,13,23,21,19,16,7,26,12,18,6,11,5,10,9]
def db64 : List Int := [0,1,56,2,57,49,28,3,61,58,42,50,38,29,17,4,62,47,59,36,45,43,51,22,53,39,33,30,24,18,12,5,63,55,48,27,60,41,37,16,46,35,44,21,52,32,23,11,54,26,40,15,34,20,31,10,25,14,19,9,13,8,7,6]
def u8s (l : List Int) : List Value := l.map fun n => .int .u8 n
def k0 : Blk := ⟨1, u8s db32, none⟩
def k1 : Blk := ⟨1, u8s db64, none⟩
def m0 : Mem := ⟨.e, 0⟩
def mTab : Mem := ⟨Tr.set depth (Tr.set depth .e 0 (some k0)) 1 (some k1), 2⟩
def es0 : List Ent := [⟨0, 0, 0⟩, ⟨1, 0, 0⟩]
def laid0 : List (String × DataW Unit) := [("math/bits.deBruijn32tab", Rows.laid_math_bits_deBruijn32tab), ("math/bits.deBruijn64tab", Rows.laid_math_bits_deBruijn64tab)]

theorem prog_ok : Prog Tryd.prog := by
  refine ⟨fun f fn h => ?_, by kernel_rfl⟩
  have all : (Tryd.prog.funcs.all fun fn => !(fn.name == "runtime.NumGoroutine")) = true := by kernel_rfl
  rw [Array.all_eq_true] at all
  obtain ⟨hf, hfn⟩ := Array.getElem?_eq_some_iff.1 h
  have := all f hf
  rw [hfn] at this
  simpa using this

theorem rd0 : mTab.rd 0 = some k0 := by kernel_rfl
theorem rd1 : mTab.rd 1 = some k1 := by kernel_rfl
/-- The run's start, in a world that holds the tables. -/
theorem start {W : World} {U : Nat} (h : laidMetH Tryd.prog laid0 W) : Rel 2 mTab.next W U (fun b => es0[b]?) mTab W := by
  have h : laidMet Tryd.prog laid0 W := h
  obtain ⟨s0, c0⟩ := tab_of_laid (zs := db32) (k := .u8) (g := 0) (t := 125) (e := 5) (n := 32) (by kernel_rfl) (by kernel_rfl) Tryd.underlying125 Tryd.underlying5 (by kernel_rfl) (by kernel_rfl) h (by exact List.Mem.head _)
  obtain ⟨s1, c1⟩ := tab_of_laid (zs := db64) (k := .u8) (g := 1) (t := 126) (e := 5) (n := 64) (by kernel_rfl) (by kernel_rfl) Tryd.underlying126 Tryd.underlying5 (by kernel_rfl) (by kernel_rfl) h (by exact List.Mem.tail _ (List.Mem.head _))
  have two : ∀ (b : Nat) (e : Ent), es0[b]? = some e → (b = 0 ∧ e = ⟨0, 0, 0⟩) ∨ (b = 1 ∧ e = ⟨1, 0, 0⟩) := fun b e hb => by
    match b, hb with
    | 0, hb => cases hb; exact .inl ⟨rfl, rfl⟩
    | 1, hb => cases hb; exact .inr ⟨rfl, rfl⟩
    | b + 2, hb => cases hb
  have cells : ∀ (l : List Int) (i : Nat) (v : Value), (u8s l)[i]? = some v → ∃ z, l[i]? = some z ∧ v = .int .u8 z := fun l i v hv => by
    simp only [u8s, List.getElem?_map, Option.map_eq_some_iff] at hv
    obtain ⟨z, hz, rfl⟩ := hv
    exact ⟨z, hz, rfl⟩
  refine Rel.start rfl rfl (fun g hg => ?_) (fun b e hb => ?_) (fun b e k hb hk => ?_)
  · match g, hg with
    | 0, _ => rfl
    | 1, _ => rfl
  · rcases two b e hb with ⟨rfl, rfl⟩ | ⟨rfl, rfl⟩
    · exact s0
    · exact s1
  · rcases two b e hb with ⟨rfl, rfl⟩ | ⟨rfl, rfl⟩
    · rw [rd0] at hk
      cases hk
      refine ⟨rfl, fun i v hv => ?_⟩
      obtain ⟨z, hz, rfl⟩ := cells _ _ _ hv
      exact ⟨_, .int _ _, by simpa using c0 i z hz⟩
    · rw [rd1] at hk
      cases hk
      refine ⟨rfl, fun i v hv => ?_⟩
      obtain ⟨z, hz, rfl⟩ := cells _ _ _ hv
      exact ⟨_, .int _ _, by simpa using c1 i z hz⟩

theorem own : ownKnob Tryd.prog.godebug = none := by kernel_rfl
/-- A world for witnesses: the settled one, the tables holding what their initialisers lay. -/
def fill (l : List Int) : Obj → Obj
  | .cells _ t frozen => .cells (u8s l).toArray t frozen
  | o => o
noncomputable def laidWorld (os : Os) : World :=
  { World.holding Tryd.prog os ⟨#[], #[], []⟩ with heap := ((World.holding Tryd.prog os ⟨#[], #[], []⟩).heap.modify 0 (fill db32)).modify 1 (fill db64) }
end Go.Vit
