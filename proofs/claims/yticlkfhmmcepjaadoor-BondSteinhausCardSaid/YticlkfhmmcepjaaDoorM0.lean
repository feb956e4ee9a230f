/- Seals; what the answers are for groups that are in range. -/
import Derived.Test.YticlkfhmmcepjaaDoorW11
import Derived.Test.YticlkfhmmcepjaaDoorCoreD
set_option linter.unusedSimpArgs false
set_option linter.unusedVariables false
set_option maxRecDepth 20000
namespace Go.Vit
open Go Go.Proofs
attribute [local irreducible] runT loopS
theorem madeL_lt {a0 a1 most : Nat} {gl : List Nat} {g : Nat} (h : g ∈ madeL a0 a1 gl most) : g < 2 ^ (1 + a0 % most) := by
  obtain ⟨x, _, rfl⟩ := List.mem_map.1 h
  exact Nat.mod_lt _ (Nat.two_pow_pos _)
theorem madeL_len (a0 a1 most : Nat) (gl : List Nat) : (madeL a0 a1 gl most).length ≤ 8 := by
  unfold madeL
  rw [List.length_map, List.length_take]
  have := Nat.mod_lt a1 (show 0 < 9 by omega)
  omega
theorem nn_ci (l : List Nat) : nn (ci l) = l := by
  unfold nn ci
  rw [List.map_map]
  exact (List.map_congr_left fun x _ => by simp).trans (List.map_id l)
/-- Groups that are in range are sound. -/
theorem chk_ci {a : Nat} {l : List Nat} (h1 : 1 ≤ a) (h6 : a ≤ 6) (hl : l.length ≤ 64) (hg : ∀ g ∈ l, g < 2 ^ a) : chk (a : Int) (ci l) = 0 := by
  have hp := pow_le64 h6
  unfold chk
  rw [if_pos ⟨by omega, by omega⟩, if_neg (by rw [ci_length]; omega), Int.toNat_natCast, if_neg]
  rw [List.any_eq_true]
  rintro ⟨x, hx, hb⟩
  simp only [ci, List.mem_map] at hx
  obtain ⟨g, hg2, rfl⟩ := hx
  have := hg g hg2
  rw [decide_eq_true ⟨by omega, by omega⟩] at hb
  cases hb
theorem errG_ci {a g : Nat} {l : List Nat} (h1 : 1 ≤ a) (h6 : a ≤ 6) (hl : l.length ≤ 64) (hg : ∀ g ∈ l, g < 2 ^ a) (h : g < 2 ^ a) : errG (a : Int) (ci l) (g : Int) = 0 := by
  have hp := pow_le64 h6
  unfold errG
  rw [if_pos (chk_ci h1 h6 hl hg), if_pos]
  unfold isGrp
  rw [Int.toNat_natCast]
  omega
theorem mayX_ci {a g : Nat} {l : List Nat} (h1 : 1 ≤ a) (h6 : a ≤ 6) (hl : l.length ≤ 64) (hg : ∀ g ∈ l, g < 2 ^ a) (h : g < 2 ^ a) : mayX (a : Int) (ci l) (g : Int) = mayB l g := by
  unfold mayX
  rw [if_pos (errG_ci h1 h6 hl hg h), nn_ci, Int.toNat_natCast]
theorem openX_ci {a g : Nat} {l : List Nat} (h1 : 1 ≤ a) (h6 : a ≤ 6) (hl : l.length ≤ 64) (hg : ∀ g ∈ l, g < 2 ^ a) (h : g < 2 ^ a) : openX (a : Int) (ci l) (g : Int) = hits l g := by
  unfold openX
  rw [if_pos (errG_ci h1 h6 hl hg h), nn_ci, Int.toNat_natCast, openB_hits]
theorem mayB_snoc (l : List Nat) (x g : Nat) : mayB (l ++ [x]) g = (mayB l g || sub x g) := by
  unfold mayB
  rw [List.any_append]
  simp [sub]
theorem hits_snoc (l : List Nat) (x g : Nat) : hits (l ++ [x]) g = (hits l g && meet g x) := by
  rw [hits_append]; simp [hits]
theorem mayB_mono {l : List Nat} {a b : Nat} (h : sub a b = true) (hm : mayB l a = true) : mayB l b = true := by
  obtain ⟨o, ho, hs⟩ := mayB_iff.1 hm
  exact mayB_iff.2 ⟨o, ho, sub_trans hs h⟩
theorem seal_of {ns : List (IntKind × Int)} (h : ns.map (·.1) = [.u8, .u8, .u8, .u8, .u8, .u8, .u8, .u8, .u8, .u8] ∧ ∀ p ∈ ns, p.1.has p.2) : ∃ (a0 a1 : Nat) (gl : List Nat), Value.agg ⟨intsV ns⟩ = sealV a0 a1 gl ∧ a0 < 256 ∧ a1 < 256 ∧ gl.length = 8 ∧ ∀ g ∈ gl, g < 256 := by
  obtain ⟨l, h1, h2, h3⟩ := u8s_of (n := 10) h.1 h.2
  match l, h2 with
  | a0 :: a1 :: gl, h2 =>
    refine ⟨a0, a1, gl, ?_, h3 _ (by simp), h3 _ (by simp), by simpa using h2, fun g hg => h3 g (by simp [hg])⟩
    rw [h1]; rfl
theorem rdn_all {s : Nat} {cs : List Value} {n : Nat} (h : cs.length = n) : rdn (some ⟨s, cs, none⟩) 0 n = some (.agg ⟨cs⟩) := by
  rw [rdn_e _ _ _ _ (by omega), List.drop_zero, List.take_of_length_le (by omega)]
end Go.Vit
