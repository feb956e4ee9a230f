/- Plain laws: recipes. -/
import Derived.Test.YtgimcgdehgbljaaP6
set_option linter.unusedSimpArgs false
set_option linter.unusedVariables false
namespace Go.Vit
def wgt (ws b : List Nat) : Nat := (b.map fun x => ws.getD x 0).sum
theorem wgt_cons (ws : List Nat) (x : Nat) (b : List Nat) : wgt ws (x :: b) = ws.getD x 0 + wgt ws b := by
  unfold wgt; rw [List.map_cons, List.sum_cons]
theorem wgt_append (ws a b : List Nat) : wgt ws (a ++ b) = wgt ws a + wgt ws b := by
  unfold wgt; rw [List.map_append, List.sum_append]
theorem wgt_step (ws b : List Nat) {i : Nat} (h : i < b.length) : wgt ws (b.take (i + 1)) = wgt ws (b.take i) + ws.getD b[i] 0 := by
  rw [List.take_add_one, List.getElem?_eq_getElem h, Option.toList_some, wgt_append]
  unfold wgt; simp
theorem getD_le {ws : List Nat} (hws : ∀ w ∈ ws, w ≤ 50) (x : Nat) : ws.getD x 0 ≤ 50 := by
  rw [List.getD_eq_getElem?_getD]
  by_cases h : x < ws.length
  · rw [List.getElem?_eq_getElem h]; exact hws _ (List.getElem_mem h)
  · rw [List.getElem?_eq_none (by omega)]; simp
theorem wgt_le {ws : List Nat} (hws : ∀ w ∈ ws, w ≤ 50) : ∀ b, wgt ws b ≤ 50 * b.length
  | [] => Nat.le_refl _
  | x :: b => by
    have := wgt_le hws b
    have := getD_le hws x
    rw [wgt_cons, List.length_cons]; omega
/-- What the check of a recipe answers. -/
def chkR (l : List Int) (lo hi : Int) : Int := if l.length = 0 then 4 else if 10 < l.length then 3 else if l.any (fun w => !decide (0 ≤ w ∧ w ≤ 50)) then 1 else if hi < lo then 7 else 0
theorem chkR_ok {l : List Int} {lo hi : Int} (h : chkR l lo hi = 0) : ∃ ws : List Nat, l = ci ws ∧ 1 ≤ ws.length ∧ ws.length ≤ 10 ∧ (∀ w ∈ ws, w ≤ 50) ∧ lo ≤ hi := by
  unfold chkR at h
  split at h
  · cases h
  · rename_i h1
    split at h
    · cases h
    · rename_i h2
      split at h
      · cases h
      · rename_i h3
        split at h
        · cases h
        · rename_i h4
          have h5 : ∀ w ∈ l, 0 ≤ w ∧ w ≤ 50 := fun w hw => by
            have h3 := Bool.eq_false_iff.2 h3
            rw [List.any_eq_false] at h3
            simpa using h3 w hw
          have h6 : l = ci (l.map Int.toNat) := by
            unfold ci
            rw [List.map_map]
            conv => lhs; rw [← List.map_id l]
            refine List.map_congr_left fun w hw => ?_
            have := h5 w hw
            show w = ((w.toNat : Nat) : Int)
            omega
          refine ⟨l.map Int.toNat, h6, ?_, ?_, fun w hw => ?_, by omega⟩
          · rw [List.length_map]; omega
          · rw [List.length_map]; omega
          · obtain ⟨w', hw', rfl⟩ := List.mem_map.1 hw
            have := h5 w' hw'
            omega
theorem chkR_z {ws : List Nat} {lo hi : Int} (h1 : 1 ≤ ws.length) (h10 : ws.length ≤ 10) (hws : ∀ w ∈ ws, w ≤ 50) (hlh : lo ≤ hi) : chkR (ci ws) lo hi = 0 := by
  unfold chkR
  rw [ci_length, if_neg (by omega), if_neg (by omega), if_neg, if_neg (by omega)]
  rw [Bool.not_eq_true, List.any_eq_false]
  intro w hw
  obtain ⟨w', hw', rfl⟩ := List.mem_map.1 hw
  have := hws w' hw'
  simp; omega
/-- .. and that of a recipe and a blend. -/
def bldE (l : List Int) (lo hi : Int) (b : List Int) : Int := if chkR l lo hi = 0 then chkB l.length b else chkR l lo hi
theorem bldE_ok {l : List Int} {lo hi : Int} {b : List Int} (h : bldE l lo hi b = 0) : ∃ ws b' : List Nat, l = ci ws ∧ b = ci b' ∧ 1 ≤ ws.length ∧ ws.length ≤ 10 ∧ (∀ w ∈ ws, w ≤ 50) ∧ lo ≤ hi ∧ Bl ws.length b'.length b' := by
  unfold bldE at h
  split at h
  · rename_i h1
    obtain ⟨ws, rfl, h2, h3, h4, h5⟩ := chkR_ok h1
    obtain ⟨n, b', h6, _, _, rfl, h7⟩ := chkB_bl h
    rw [ci_length] at h6
    have : n = ws.length := by omega
    subst this
    exact ⟨ws, b', rfl, rfl, h2, h3, h4, h5, h7⟩
  · contradiction
theorem bldE_z {ws b : List Nat} {lo hi : Int} {kk : Nat} (h1 : 1 ≤ ws.length) (h10 : ws.length ≤ 10) (hws : ∀ w ∈ ws, w ≤ 50) (hlh : lo ≤ hi) (hb : Bl ws.length kk b) : bldE (ci ws) lo hi (ci b) = 0 := by
  unfold bldE
  rw [if_pos (chkR_z h1 h10 hws hlh), ci_length]
  exact chkB_ok h1 h10 hb
def fitB (ws : List Nat) (lo hi : Int) (b : List Nat) : Bool := decide (lo ≤ (wgt ws b : Int) ∧ (wgt ws b : Int) ≤ hi)
/-- Those of the first i places that fit. -/
def fitI (ws : List Nat) (s : Nat) (lo hi : Int) (i : Nat) : List (List Nat) := ((List.range i).map (nthK s)).filter (fitB ws lo hi)
def fitL (ws : List Nat) (s : Nat) (lo hi : Int) : List (List Nat) := fitI ws s lo hi (chs ws.length s)
theorem fitI_t {ws : List Nat} {s : Nat} {lo hi : Int} {i : Nat} (h : fitB ws lo hi (nthK s i) = true) : fitI ws s lo hi (i + 1) = fitI ws s lo hi i ++ [nthK s i] := by
  unfold fitI; rw [List.range_succ, List.map_append, List.filter_append]; simp [h]
theorem fitI_f {ws : List Nat} {s : Nat} {lo hi : Int} {i : Nat} (h : fitB ws lo hi (nthK s i) = false) : fitI ws s lo hi (i + 1) = fitI ws s lo hi i := by
  unfold fitI; rw [List.range_succ, List.map_append, List.filter_append]; simp [h]
theorem fitI_len (ws : List Nat) (s : Nat) (lo hi : Int) (i : Nat) : (fitI ws s lo hi i).length ≤ i := by
  have := List.length_filter_le (fitB ws lo hi) ((List.range i).map (nthK s))
  rw [List.length_map, List.length_range] at this
  exact this
theorem rnd_map {N k : Nat} (hN : N ≤ 10) (hk : k ≤ N) : rnd N k = (List.range (chs N k)).map (nthK k) := by
  refine List.ext_getElem (by rw [rnd_len hN hk, List.length_map, List.length_range]) fun i h1 h2 => ?_
  rw [List.getElem_map, List.getElem_range]
  have hi : i < chs N k := by rw [rnd_len hN hk] at h1; exact h1
  rw [(rnd_at hN hk hi).1, List.getD_eq_getElem?_getD, List.getElem?_eq_getElem h1]; rfl
theorem fitL_rnd {ws : List Nat} {s : Nat} {lo hi : Int} (hN : ws.length ≤ 10) (hk : s ≤ ws.length) : fitL ws s lo hi = (rnd ws.length s).filter (fitB ws lo hi) := by
  rw [rnd_map hN hk]; rfl
end Go.Vit
