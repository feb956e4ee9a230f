/- Plain laws: wider bounds, and all blends below, within and above. -/
import Derived.Test.YtgimcgdehgbljaaP8
set_option linter.unusedSimpArgs false
set_option linter.unusedVariables false
namespace Go.Vit
theorem fitB_mono {ws b : List Nat} {lo hi lo' hi' : Int} (h1 : lo' ≤ lo) (h2 : hi ≤ hi') (h : fitB ws lo hi b = true) : fitB ws lo' hi' b = true := by
  unfold fitB at h ⊢
  have := of_decide_eq_true h
  exact decide_eq_true ⟨by omega, by omega⟩
theorem fitL_mono {ws : List Nat} {s : Nat} {lo hi lo' hi' : Int} (h10 : ws.length ≤ 10) (hs : s ≤ ws.length) (h1 : lo' ≤ lo) (h2 : hi ≤ hi') : (fitL ws s lo hi).length ≤ (fitL ws s lo' hi').length := by
  rw [fitL_rnd h10 hs, fitL_rnd h10 hs, ← List.countP_eq_length_filter, ← List.countP_eq_length_filter]
  exact List.countP_mono_left fun b _ h => fitB_mono h1 h2 h
theorem fitL_all {ws : List Nat} {s : Nat} {lo hi : Int} (h10 : ws.length ≤ 10) (hs : s ≤ ws.length) (hws : ∀ w ∈ ws, w ≤ 50) (h1 : -5 ≤ lo) (h2 : lo ≤ hi) (h3 : hi ≤ 320) :
    (fitL ws s (-10) (lo - 1)).length + (fitL ws s lo hi).length + (fitL ws s (hi + 1) 600).length = chs ws.length s := by
  rw [fitL_rnd h10 hs, fitL_rnd h10 hs, fitL_rnd h10 hs, ← rnd_len h10 hs]
  have hb : ∀ b ∈ rnd ws.length s, wgt ws b ≤ 500 := fun b hb => by
    have h4 := rnd_bl _ _ hs _ hb
    have h5 := wgt_le hws b
    have h6 := h4.len
    omega
  generalize rnd ws.length s = R at hb ⊢
  induction R with
  | nil => rfl
  | cons b R ih =>
    have ih := ih fun c hc => hb c (List.mem_cons_of_mem _ hc)
    have h5 := hb b (List.mem_cons_self ..)
    simp only [← List.countP_eq_length_filter] at ih ⊢
    rw [List.countP_cons, List.countP_cons, List.countP_cons, List.length_cons]
    unfold fitB at ih ⊢
    by_cases c1 : (wgt ws b : Int) ≤ lo - 1
    · have e1 : decide (-10 ≤ (wgt ws b : Int) ∧ (wgt ws b : Int) ≤ lo - 1) = true := decide_eq_true ⟨by omega, by omega⟩
      have e2 : decide (lo ≤ (wgt ws b : Int) ∧ (wgt ws b : Int) ≤ hi) = false := decide_eq_false (by omega)
      have e3 : decide (hi + 1 ≤ (wgt ws b : Int) ∧ (wgt ws b : Int) ≤ 600) = false := decide_eq_false (by omega)
      rw [e1, e2, e3, if_pos rfl, if_neg Bool.false_ne_true]; omega
    · by_cases c2 : (wgt ws b : Int) ≤ hi
      · have e1 : decide (-10 ≤ (wgt ws b : Int) ∧ (wgt ws b : Int) ≤ lo - 1) = false := decide_eq_false (by omega)
        have e2 : decide (lo ≤ (wgt ws b : Int) ∧ (wgt ws b : Int) ≤ hi) = true := decide_eq_true ⟨by omega, by omega⟩
        have e3 : decide (hi + 1 ≤ (wgt ws b : Int) ∧ (wgt ws b : Int) ≤ 600) = false := decide_eq_false (by omega)
        rw [e1, e2, e3, if_pos rfl, if_neg Bool.false_ne_true]; omega
      · have e1 : decide (-10 ≤ (wgt ws b : Int) ∧ (wgt ws b : Int) ≤ lo - 1) = false := decide_eq_false (by omega)
        have e2 : decide (lo ≤ (wgt ws b : Int) ∧ (wgt ws b : Int) ≤ hi) = false := decide_eq_false (by omega)
        have e3 : decide (hi + 1 ≤ (wgt ws b : Int) ∧ (wgt ws b : Int) ≤ 600) = true := decide_eq_true ⟨by omega, by omega⟩
        rw [e1, e2, e3, if_pos rfl, if_neg Bool.false_ne_true]; omega
/-- What the nearest one is, for a recipe and a blend that pass. -/
theorem nr_of {ws b : List Nat} {lo hi : Int} (h1 : 1 ≤ ws.length) (h10 : ws.length ≤ 10) (hws : ∀ w ∈ ws, w ≤ 50) (hlh : lo ≤ hi) {kk : Nat} (hb : Bl ws.length kk b) :
    (fitL ws kk lo hi = [] → nrE (ci ws) lo hi (ci b) = 12 ∧ nrL (ci ws) lo hi (ci b) = []) ∧
    (fitL ws kk lo hi ≠ [] → nrE (ci ws) lo hi (ci b) = 0 ∧ nrL (ci ws) lo hi (ci b) = (nearF b (fitL ws kk lo hi)).1 ∧ (nearF b (fitL ws kk lo hi)).1 ∈ fitL ws kk lo hi ∧ ∀ c ∈ fitL ws kk lo hi, awayN (nearF b (fitL ws kk lo hi)).1 b ≤ awayN c b) := by
  have hz := bldE_z (lo := lo) (hi := hi) h1 h10 hws hlh hb
  have hE : nrE (ci ws) lo hi (ci b) = if fitL ws kk lo hi = [] then 12 else 0 := by
    unfold nrE; rw [if_pos hz, nni_ci, ci_length, hb.len]
  refine ⟨fun h => ?_, fun h => ?_⟩
  · rw [if_pos h] at hE
    exact ⟨hE, if_neg (by rw [hE]; decide)⟩
  · rw [if_neg h] at hE
    obtain ⟨q6, q7, q8⟩ := nearF_min (t := b) (l := fitL ws kk lo hi) (fun c hc => by
      have h1 := (away_le (fitL_bl h10 hb.le hc).1 hb).1
      have := hb.le
      omega) h
    refine ⟨hE, ?_, q6, q8⟩
    unfold nrL; rw [if_pos hE, nni_ci, nni_ci, ci_length, hb.len]
end Go.Vit
