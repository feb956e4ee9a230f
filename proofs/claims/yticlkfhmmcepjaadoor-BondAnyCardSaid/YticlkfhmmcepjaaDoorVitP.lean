/- Calls to any depth are sound; a whole run. -/
import Derived.Test.YticlkfhmmcepjaaDoorVitO
set_option linter.unusedSimpArgs false
set_option linter.unusedVariables false
namespace Go.Vit
open Go

section
variable {P : Program} {G R U L : Nat} {B : World} {call : CallT} {ι : Inj} {m : Mem} {w : World}

def resOne (tmps : Array Value) (r : ResultVar) : Sem Value := match r with
  | .tmp t => pure (tmps.getD t Go.undef)
  | .cell x t => do loadVar t (← asAddr (tmps.getD x Go.undef))
theorem resA_ok (h : Rel G R B U ι m w) {K : List Nat} {fr : Fr} {a : Act} (hf : FR ι (fget K fr) a) : ∀ (l : List ResultVar) (vs : List Value), resA P K fr m l = some vs →
    ∃ us, VL ι vs us ∧ (l.mapM (resOne a.tmps)).run P w = .ok us w
  | [], vs, hr => by cases hr; exact ⟨[], VL.nil ι, rfl⟩
  | r :: l, vs, hr => by
    simp only [resA] at hr
    split at hr
    · rename_i v hv
      split at hr
      · rename_i vs' hvs
        cases hr
        obtain ⟨us, h1, h2⟩ := resA_ok h hf l vs' hvs
        cases r with
        | tmp t =>
          exact ⟨a.tmps.getD t Go.undef :: us, VL.cons (hf t v hv) h1, by simp only [resOne, List.mapM_cons, Sem.run_bind, Sem.run_pure, Result.andThen_ok, h2]⟩
        | cell x t =>
          simp only [] at hv
          split at hv
          · rename_i y hy
            have hr := hf x y hy
            obtain ⟨u, g1, g2⟩ := aload_ok (P := P) h hv hr
            have : ∃ ad, a.tmps.getD x Go.undef = .pointer (some ad) := by
              unfold aload at hv
              split at hv
              · generalize a.tmps.getD x Go.undef = z at hr; cases hr; exact ⟨_, rfl⟩
              · cases hv
            obtain ⟨ad, had⟩ := this
            rw [had] at g1
            have g3 : (loadVar t ad).run P w = .ok u w := by simpa [Instr.loadAt, Instr.sureAddr] using g1
            have g4 : (resOne a.tmps (.cell x t)).run P w = .ok u w := by
              simp only [resOne, had]
              exact g3
            refine ⟨u :: us, VL.cons g2 h1, ?_⟩
            simp only [List.mapM_cons, Sem.run_bind, Sem.run_pure, Result.andThen_ok, g4, h2]
          · cases hv
      · cases hr
    · cases hr

theorem oneOr_ok {vs us : List Value} (h : VL ι vs us) : VR ι (oneOr vs) (if hs : us.toArray.size = 1 then us.toArray[0] else .tuple us.toArray) := by
  match vs, us, h with
  | [], us, h =>
    obtain rfl := h.inv_nil
    exact VL.tuple (VL.nil ι)
  | [v], us, h =>
    obtain ⟨u, l, rfl, h1, h2⟩ := h.inv_cons
    obtain rfl := h2.inv_nil
    exact h1
  | v :: v' :: l, us, h =>
    have hl := h.1
    have hne : ¬ us.toArray.size = 1 := by
      simp only [List.size_toArray]
      rw [← hl]
      simp
    rw [dif_neg hne]
    exact VL.tuple h

theorem results_ok (h : Rel G R B U ι m w) {K : List Nat} {fr : Fr} {a : Act} (hf : FR ι (fget K fr) a) {fn : Func} {vs : List Value} (hr : resA P K fr m fn.results.toList = some vs) :
    ∃ u, (results fn a.tmps).run P w = .ok u w ∧ VR ι (oneOr vs) u := by
  obtain ⟨us, h1, h2⟩ := resA_ok (P := P) h hf _ _ hr
  refine ⟨_, ?_, oneOr_ok h1⟩
  have h3 : (fn.results.mapM (resOne a.tmps)).run P w = .ok us.toArray w := by
    rw [Array.mapM_eq_mapM_toList, Sem.run_map, h2]
    rfl
  have h4 : results fn a.tmps = (do let vs ← fn.results.mapM (resOne a.tmps); pure (if h : vs.size = 1 then vs[0] else .tuple vs)) := rfl
  rw [h4, Sem.run_bind, h3]
  rfl

theorem initPs_get (args : List Value) : ∀ (K : List Nat) (t j : Nat) (v : Value), pos K t = some j → lget (initPs args K) j = some v → v = (args[t]?).getD Go.undef
  | [], t, j, v, h, _ => by cases h
  | k :: K, t, j, v, h, hv => by
    simp only [pos] at h
    split at h
    · rename_i hk
      have hk' := Nat.eq_of_beq_eq_true hk
      subst hk'
      cases h
      simp only [initPs, lget, lget_eq, List.getElem?_cons_zero, Option.some.injEq] at hv
      rw [← hv]
      cases args[k]? <;> rfl
    · split at h
      · rename_i i hi
        cases h
        simp only [initPs, lget] at hv
        exact initPs_get args K t i v hi hv
      · cases h

theorem evF_ok (hP : Prog P) (KK : FuncId → List Nat) (lf : Nat) {call : CallT} (ih : CallOk P G R B call) : CallOk P G R B (evF P G KK lf call) := by
  have opn : ∀ f args L m v m', evF P G KK lf call f args L m = some (v, m') → ∃ fn c e fr vs, P.funcs[f]? = some fn ∧ fn.body = some c ∧ args.length ≤ fn.ntmps ∧
      ev P G fn.ntmps (KK f) call lf L c ⟨initPs args (KK f), []⟩ m = some (e, (fr, m')) ∧ e ≤ 1 ∧ resA P (KK f) fr m' fn.results.toList = some vs ∧ v = oneOr vs := by
    intro f args L m v m' h
    simp only [evF] at h
    split at h
    · cases h
    · rename_i fn hfn
      split at h
      · cases h
      · rename_i c hc
        split at h
        · cases h
        · rename_i hlen
          split at h
          · cases h
          · rename_i e fr m1 hev
            split at h
            · cases h
            · rename_i he
              split at h
              · rename_i vs hvs
                simp only [Option.some.injEq, Prod.mk.injEq] at h
                obtain ⟨rfl, rfl⟩ := h
                exact ⟨fn, c, e, fr, vs, hfn, hc, Nat.le_of_ble_eq_true hlen, hev, Nat.le_of_ble_eq_true he, hvs, rfl⟩
              · cases h
  refine ⟨fun f args L m v m' hm hL h => ?_, fun f args L m v m' h => ?_, fun f args L m v m' h U ι w cargs hr hR hL hU hvl => ?_⟩
  · obtain ⟨fn, c, e, fr, vs, h1, h2, h3, h4, h5, h6, h7⟩ := opn _ _ _ _ _ _ h
    exact ev_ext ih c _ _ _ _ _ hm hL h4
  · obtain ⟨fn, c, e, fr, vs, h1, h2, h3, h4, h5, h6, h7⟩ := opn _ _ _ _ _ _ h
    exact ⟨fn, h1, by rw [h2]; rfl⟩
  · obtain ⟨fn, c, e, fr, vs, h1, h2, h3, h4, h5, h6, rfl⟩ := opn _ _ _ _ _ _ h
    have hsz : cargs.size = args.length := by simpa using hvl.1.symm
    refine calls_of_wp h1 h2 (ev_ok (U := U) hP ih hR c _ _ m e fr m' ι _ w h4 hr hL hU ?_ ?_ ?_)
    · intro t v hv
      unfold fget at hv
      split at hv
      · rename_i j hj
        obtain rfl := initPs_get args (KK f) t j v hj hv
        cases ht : args[t]? with
        | none =>
          have : cargs.size ≤ t := by rw [hsz]; exact List.getElem?_eq_none_iff.1 ht
          have : (cargs ++ Array.replicate (fn.ntmps - cargs.size) Go.undef).getD t Go.undef = Go.undef := by
            rw [Array.getD_eq_getD_getElem?, Array.getElem?_append_right this, Array.getElem?_replicate]
            split <;> rfl
          simp only [this]
          exact VR.undef ι
        | some x =>
          obtain ⟨u, hu, hxu⟩ := hvl.get ht
          have hlt : t < cargs.size := by rw [hsz]; exact (List.getElem?_eq_some_iff.1 ht).1
          have : (cargs ++ Array.replicate (fn.ntmps - cargs.size) Go.undef).getD t Go.undef = u := by
            rw [Array.getD_eq_getD_getElem?, Array.getElem?_append_left hlt]
            have : cargs[t]? = some u := by simpa using hu
            rw [this]; rfl
          simp only [this]
          exact hxu
      · cases hv
    · simp; omega
    · intro κ a' w' k1 k2 k3 k4 k5
      obtain ⟨u, g1, g2⟩ := results_ok (P := P) (fn := fn) k1 k2 h6
      have hbp : a'.defers = [] ∧ ∃ v, (results fn a'.tmps).run P w' = .ok v w' ∧ (∃ u κ, Ending.returned v = .returned u ∧ VR κ (oneOr vs) u ∧ Rel G R B U κ m' w' ∧ Step L ι m w κ m' w') :=
        ⟨k4, u, g1, u, κ, rfl, g2, k1, k5⟩
      match e, h5 with
      | 0, _ => exact hbp
      | 1, _ => exact hbp

theorem noCalls_ok : CallOk P G R B noCalls :=
  ⟨fun f args L m v m' _ _ h => (by cases h), fun f args L m v m' h => (by cases h), fun f args L m v m' h => (by cases h)⟩
theorem callN_ok {S : CallT} (hS : CallOk P G R B S) (hP : Prog P) (KK : FuncId → List Nat) (lf : Nat) : ∀ n, CallOk P G R B (callN S P G KK lf n) := by
  intro n
  induction n with
  | zero => exact hS
  | succ n ih =>
    have hF := evF_ok hP KK lf ih
    have opn : ∀ f args L m v m', callN S P G KK lf (n + 1) f args L m = some (v, m') → S f args L m = some (v, m') ∨ evF P G KK lf (callN S P G KK lf n) f args L m = some (v, m') := by
      intro f args L m v m' h
      simp only [callN] at h
      split at h
      · rename_i x hx; cases h; exact .inl hx
      · exact .inr h
    refine ⟨fun f args L m v m' hm hL h => ?_, fun f args L m v m' h => ?_, fun f args L m v m' h => ?_⟩ <;> rcases opn _ _ _ _ _ _ h with h | h
    · exact hS.ext _ _ _ _ _ _ hm hL h
    · exact hF.ext _ _ _ _ _ _ hm hL h
    · exact hS.fn _ _ _ _ _ _ h
    · exact hF.fn _ _ _ _ _ _ h
    · exact hS.ok _ _ _ _ _ _ h
    · exact hF.ok _ _ _ _ _ _ h
end
end Go.Vit
