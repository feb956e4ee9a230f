/- The evaluator: frames, regions, code, calls. -/
import Derived.Test.YticlkfhmmcepjaaDoorVitJ
set_option linter.unusedSimpArgs false
set_option linter.unusedVariables false
namespace Go.Vit
open Go

/-- A frame: the values of the slots on a list K, and of others, the last first. -/
structure Fr where
  ps : List Value
  ts : List (Nat × Value)

def pos : List Nat → Nat → Option Nat
  | [], _ => none
  | k :: l, t => match Nat.beq k t with
    | true => some 0
    | false => match pos l t with
      | some j => some (Nat.succ j)
      | none => none
def look : List (Nat × Value) → Nat → Option Value
  | [], _ => none
  | (s, v) :: l, t => match Nat.beq s t with
    | true => some v
    | false => look l t
def fget (K : List Nat) (fr : Fr) (t : Nat) : Option Value := match pos K t with
  | some j => lget fr.ps j
  | none => look fr.ts t
def lsetK {β : Type} : List Value → Nat → Value → (List Value → β) → β
  | [], _, _, k => k []
  | a :: l, n, v, k => match n with
    | 0 => k (v :: l)
    | Nat.succ n => lsetK l n v fun l' => k (a :: l')
theorem lsetK_eq {β : Type} : ∀ (l : List Value) (n : Nat) (v : Value) (k : List Value → β), lsetK l n v k = k (l.set n v)
  | [], n, v, k => by simp [lsetK]
  | a :: l, 0, v, k => rfl
  | a :: l, n + 1, v, k => by simp only [lsetK, List.set_cons_succ]; exact lsetK_eq l n v _
def fset (K : List Nat) (fr : Fr) (t : Nat) (v : Value) : Fr := match pos K t with
  | some j => ⟨fr.ps.set j v, fr.ts⟩
  | none => ⟨fr.ps, (t, v) :: fr.ts⟩
def fsetK {β : Type} (N : Nat) (K : List Nat) (fr : Fr) (t : Nat) (v : Value) (k : Fr → Option β) : Option β := match Nat.blt t N with
  | true => match pos K t with
    | some j => match fr with
      | ⟨ps, ts⟩ => lsetK ps j v fun ps => k ⟨ps, ts⟩
    | none => match fr with
      | ⟨ps, ts⟩ => k ⟨ps, (t, v) :: ts⟩
  | false => none
theorem fsetK_eq {β : Type} {N : Nat} {K : List Nat} {fr : Fr} {t : Nat} {v : Value} {k : Fr → Option β} {r : β} (h : fsetK N K fr t v k = some r) : t < N ∧ k (fset K fr t v) = some r := by
  unfold fsetK at h
  split at h
  · rename_i ht
    refine ⟨by simpa using ht, ?_⟩
    unfold fset
    split at h
    · rename_i j hj; simp only [lsetK_eq] at h; exact h
    · exact h
  · cases h

theorem pos_inj : ∀ {K : List Nat} {s t j : Nat}, pos K s = some j → pos K t = some j → s = t
  | [], s, t, j, h, _ => by cases h
  | k :: l, s, t, j, h, h' => by
    simp only [pos] at h h'
    split at h
    · rename_i hs
      split at h'
      · rename_i ht
        rw [← Nat.eq_of_beq_eq_true hs, ← Nat.eq_of_beq_eq_true ht]
      · split at h'
        · cases h; cases h'
        · cases h'
    · split at h
      · rename_i i hi
        cases h
        split at h'
        · cases h'
        · split at h'
          · rename_i i' hi'
            cases h'
            exact pos_inj hi hi'
          · cases h'
      · cases h
theorem fget_fset_same {K : List Nat} {fr : Fr} {t : Nat} {v u : Value} (h : fget K (fset K fr t v) t = some u) : u = v := by
  unfold fget fset at h
  split at h
  · rename_i j hj
    simp only [hj, lget_eq] at h
    rw [List.getElem?_set] at h
    simp at h
    exact h.2.symm
  · rename_i hj
    have hb : Nat.beq t t = true := Nat.beq_refl t
    simp only [hj, look, hb, Option.some.injEq] at h
    exact h.symm
theorem fget_fset_ne {K : List Nat} {fr : Fr} {t s : Nat} {v : Value} (hn : s ≠ t) : fget K (fset K fr t v) s = fget K fr s := by
  unfold fget fset
  cases hs : pos K s with
  | some j =>
    cases ht : pos K t with
    | some i =>
      have : i ≠ j := fun h => by subst h; exact hn (pos_inj hs ht)
      simp only [lget_eq, List.getElem?_set, this, if_false]
    | none => rfl
  | none =>
    cases ht : pos K t with
    | some i => rfl
    | none =>
      have hb : Nat.beq t s = false := by
        cases hbb : Nat.beq t s with
        | true => exact absurd (Nat.eq_of_beq_eq_true hbb).symm hn
        | false => rfl
      simp only [look, hb]

theorem FR.put {ι : Inj} {K : List Nat} {fr : Fr} {a : Act} {d : Nat} {v u : Value} (h : FR ι (fget K fr) a) (hd : d < a.tmps.size) (hv : VR ι v u) : FR ι (fget K (fset K fr d v)) (a.put (some d) u) := by
  intro t x hx
  by_cases ht : t = d
  · subst ht
    obtain rfl := fget_fset_same hx
    simp [Act.put, hd, hv]
  · rw [fget_fset_ne ht] at hx
    have := h t x hx
    have hne : d ≠ t := fun e => ht e.symm
    simpa [Act.put, Array.getElem?_setIfInBounds_ne hne] using this

/-! ### Operations of a region -/
def acallee (op : Op) : Option (Operand × List Operand) := match op with
  | .call c => match c.callee with
    | .value f => some (f, c.args.toList)
    | _ => none
  | _ => none
/-- What a function value is called with. -/
def atarget (f : Value) : Option (FuncId × List Value) := match f with
  | .func fn first cs => match fn with
    | .func g => match first.toList with
      | [] => some (g, cs.toList)
      | _ => none
    | _ => none
  | _ => none
abbrev CallT := FuncId → List Value → Nat → Mem → Option (Value × Mem)
def exA (P : Program) (call : CallT) (L : Nat) (ev : Operand → Option Value) (m : Mem) (op : Op) : Option (Value × Mem) := match acallee op with
  | some (f, args) => match ev f with
    | some vf => match atarget vf with
      | some (g, cs) => match evL ev args with
        | some vs => call g (vs ++ cs) L m
        | none => none
      | none => none
    | none => none
  | none => aop P L ev m op

def wantA (K : List Nat) (ops : List Oper) (fr : Fr) (o : Oper) : Option Bool := match o.guard with
  | none => some true
  | some (j, want) => match lget ops j with
    | some oj => match oj.dst with
      | some d => match fget K fr d with
        | some (.bool b) => some (b == want)
        | some (.tuple _) => some false
        | _ => none
      | none => none
    | none => none

def evOps (P : Program) (G N : Nat) (K : List Nat) (call : CallT) (ops : List Oper) (L : Nat) : List (Oper × Bool) → Fr → Mem → Option (Fr × Mem)
  | [], fr, m => some (fr, m)
  | (o, eff) :: rest, fr, m => match wantA K ops fr o with
    | none => none
    | some false => match o.dst with
      | none => evOps P G N K call ops L rest fr m
      | some d => fsetK N K fr d Go.undef fun fr => evOps P G N K call ops L rest fr m
    | some true => match exA P call (match eff with | true => L | false => m.next) (aeval G (fget K fr)) m o.op with
      | none => none
      | some (v, m') => match o.dst with
        | none => evOps P G N K call ops L rest fr m'
        | some d => fsetK N K fr d v fun fr => evOps P G N K call ops L rest fr m'

/-- All calls that an evaluator makes are sound. -/
structure CallOk (P : Program) (G R : Nat) (B : World) (call : CallT) : Prop where
  ext : ∀ f args L m v m', m.ok → L ≤ m.next → call f args L m = some (v, m') → Ext L m m'
  fn : ∀ f args L m v m', call f args L m = some (v, m') → ∃ fn, P.funcs[f]? = some fn ∧ fn.body.isNone = false
  ok : ∀ f args L m v m', call f args L m = some (v, m') → ∀ U ι w (cargs : Array Value), Rel G R B U ι m w → R ≤ L → L ≤ m.next → m'.next ≤ U → VL ι args cargs.toList →
      Calls P f cargs w fun e w' => ∃ u κ, e = .returned u ∧ VR κ v u ∧ Rel G R B U κ m' w' ∧ Step L ι m w κ m' w'

structure Prog (P : Program) : Prop where
  noCount : ∀ (f : Nat) fn, P.funcs[f]? = some fn → (fn.name == "runtime.NumGoroutine") = false
  mixed : P.follows .mixedOrders = true

section
variable {P : Program} {G R U L : Nat} {B : World} {ι : Inj} {m : Mem} {w : World} {call : CallT}

theorem acallee_some {op : Op} {f : Operand} {args : List Operand} (h : acallee op = some (f, args)) : ∃ c, op = .call c ∧ c.callee = .value f ∧ c.args.toList = args := by
  unfold acallee at h
  split at h
  · rename_i c
    split at h
    · rename_i hc; cases h; exact ⟨c, rfl, hc, rfl⟩
    · cases h
  · cases h
theorem exec_call {ρ : Operand → Value} {o : Oper} {c : Call} {f : Operand} {g : FuncId} {cs : Array Value} (hp : ∀ fn, P.funcs[g]? = some fn → (fn.name == "runtime.NumGoroutine") = false ∧ fn.body.isNone = false) {fn : Func} (hfn : P.funcs[g]? = some fn)
    (ho : o.op = .call c) (hc : c.callee = .value f) (hf : ρ f = .func (.func g) #[] cs) (w : World) :
    (execOp ρ o).run P w = .ok (.enter g (c.args.map ρ ++ cs)) w := by
  obtain ⟨h1, h2⟩ := hp fn hfn
  have hprog : Sem.run P program w = .ok P w := rfl
  have h1' : ¬ fn.name = "runtime.NumGoroutine" := by simpa using h1
  have h2' : ¬ fn.body = none := fun e => by rw [e] at h2; cases h2
  simp [execOp, ho, resolve, hc, hf, Deferred.ofValue, invoke, callFunc, hprog, hfn, h1', h2']

/-- One operation. -/
theorem exA_ok (hP : Prog P) (hc : CallOk P G R B call) (h : Rel G R B U ι m w) (hR : R ≤ L) (hL : L ≤ m.next) {ev : Operand → Option Value} {a : Act} {o : Oper}
    (hev : ∀ x v, ev x = some v → VR ι v (a.eval x)) {v : Value} {m' : Mem} (hx : exA P call L ev m o.op = some (v, m')) (hU : m'.next ≤ U)
    {next : Act → World → Prop} {Q : Exit → Act → World → Prop} (hn : ∀ u κ w', VR κ v u → Rel G R B U κ m' w' → Step L ι m w κ m' w' → next (a.put o.dst u) w') : o.wp P a w next Q := by
  unfold exA at hx
  split at hx
  · rename_i f args hcal
    obtain ⟨c, ho, hcc, hargs⟩ := acallee_some hcal
    split at hx
    · rename_i vf hvf
      split at hx
      · rename_i g cs htg
        split at hx
        · rename_i vs hvs
          have hr := hev _ _ hvf
          unfold atarget at htg
          split at htg
          · rename_i fn first cs'
            split at htg
            · rename_i g'
              split at htg
              · rename_i hfirst
                cases htg
                have : ∃ ds, a.eval f = .func (.func g) #[] ds ∧ VL ι cs'.toList ds.toList := by
                  generalize a.eval f = y at hr
                  cases hr with
                  | func _ _ ds hs hh => exact ⟨ds, rfl, by simpa using hs, fun i v u h1 h2 => hh i v u (by simpa using h1) (by simpa using h2)⟩
                obtain ⟨ds, hf, hds⟩ := this
                obtain ⟨fn, hfn, hbod⟩ := hc.fn _ _ _ _ _ _ hx
                have hrun := exec_call (P := P) (ρ := a.eval) (o := o) (g := g) (cs := ds) (fun fn' h' => ⟨hP.noCount _ _ h', by rw [hfn] at h'; cases h'; exact hbod⟩) hfn ho hcc hf w
                have hvl := evL_ok hev _ _ hvs
                have := hc.ok _ _ _ _ _ _ hx U ι w (c.args.map a.eval ++ ds) h hR hL hU (by rw [Array.toList_append, Array.toList_map, hargs]; exact hvl.append hds)
                unfold Oper.wp
                rw [hrun]
                exact this.mono fun e w' ⟨u, κ, he, g1, g2, g3⟩ => by subst he; exact hn u κ w' g1 g2 g3
              · cases htg
            · cases htg
          · cases htg
        · cases hx
      · cases hx
    · cases hx
  · obtain ⟨r, u, κ, w', hrun, hru, g1, g2, g3⟩ := aop_ok (P := P) h hR hL hev hx hU
    unfold Oper.wp
    rw [hrun]
    rcases hru with rfl | ⟨rfl, rfl⟩
    · exact hn u κ w' g1 g2 g3
    · exact hn _ κ w' g1 g2 g3

theorem exA_ext (hc : CallOk P G R B call) (hm : m.ok) (hL : L ≤ m.next) {ev : Operand → Option Value} {op : Op} {v : Value} {m' : Mem} (hx : exA P call L ev m op = some (v, m')) : Ext L m m' := by
  unfold exA at hx
  (repeat' split at hx) <;> first | exact hc.ext _ _ _ _ _ _ hm hL hx | exact aop_ext hm hx | cases hx

theorem wantA_ok {K : List Nat} {ops : Array Oper} {fr : Fr} {o : Oper} {b : Bool} {a : Act} (h : wantA K ops.toList fr o = some b)
    (hf : ∀ t v, fget K fr t = some v → (∃ j oj, o.guard.map (·.1) = some j ∧ ops[j]? = some oj ∧ oj.dst = some t) → VR ι v (a.tmps.getD t Go.undef)) : Region.wanted o (yielded ops a.tmps) = b := by
  unfold wantA at h
  unfold Region.wanted
  split at h
  · rename_i hg; cases h; rw [hg]
  · rename_i j want hg
    rw [hg]
    simp only []
    split at h
    · rename_i oj hoj
      have hoj' : ops[j]? = some oj := by rw [lget_eq] at hoj; simpa using hoj
      split at h
      · rename_i d hd
        have hy : yielded ops a.tmps j = match a.tmps[d]? with | some (.bool b) => some b | _ => none := by
          unfold yielded; rw [hoj']; simp only [Option.bind_some, hd]; rfl
        rw [hy]
        split at h
        · rename_i x hx
          cases h
          have hr := hf d _ hx ⟨j, oj, by rw [hg]; rfl, hoj', hd⟩
          cases ht : a.tmps[d]? with
          | none => rw [Array.getD_eq_getD_getElem?, ht] at hr; cases hr
          | some y =>
            rw [Array.getD_eq_getD_getElem?, ht] at hr
            cases hr
            simp only []
            cases x <;> cases want <;> rfl
        · rename_i vs hx
          cases h
          have hr := hf d _ hx ⟨j, oj, by rw [hg]; rfl, hoj', hd⟩
          cases ht : a.tmps[d]? with
          | none => rfl
          | some y =>
            rw [Array.getD_eq_getD_getElem?, ht] at hr
            cases hr
            rfl
        · cases h
      · cases h
    · cases h

/-! ### A region in the text's order -/
theorem range_cons (k n : Nat) : List.range' k (n + 1) = k :: List.range' (k + 1) n := rfl
theorem evOps_ext (hc : CallOk P G R B call) {N : Nat} {K : List Nat} {ops : List Oper} : ∀ (l : List (Oper × Bool)) (fr : Fr) (m : Mem) (fr' : Fr) (m' : Mem), m.ok → L ≤ m.next →
    evOps P G N K call ops L l fr m = some (fr', m') → Ext L m m'
  | [], fr, m, fr', m', hm, hL, h => by cases h; exact Ext.refl hm
  | (o, eff) :: l, fr, m, fr', m', hm, hL, h => by
    simp only [evOps] at h
    split at h
    · cases h
    · split at h
      · exact evOps_ext hc l _ _ _ _ hm hL h
      · exact evOps_ext hc l _ _ _ _ hm hL (fsetK_eq h).2
    · split at h
      · cases h
      · rename_i v m1 hx
        have h1 : Ext L m m1 := by
          have := exA_ext hc hm (by cases eff <;> simp <;> omega) hx
          cases eff
          · exact this.mono hL
          · exact this
        have hL1 := Nat.le_trans hL h1.next
        split at h
        · exact h1.trans (evOps_ext hc l _ _ _ _ h1.ok hL1 h)
        · exact h1.trans (evOps_ext hc l _ _ _ _ h1.ok hL1 (fsetK_eq h).2)

theorem evOps_ok (hP : Prog P) (hc : CallOk P G R B call) {N : Nat} {K : List Nat} {ops : Array Oper} (hR : R ≤ L) {Q : Exit → Act → World → Prop} :
    ∀ (l : List Oper) (k : Nat) (fr : Fr) (m : Mem) (ι : Inj) (a : Act) (w : World) (fr' : Fr) (m' : Mem),
      evOps P G N K call ops.toList L (l.map fun o => (o, true)) fr m = some (fr', m') → (∀ j, l[j]? = ops[k + j]?) → Rel G R B U ι m w → L ≤ m.next → m'.next ≤ U →
      FR ι (fget K fr) a → N ≤ a.tmps.size →
      (∀ κ a' w', Rel G R B U κ m' w' → FR κ (fget K fr') a' → a'.tmps.size = a.tmps.size → a'.defers = a.defers → Step L ι m w κ m' w' → Q .normal a' w') → wpOps P ops Q (List.range' k l.length) a w
  | [], k, fr, m, ι, a, w, fr', m', h, _, hr, hL, hU, hf, hN, hq => by
    cases h
    exact hq ι a w hr hf rfl rfl (Step.refl' _ _ _ _)
  | o :: l, k, fr, m, ι, a, w, fr', m', h, hl, hr, hL, hU, hf, hN, hq => by
    have ho : ops[k]? = some o := by have := hl 0; simpa using this.symm
    have hl' : ∀ j, l[j]? = ops[k + 1 + j]? := fun j => by
      have := hl (j + 1)
      rw [show k + (j + 1) = k + 1 + j by omega] at this
      simpa using this
    simp only [List.map_cons, evOps] at h
    rw [List.length_cons, range_cons]
    simp only [wpOps, ho]
    -- the rest, once the operation is done
    have fin : ∀ (v : Value) (m1 : Mem), Ext L m m1 →
        (match o.dst with | none => evOps P G N K call ops.toList L (l.map fun o => (o, true)) fr m1 | some d => fsetK N K fr d v fun fr => evOps P G N K call ops.toList L (l.map fun o => (o, true)) fr m1) = some (fr', m') →
        m1.next ≤ m'.next ∧ ∀ u κ w1, VR κ v u → Rel G R B U κ m1 w1 → Step L ι m w κ m1 w1 → wpOps P ops Q (List.range' (k + 1) l.length) (a.put o.dst u) w1 := by
      intro v m1 hm1 hh
      cases hd : o.dst with
      | none =>
        rw [hd] at hh
        have hn1 := hm1.next
        exact ⟨(evOps_ext hc _ _ _ _ _ hm1.ok (by omega) hh).next, fun u κ w1 hvu hr1 hs1 => evOps_ok hP hc hR l (k + 1) fr m1 κ a w1 fr' m' hh hl' hr1 (by omega) hU (hf.mono hs1.le) hN
          fun κ' a' w' g1 g2 g3 g4 g5 => hq κ' a' w' g1 g2 g3 g4 (hs1.trans g5)⟩
      | some d =>
        rw [hd] at hh
        obtain ⟨hdN, hh⟩ := fsetK_eq hh
        have hn1 := hm1.next
        refine ⟨(evOps_ext hc _ _ _ _ _ hm1.ok (by omega) hh).next, fun u κ w1 hvu hr1 hs1 => evOps_ok hP hc hR l (k + 1) _ m1 κ (a.put (some d) u) w1 fr' m' hh hl' hr1 (by omega) hU ((hf.mono hs1.le).put (by omega) hvu) (by simpa [Act.put] using hN)
          fun κ' a' w' g1 g2 g3 g4 g5 => hq κ' a' w' g1 g2 (by simpa [Act.put] using g3) (by simpa [Act.put] using g4) (hs1.trans g5)⟩
    split at h
    · cases h
    · rename_i hw
      have hwant := wantA_ok (a := a) hw fun t v hv _ => hf t v hv
      simp only [hwant, Bool.false_eq_true, if_false]
      exact (fin Go.undef m (Ext.refl hr.ok) h).2 Go.undef ι w (VR.undef ι) hr (Step.refl' _ _ _ _)
    · rename_i hw
      have hwant := wantA_ok (a := a) hw fun t v hv _ => hf t v hv
      simp only [hwant, if_true]
      split at h
      · cases h
      · rename_i v m1 hx
        have h1 : Ext L m m1 := exA_ext hc hr.ok hL hx
        obtain ⟨h2, h3⟩ := fin v m1 h1 h
        exact .inl (exA_ok hP hc hr hR hL (fun x v hv => aeval_ok hr.gl hf hv) hx (Nat.le_trans h2 hU) h3)
end
end Go.Vit
