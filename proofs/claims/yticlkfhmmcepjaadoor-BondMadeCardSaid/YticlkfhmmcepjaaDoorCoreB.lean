/- The core of the runs: CoreB. -/
import Derived.Test.YticlkfhmmcepjaaDoorCoreA
import Derived.LoopN
import Derived.Scope
import Derived.Deep.DeepHandedRow
import Derived.Lib.LaidTab
import Derived.WalkKit
import Derived.ProofKit
import Derived.OpenShut
set_option linter.unusedSimpArgs false
set_option linter.unusedVariables false
/- The evaluator: frames, regions, code, calls. -/
namespace Go.Vit
open Go

/-- A frame: the values of the slots on a list K, and of others, the last first. -/
structure Fr where
  ps : List Value
  ts : List (Nat × Value)

def pos : List Nat → Nat → Option Nat
  | [], _ => none
  | k :: l, t => match Nat.beq k t with
    | true => some 0
    | false => match pos l t with
      | some j => some (Nat.succ j)
      | none => none
def look : List (Nat × Value) → Nat → Option Value
  | [], _ => none
  | (s, v) :: l, t => match Nat.beq s t with
    | true => some v
    | false => look l t
def fget (K : List Nat) (fr : Fr) (t : Nat) : Option Value := match pos K t with
  | some j => lget fr.ps j
  | none => look fr.ts t
def lsetK {β : Type} : List Value → Nat → Value → (List Value → β) → β
  | [], _, _, k => k []
  | a :: l, n, v, k => match n with
    | 0 => k (v :: l)
    | Nat.succ n => lsetK l n v fun l' => k (a :: l')
theorem lsetK_eq {β : Type} : ∀ (l : List Value) (n : Nat) (v : Value) (k : List Value → β), lsetK l n v k = k (l.set n v)
  | [], n, v, k => by simp [lsetK]
  | a :: l, 0, v, k => rfl
  | a :: l, n + 1, v, k => by simp only [lsetK, List.set_cons_succ]; exact lsetK_eq l n v _
def fset (K : List Nat) (fr : Fr) (t : Nat) (v : Value) : Fr := match pos K t with
  | some j => ⟨fr.ps.set j v, fr.ts⟩
  | none => ⟨fr.ps, (t, v) :: fr.ts⟩
def fsetK {β : Type} (N : Nat) (K : List Nat) (fr : Fr) (t : Nat) (v : Value) (k : Fr → Option β) : Option β := match Nat.blt t N with
  | true => match pos K t with
    | some j => match fr with
      | ⟨ps, ts⟩ => lsetK ps j v fun ps => k ⟨ps, ts⟩
    | none => match fr with
      | ⟨ps, ts⟩ => k ⟨ps, (t, v) :: ts⟩
  | false => none
theorem fsetK_eq {β : Type} {N : Nat} {K : List Nat} {fr : Fr} {t : Nat} {v : Value} {k : Fr → Option β} {r : β} (h : fsetK N K fr t v k = some r) : t < N ∧ k (fset K fr t v) = some r := by
  unfold fsetK at h
  split at h
  · rename_i ht
    refine ⟨by simpa using ht, ?_⟩
    unfold fset
    split at h
    · rename_i j hj; simp only [lsetK_eq] at h; exact h
    · exact h
  · cases h

theorem pos_inj : ∀ {K : List Nat} {s t j : Nat}, pos K s = some j → pos K t = some j → s = t
  | [], s, t, j, h, _ => by cases h
  | k :: l, s, t, j, h, h' => by
    simp only [pos] at h h'
    split at h
    · rename_i hs
      split at h'
      · rename_i ht
        rw [← Nat.eq_of_beq_eq_true hs, ← Nat.eq_of_beq_eq_true ht]
      · split at h'
        · cases h; cases h'
        · cases h'
    · split at h
      · rename_i i hi
        cases h
        split at h'
        · cases h'
        · split at h'
          · rename_i i' hi'
            cases h'
            exact pos_inj hi hi'
          · cases h'
      · cases h
theorem fget_fset_same {K : List Nat} {fr : Fr} {t : Nat} {v u : Value} (h : fget K (fset K fr t v) t = some u) : u = v := by
  unfold fget fset at h
  split at h
  · rename_i j hj
    simp only [hj, lget_eq] at h
    rw [List.getElem?_set] at h
    simp at h
    exact h.2.symm
  · rename_i hj
    have hb : Nat.beq t t = true := Nat.beq_refl t
    simp only [hj, look, hb, Option.some.injEq] at h
    exact h.symm
theorem fget_fset_ne {K : List Nat} {fr : Fr} {t s : Nat} {v : Value} (hn : s ≠ t) : fget K (fset K fr t v) s = fget K fr s := by
  unfold fget fset
  cases hs : pos K s with
  | some j =>
    cases ht : pos K t with
    | some i =>
      have : i ≠ j := fun h => by subst h; exact hn (pos_inj hs ht)
      simp only [lget_eq, List.getElem?_set, this, if_false]
    | none => rfl
  | none =>
    cases ht : pos K t with
    | some i => rfl
    | none =>
      have hb : Nat.beq t s = false := by
        cases hbb : Nat.beq t s with
        | true => exact absurd (Nat.eq_of_beq_eq_true hbb).symm hn
        | false => rfl
      simp only [look, hb]

theorem FR.put {ι : Inj} {K : List Nat} {fr : Fr} {a : Act} {d : Nat} {v u : Value} (h : FR ι (fget K fr) a) (hd : d < a.tmps.size) (hv : VR ι v u) : FR ι (fget K (fset K fr d v)) (a.put (some d) u) := by
  intro t x hx
  by_cases ht : t = d
  · subst ht
    obtain rfl := fget_fset_same hx
    simp [Act.put, hd, hv]
  · rw [fget_fset_ne ht] at hx
    have := h t x hx
    have hne : d ≠ t := fun e => ht e.symm
    simpa [Act.put, Array.getElem?_setIfInBounds_ne hne] using this

/-! ### Operations of a region -/
def acallee (op : Op) : Option (Operand × List Operand) := match op with
  | .call c => match c.callee with
    | .value f => some (f, c.args.toList)
    | _ => none
  | _ => none
/-- What a function value is called with. -/
def atarget (f : Value) : Option (FuncId × List Value) := match f with
  | .func fn first cs => match fn with
    | .func g => match first.toList with
      | [] => some (g, cs.toList)
      | _ => none
    | _ => none
  | _ => none
abbrev CallT := FuncId → List Value → Nat → Mem → Option (Value × Mem)
def exA (P : Program) (call : CallT) (L : Nat) (ev : Operand → Option Value) (m : Mem) (op : Op) : Option (Value × Mem) := match acallee op with
  | some (f, args) => match ev f with
    | some vf => match atarget vf with
      | some (g, cs) => match evL ev args with
        | some vs => call g (vs ++ cs) L m
        | none => none
      | none => none
    | none => none
  | none => aop P L ev m op

def wantA (K : List Nat) (ops : List Oper) (fr : Fr) (o : Oper) : Option Bool := match o.guard with
  | none => some true
  | some (j, want) => match lget ops j with
    | some oj => match oj.dst with
      | some d => match fget K fr d with
        | some (.bool b) => some (b == want)
        | some (.tuple _) => some false
        | _ => none
      | none => none
    | none => none

def evOps (P : Program) (G N : Nat) (K : List Nat) (call : CallT) (ops : List Oper) (L : Nat) : List (Oper × Bool) → Fr → Mem → Option (Fr × Mem)
  | [], fr, m => some (fr, m)
  | (o, eff) :: rest, fr, m => match wantA K ops fr o with
    | none => none
    | some false => match o.dst with
      | none => evOps P G N K call ops L rest fr m
      | some d => fsetK N K fr d Go.undef fun fr => evOps P G N K call ops L rest fr m
    | some true => match exA P call (match eff with | true => L | false => m.next) (aeval G (fget K fr)) m o.op with
      | none => none
      | some (v, m') => match o.dst with
        | none => evOps P G N K call ops L rest fr m'
        | some d => fsetK N K fr d v fun fr => evOps P G N K call ops L rest fr m'

/-- All calls that an evaluator makes are sound. -/
structure CallOk (P : Program) (G R : Nat) (B : World) (call : CallT) : Prop where
  ext : ∀ f args L m v m', m.ok → L ≤ m.next → call f args L m = some (v, m') → Ext L m m'
  fn : ∀ f args L m v m', call f args L m = some (v, m') → ∃ fn, P.funcs[f]? = some fn ∧ fn.body.isNone = false
  ok : ∀ f args L m v m', call f args L m = some (v, m') → ∀ U ι w (cargs : Array Value), Rel G R B U ι m w → R ≤ L → L ≤ m.next → m'.next ≤ U → VL ι args cargs.toList →
      Calls P f cargs w fun e w' => ∃ u κ, e = .returned u ∧ VR κ v u ∧ Rel G R B U κ m' w' ∧ Step L ι m w κ m' w'

structure Prog (P : Program) : Prop where
  noCount : ∀ (f : Nat) fn, P.funcs[f]? = some fn → (fn.name == "runtime.NumGoroutine") = false
  mixed : P.follows .mixedOrders = true

section
variable {P : Program} {G R U L : Nat} {B : World} {ι : Inj} {m : Mem} {w : World} {call : CallT}

theorem acallee_some {op : Op} {f : Operand} {args : List Operand} (h : acallee op = some (f, args)) : ∃ c, op = .call c ∧ c.callee = .value f ∧ c.args.toList = args := by
  unfold acallee at h
  split at h
  · rename_i c
    split at h
    · rename_i hc; cases h; exact ⟨c, rfl, hc, rfl⟩
    · cases h
  · cases h
theorem exec_call {ρ : Operand → Value} {o : Oper} {c : Call} {f : Operand} {g : FuncId} {cs : Array Value} (hp : ∀ fn, P.funcs[g]? = some fn → (fn.name == "runtime.NumGoroutine") = false ∧ fn.body.isNone = false) {fn : Func} (hfn : P.funcs[g]? = some fn)
    (ho : o.op = .call c) (hc : c.callee = .value f) (hf : ρ f = .func (.func g) #[] cs) (w : World) :
    (execOp ρ o).run P w = .ok (.enter g (c.args.map ρ ++ cs)) w := by
  obtain ⟨h1, h2⟩ := hp fn hfn
  have hprog : Sem.run P program w = .ok P w := rfl
  have h1' : ¬ fn.name = "runtime.NumGoroutine" := by simpa using h1
  have h2' : ¬ fn.body = none := fun e => by rw [e] at h2; cases h2
  simp [execOp, ho, resolve, hc, hf, Deferred.ofValue, invoke, callFunc, hprog, hfn, h1', h2']

/-- One operation. -/
theorem exA_ok (hP : Prog P) (hc : CallOk P G R B call) (h : Rel G R B U ι m w) (hR : R ≤ L) (hL : L ≤ m.next) {ev : Operand → Option Value} {a : Act} {o : Oper}
    (hev : ∀ x v, ev x = some v → VR ι v (a.eval x)) {v : Value} {m' : Mem} (hx : exA P call L ev m o.op = some (v, m')) (hU : m'.next ≤ U)
    {next : Act → World → Prop} {Q : Exit → Act → World → Prop} (hn : ∀ u κ w', VR κ v u → Rel G R B U κ m' w' → Step L ι m w κ m' w' → next (a.put o.dst u) w') : o.wp P a w next Q := by
  unfold exA at hx
  split at hx
  · rename_i f args hcal
    obtain ⟨c, ho, hcc, hargs⟩ := acallee_some hcal
    split at hx
    · rename_i vf hvf
      split at hx
      · rename_i g cs htg
        split at hx
        · rename_i vs hvs
          have hr := hev _ _ hvf
          unfold atarget at htg
          split at htg
          · rename_i fn first cs'
            split at htg
            · rename_i g'
              split at htg
              · rename_i hfirst
                cases htg
                have : ∃ ds, a.eval f = .func (.func g) #[] ds ∧ VL ι cs'.toList ds.toList := by
                  generalize a.eval f = y at hr
                  cases hr with
                  | func _ _ ds hs hh => exact ⟨ds, rfl, by simpa using hs, fun i v u h1 h2 => hh i v u (by simpa using h1) (by simpa using h2)⟩
                obtain ⟨ds, hf, hds⟩ := this
                obtain ⟨fn, hfn, hbod⟩ := hc.fn _ _ _ _ _ _ hx
                have hrun := exec_call (P := P) (ρ := a.eval) (o := o) (g := g) (cs := ds) (fun fn' h' => ⟨hP.noCount _ _ h', by rw [hfn] at h'; cases h'; exact hbod⟩) hfn ho hcc hf w
                have hvl := evL_ok hev _ _ hvs
                have := hc.ok _ _ _ _ _ _ hx U ι w (c.args.map a.eval ++ ds) h hR hL hU (by rw [Array.toList_append, Array.toList_map, hargs]; exact hvl.append hds)
                unfold Oper.wp
                rw [hrun]
                exact this.mono fun e w' ⟨u, κ, he, g1, g2, g3⟩ => by subst he; exact hn u κ w' g1 g2 g3
              · cases htg
            · cases htg
          · cases htg
        · cases hx
      · cases hx
    · cases hx
  · obtain ⟨r, u, κ, w', hrun, hru, g1, g2, g3⟩ := aop_ok (P := P) h hR hL hev hx hU
    unfold Oper.wp
    rw [hrun]
    rcases hru with rfl | ⟨rfl, rfl⟩
    · exact hn u κ w' g1 g2 g3
    · exact hn _ κ w' g1 g2 g3

theorem exA_ext (hc : CallOk P G R B call) (hm : m.ok) (hL : L ≤ m.next) {ev : Operand → Option Value} {op : Op} {v : Value} {m' : Mem} (hx : exA P call L ev m op = some (v, m')) : Ext L m m' := by
  unfold exA at hx
  (repeat' split at hx) <;> first | exact hc.ext _ _ _ _ _ _ hm hL hx | exact aop_ext hm hx | cases hx

theorem wantA_ok {K : List Nat} {ops : Array Oper} {fr : Fr} {o : Oper} {b : Bool} {a : Act} (h : wantA K ops.toList fr o = some b)
    (hf : ∀ t v, fget K fr t = some v → (∃ j oj, o.guard.map (·.1) = some j ∧ ops[j]? = some oj ∧ oj.dst = some t) → VR ι v (a.tmps.getD t Go.undef)) : Region.wanted o (yielded ops a.tmps) = b := by
  unfold wantA at h
  unfold Region.wanted
  split at h
  · rename_i hg; cases h; rw [hg]
  · rename_i j want hg
    rw [hg]
    simp only []
    split at h
    · rename_i oj hoj
      have hoj' : ops[j]? = some oj := by rw [lget_eq] at hoj; simpa using hoj
      split at h
      · rename_i d hd
        have hy : yielded ops a.tmps j = match a.tmps[d]? with | some (.bool b) => some b | _ => none := by
          unfold yielded; rw [hoj']; simp only [Option.bind_some, hd]; rfl
        rw [hy]
        split at h
        · rename_i x hx
          cases h
          have hr := hf d _ hx ⟨j, oj, by rw [hg]; rfl, hoj', hd⟩
          cases ht : a.tmps[d]? with
          | none => rw [Array.getD_eq_getD_getElem?, ht] at hr; cases hr
          | some y =>
            rw [Array.getD_eq_getD_getElem?, ht] at hr
            cases hr
            simp only []
            cases x <;> cases want <;> rfl
        · rename_i vs hx
          cases h
          have hr := hf d _ hx ⟨j, oj, by rw [hg]; rfl, hoj', hd⟩
          cases ht : a.tmps[d]? with
          | none => rfl
          | some y =>
            rw [Array.getD_eq_getD_getElem?, ht] at hr
            cases hr
            rfl
        · cases h
      · cases h
    · cases h

/-! ### A region in the text's order -/
theorem range_cons (k n : Nat) : List.range' k (n + 1) = k :: List.range' (k + 1) n := rfl
theorem evOps_ext (hc : CallOk P G R B call) {N : Nat} {K : List Nat} {ops : List Oper} : ∀ (l : List (Oper × Bool)) (fr : Fr) (m : Mem) (fr' : Fr) (m' : Mem), m.ok → L ≤ m.next →
    evOps P G N K call ops L l fr m = some (fr', m') → Ext L m m'
  | [], fr, m, fr', m', hm, hL, h => by cases h; exact Ext.refl hm
  | (o, eff) :: l, fr, m, fr', m', hm, hL, h => by
    simp only [evOps] at h
    split at h
    · cases h
    · split at h
      · exact evOps_ext hc l _ _ _ _ hm hL h
      · exact evOps_ext hc l _ _ _ _ hm hL (fsetK_eq h).2
    · split at h
      · cases h
      · rename_i v m1 hx
        have h1 : Ext L m m1 := by
          have := exA_ext hc hm (by cases eff <;> simp <;> omega) hx
          cases eff
          · exact this.mono hL
          · exact this
        have hL1 := Nat.le_trans hL h1.next
        split at h
        · exact h1.trans (evOps_ext hc l _ _ _ _ h1.ok hL1 h)
        · exact h1.trans (evOps_ext hc l _ _ _ _ h1.ok hL1 (fsetK_eq h).2)

theorem evOps_ok (hP : Prog P) (hc : CallOk P G R B call) {N : Nat} {K : List Nat} {ops : Array Oper} (hR : R ≤ L) {Q : Exit → Act → World → Prop} :
    ∀ (l : List Oper) (k : Nat) (fr : Fr) (m : Mem) (ι : Inj) (a : Act) (w : World) (fr' : Fr) (m' : Mem),
      evOps P G N K call ops.toList L (l.map fun o => (o, true)) fr m = some (fr', m') → (∀ j, l[j]? = ops[k + j]?) → Rel G R B U ι m w → L ≤ m.next → m'.next ≤ U →
      FR ι (fget K fr) a → N ≤ a.tmps.size →
      (∀ κ a' w', Rel G R B U κ m' w' → FR κ (fget K fr') a' → a'.tmps.size = a.tmps.size → a'.defers = a.defers → Step L ι m w κ m' w' → Q .normal a' w') → wpOps P ops Q (List.range' k l.length) a w
  | [], k, fr, m, ι, a, w, fr', m', h, _, hr, hL, hU, hf, hN, hq => by
    cases h
    exact hq ι a w hr hf rfl rfl (Step.refl' _ _ _ _)
  | o :: l, k, fr, m, ι, a, w, fr', m', h, hl, hr, hL, hU, hf, hN, hq => by
    have ho : ops[k]? = some o := by have := hl 0; simpa using this.symm
    have hl' : ∀ j, l[j]? = ops[k + 1 + j]? := fun j => by
      have := hl (j + 1)
      rw [show k + (j + 1) = k + 1 + j by omega] at this
      simpa using this
    simp only [List.map_cons, evOps] at h
    rw [List.length_cons, range_cons]
    simp only [wpOps, ho]
    -- the rest, once the operation is done
    have fin : ∀ (v : Value) (m1 : Mem), Ext L m m1 →
        (match o.dst with | none => evOps P G N K call ops.toList L (l.map fun o => (o, true)) fr m1 | some d => fsetK N K fr d v fun fr => evOps P G N K call ops.toList L (l.map fun o => (o, true)) fr m1) = some (fr', m') →
        m1.next ≤ m'.next ∧ ∀ u κ w1, VR κ v u → Rel G R B U κ m1 w1 → Step L ι m w κ m1 w1 → wpOps P ops Q (List.range' (k + 1) l.length) (a.put o.dst u) w1 := by
      intro v m1 hm1 hh
      cases hd : o.dst with
      | none =>
        rw [hd] at hh
        have hn1 := hm1.next
        exact ⟨(evOps_ext hc _ _ _ _ _ hm1.ok (by omega) hh).next, fun u κ w1 hvu hr1 hs1 => evOps_ok hP hc hR l (k + 1) fr m1 κ a w1 fr' m' hh hl' hr1 (by omega) hU (hf.mono hs1.le) hN
          fun κ' a' w' g1 g2 g3 g4 g5 => hq κ' a' w' g1 g2 g3 g4 (hs1.trans g5)⟩
      | some d =>
        rw [hd] at hh
        obtain ⟨hdN, hh⟩ := fsetK_eq hh
        have hn1 := hm1.next
        refine ⟨(evOps_ext hc _ _ _ _ _ hm1.ok (by omega) hh).next, fun u κ w1 hvu hr1 hs1 => evOps_ok hP hc hR l (k + 1) _ m1 κ (a.put (some d) u) w1 fr' m' hh hl' hr1 (by omega) hU ((hf.mono hs1.le).put (by omega) hvu) (by simpa [Act.put] using hN)
          fun κ' a' w' g1 g2 g3 g4 g5 => hq κ' a' w' g1 g2 (by simpa [Act.put] using g3) (by simpa [Act.put] using g4) (hs1.trans g5)⟩
    split at h
    · cases h
    · rename_i hw
      have hwant := wantA_ok (a := a) hw fun t v hv _ => hf t v hv
      simp only [hwant, Bool.false_eq_true, if_false]
      exact (fin Go.undef m (Ext.refl hr.ok) h).2 Go.undef ι w (VR.undef ι) hr (Step.refl' _ _ _ _)
    · rename_i hw
      have hwant := wantA_ok (a := a) hw fun t v hv _ => hf t v hv
      simp only [hwant, if_true]
      split at h
      · cases h
      · rename_i v m1 hx
        have h1 : Ext L m m1 := exA_ext hc hr.ok hL hx
        obtain ⟨h2, h3⟩ := fin v m1 h1 h
        exact .inl (exA_ok hP hc hr hR hL (fun x v hv => aeval_ok hr.gl hf hv) hx (Nat.le_trans h2 hU) h3)
end
end Go.Vit

/- A region whose order is open: the text's order, reckoned once, tells all orders. -/
namespace Go.Vit
open Go

/-- Operations that touch no memory. -/
def pureKind (op : Op) : Bool := match op with
  | .move _ | .assign _ | .pick .. | .binOp .. | .unOp .. | .convert .. | .extract .. | .nilCheck _ | .fieldAddr .. | .field .. | .indexAddr .. | .index .. | .slice .. | .makeFunc .. | .makeInterface .. | .build .. | .typeAssert .. => true
  | .call c => match c.callee with
    | .builtin .len | .builtin .min | .builtin .max => true
    | _ => false
  | _ => false
theorem exA_pure {P : Program} {call : CallT} {L : Nat} {ev : Operand → Option Value} {m : Mem} {op : Op} (h : pureKind op = true) :
    exA P call L ev m op = match apure P ev op with | some v => some (v, m) | none => none := by
  cases op <;> first | rfl | (cases h; done) | skip
  rename_i c
  obtain ⟨callee, args, tys⟩ := c
  cases callee with
  | builtin b => cases b <;> first | rfl | (cases h; done)
  | value f => cases h
  | invoke r m => cases h

/-! ### What stands before what -/
def maskOf (acc : List Nat) (o : Oper) : Nat := o.after.toList.foldl (fun s e => match Region.binds .any e with
  | true => Nat.lor s (Nat.lor (Nat.shiftLeft 1 e.on) (match lget acc e.on with
    | some k => k
    | none => 0))
  | false => s) 0
def masks : List Oper → List Nat → List Nat
  | [], acc => acc
  | o :: l, acc => masks l (acc ++ [maskOf acc o])
def bit (ms : List Nat) (i j : Nat) : Bool := match lget ms i with
  | some k => Nat.testBit k j
  | none => false

theorem maskOf_bit {acc : List Nat} {o : Oper} {j : Nat} (h : (maskOf acc o).testBit j = true) : ∃ e ∈ o.after, Region.binds .any e = true ∧ (e.on = j ∨ ∃ k, acc[e.on]? = some k ∧ k.testBit j = true) := by
  have key : ∀ (l : List Edge) (s : Nat), (l.foldl (fun s e => match Region.binds .any e with
      | true => Nat.lor s (Nat.lor (Nat.shiftLeft 1 e.on) (match lget acc e.on with | some k => k | none => 0))
      | false => s) s).testBit j = true → s.testBit j = true ∨ ∃ e ∈ l, Region.binds .any e = true ∧ (e.on = j ∨ ∃ k, acc[e.on]? = some k ∧ k.testBit j = true) := by
    intro l
    induction l with
    | nil => intro s hs; exact .inl hs
    | cons e l ih =>
      intro s hs
      simp only [List.foldl_cons] at hs
      rcases ih _ hs with h1 | ⟨e', he', h1⟩
      · cases hb : Region.binds .any e with
        | false => rw [hb] at h1; exact .inl h1
        | true =>
          rw [hb] at h1
          simp only [] at h1
          have h2 : (s ||| (1 <<< e.on ||| (match lget acc e.on with | some k => k | none => 0))).testBit j = true := h1
          rw [Nat.testBit_or, Nat.testBit_or, Bool.or_eq_true, Bool.or_eq_true] at h2
          rcases h2 with h2 | h2 | h2
          · exact .inl h2
          · refine .inr ⟨e, by simp, hb, .inl ?_⟩
            rw [Nat.testBit_shiftLeft] at h2
            simp only [Bool.and_eq_true, decide_eq_true_eq, ge_iff_le] at h2
            obtain ⟨h3, h4⟩ := h2
            have : j - e.on = 0 := by
              have h5 : (2 ^ 0).testBit (j - e.on) = true := h4
              rw [Nat.testBit_two_pow] at h5
              have := of_decide_eq_true h5
              omega
            omega
          · refine .inr ⟨e, by simp, hb, .inr ?_⟩
            rw [lget_eq] at h2
            split at h2
            · rename_i k hk; exact ⟨k, hk, h2⟩
            · simp at h2
      · exact .inr ⟨e', by simp [he'], h1⟩
  rcases key _ 0 h with h1 | ⟨e, he, h1⟩
  · simp at h1
  · exact ⟨e, by simpa using he, h1⟩

theorem masks_len : ∀ (l : List Oper) (acc : List Nat), (masks l acc).length = acc.length + l.length
  | [], acc => by simp [masks]
  | o :: l, acc => by simp [masks, masks_len l]; omega
theorem masks_get : ∀ (l : List Oper) (acc : List Nat) (i : Nat) (k : Nat), acc[i]? = some k → (masks l acc)[i]? = some k
  | [], acc, i, k, h => h
  | o :: l, acc, i, k, h => masks_get l _ i k (by rw [List.getElem?_append_left (List.getElem?_eq_some_iff.1 h).1]; exact h)
/-- Whatever holds with an operation and all that it waits for holds of all before it. -/
theorem masks_down {ops : List Oper} {D : Nat → Prop} (hD : ∀ i o, ops[i]? = some o → D i → ∀ e ∈ o.after, Region.binds .any e = true → D e.on) :
    ∀ (l : List Oper) (acc : List Nat), (∀ j, l[j]? = ops[acc.length + j]?) → (∀ i k, acc[i]? = some k → ∀ j, k.testBit j = true → D i → D j) → ∀ i k, (masks l acc)[i]? = some k → ∀ j, k.testBit j = true → D i → D j
  | [], acc, _, ha, i, k, h => ha i k h
  | o :: l, acc, hl, ha, i, k, h => by
    refine masks_down hD l (acc ++ [maskOf acc o]) (fun j => ?_) (fun i k hik j hj hDi => ?_) i k h
    · have := hl (j + 1)
      simp only [List.getElem?_cons_succ] at this
      rw [this]
      congr 1
      simp; omega
    · by_cases hlt : i < acc.length
      · rw [List.getElem?_append_left hlt] at hik
        exact ha i k hik j hj hDi
      · rw [List.getElem?_append_right (by omega)] at hik
        have hi : i = acc.length := by
          have := (List.getElem?_eq_some_iff.1 hik).1
          simp at this; omega
        subst hi
        simp at hik
        subst hik
        obtain ⟨e, he, hb, h1⟩ := maskOf_bit hj
        have ho : ops[acc.length]? = some o := by have := hl 0; simpa using this.symm
        have hDe := hD _ o ho hDi e he hb
        rcases h1 with rfl | ⟨k, hk, hkj⟩
        · exact hDe
        · exact ha _ k hk j hkj hDe
theorem bit_down {ops : List Oper} {D : Nat → Prop} (hD : ∀ i o, ops[i]? = some o → D i → ∀ e ∈ o.after, Region.binds .any e = true → D e.on) {i j : Nat} (h : bit (masks ops []) i j = true) (hi : D i) : D j := by
  unfold bit at h
  rw [lget_eq] at h
  split at h
  · rename_i k hk
    exact masks_down hD ops [] (by simp) (by simp) i k hk j h hi
  · cases h

/-! ### The look at a region -/
def looks (ops : List Oper) (o : Oper) : List Nat :=
  (o.op.operands.toList.filterMap fun | .tmp t => some t | _ => none) ++ (match o.guard with
    | some (g, _) => match lget ops g with
      | some og => og.dst.toList
      | none => []
    | none => [])
def memb : List Nat → Nat → Bool
  | [], _ => false
  | a :: l, t => match Nat.beq a t with
    | true => true
    | false => memb l t
theorem memb_iff : ∀ (l : List Nat) (t : Nat), memb l t = true ↔ t ∈ l
  | [], t => by simp [memb]
  | a :: l, t => by
    simp only [memb]
    split
    · rename_i h; rw [Nat.eq_of_beq_eq_true h]; simp
    · rename_i h
      have : t ≠ a := fun e => Nat.ne_of_beq_eq_false h e.symm
      rw [memb_iff l t]; simp [this]
/-- Two operations meet at a slot that one of them writes. -/
def clash (ops : List Oper) (x y : Oper) : Bool :=
  (match x.dst with
    | some d => memb (looks ops y) d || (match y.dst with
      | some d' => Nat.beq d d'
      | none => false)
    | none => false) ||
  (match y.dst with
    | some d => memb (looks ops x) d
    | none => false)
def edgesOk (i : Nat) : List Edge → Bool
  | [] => true
  | e :: l => (match Region.binds .any e with
    | true => Nat.blt e.on i
    | false => true) && edgesOk i l
/-- One operation against those before it. -/
def rowOk (ops : List Oper) (k : Nat) (o : Oper) (f : Bool) : List (Oper × Bool) → Nat → Bool
  | [], _ => true
  | (x, g) :: l, i => (match clash ops x o || ((f || g) && (!(pureKind x.op) && !(pureKind o.op))) with
    | true => Nat.testBit k i
    | false => true) && rowOk ops k o f l (Nat.succ i)
def allRows (ops : List Oper) (ms : List Nat) (all : List (Oper × Bool)) : List (Oper × Bool) → Nat → Bool
  | [], _ => true
  | (o, f) :: l, j => (match lget ms j with
    | some k => rowOk ops k o f (all.take j) 0
    | none => false) && (edgesOk j o.after.toList && allRows ops ms all l (Nat.succ j))
/-- Flags: an operation on memory that stands, before or behind, in a fixed order to all others on memory. -/
def flagOne (ms : List Nat) (k i : Nat) : List Oper → Nat → Bool
  | [], _ => true
  | x :: l, j => (match pureKind x.op with
    | true => true
    | false => match Nat.beq i j with
      | true => true
      | false => match Nat.blt j i with
        | true => Nat.testBit k j
        | false => bit ms j i) && flagOne ms k i l (Nat.succ j)
def flagsGo (ops : List Oper) (ms : List Nat) : List Oper → Nat → List (Oper × Bool)
  | [], _ => []
  | o :: l, i => (o, match pureKind o.op with
    | true => true
    | false => match lget ms i with
      | some k => flagOne ms k i ops 0
      | none => false) :: flagsGo ops ms l (Nat.succ i)
def flags (ops : List Oper) : List (Oper × Bool) := flagsGo ops (masks ops []) ops 0
def drawOk (ops : List Oper) : Bool := allRows ops (masks ops []) (flags ops) (flags ops) 0

theorem flagsGo_fst (ops : List Oper) (ms : List Nat) : ∀ (l : List Oper) (i : Nat), (flagsGo ops ms l i).map (·.1) = l
  | [], _ => rfl
  | o :: l, i => by simp [flagsGo, flagsGo_fst ops ms l]
theorem flags_fst (ops : List Oper) : (flags ops).map (·.1) = ops := flagsGo_fst _ _ _ _

theorem edgesOk_iff {i : Nat} : ∀ {l : List Edge}, edgesOk i l = true → ∀ e ∈ l, Region.binds .any e = true → e.on < i
  | [], _, e, he, _ => by cases he
  | x :: l, h, e, he, hb => by
    simp only [edgesOk, Bool.and_eq_true] at h
    rcases List.mem_cons.1 he with rfl | he
    · have := h.1; rw [hb] at this; simpa using this
    · exact edgesOk_iff h.2 e he hb
theorem rowOk_iff {ops : List Oper} {k : Nat} {o : Oper} {f : Bool} : ∀ {l : List (Oper × Bool)} {b : Nat}, rowOk ops k o f l b = true → ∀ i x g, l[i]? = some (x, g) →
    (clash ops x o || ((f || g) && (!(pureKind x.op) && !(pureKind o.op)))) = true → k.testBit (b + i) = true
  | [], _, _, i, x, g, hi, _ => by cases hi
  | (x', g') :: l, b, h, i, x, g, hi, hc => by
    simp only [rowOk, Bool.and_eq_true] at h
    cases i with
    | zero =>
      simp at hi
      obtain ⟨rfl, rfl⟩ := hi
      have := h.1
      rw [hc] at this
      exact this
    | succ i =>
      have := rowOk_iff h.2 i x g (by simpa using hi) hc
      rw [Nat.succ_add] at this
      exact this
theorem allRows_iff {ops : List Oper} {ms : List Nat} {all : List (Oper × Bool)} : ∀ {l : List (Oper × Bool)} {b : Nat}, allRows ops ms all l b = true → ∀ j o f, l[j]? = some (o, f) →
    (∃ k, ms[b + j]? = some k ∧ rowOk ops k o f (all.take (b + j)) 0 = true) ∧ edgesOk (b + j) o.after.toList = true
  | [], _, _, j, o, f, hj => by cases hj
  | (o', f') :: l, b, h, j, o, f, hj => by
    simp only [allRows, Bool.and_eq_true] at h
    cases j with
    | zero =>
      simp at hj
      obtain ⟨rfl, rfl⟩ := hj
      refine ⟨?_, h.2.1⟩
      have h1 := h.1
      rw [lget_eq] at h1
      split at h1
      · rename_i k hk; exact ⟨k, hk, h1⟩
      · cases h1
    | succ j =>
      have := allRows_iff h.2.2 j o f (by simpa using hj)
      rw [Nat.succ_add] at this
      exact this

/-- What the look tells. -/
structure DrawFacts (ops : List Oper) : Prop where
  edge : ∀ i o, ops[i]? = some o → ∀ e ∈ o.after, Region.binds .any e = true → e.on < i
  pair : ∀ i j x f o g, i < j → (flags ops)[i]? = some (x, f) → (flags ops)[j]? = some (o, g) → (clash ops x o || ((g || f) && (!(pureKind x.op) && !(pureKind o.op)))) = true → bit (masks ops []) j i = true
theorem drawOk_facts {ops : List Oper} (h : drawOk ops = true) : DrawFacts ops where
  edge := fun i o ho e he hb => by
    have hl : (flags ops)[i]?.map (·.1) = some o := by rw [← List.getElem?_map, flags_fst]; exact ho
    obtain ⟨⟨o', f⟩, h1, rfl⟩ := Option.map_eq_some_iff.1 hl
    have := (allRows_iff h i o' f h1).2
    rw [Nat.zero_add] at this
    exact edgesOk_iff this e (by simpa using he) hb
  pair := fun i j x f o g hij hi hj hc => by
    obtain ⟨⟨k, hk, hr⟩, _⟩ := allRows_iff h j o g hj
    rw [Nat.zero_add] at hk hr
    have := rowOk_iff hr i x f (by rw [List.getElem?_take, if_pos hij]; exact hi) hc
    rw [Nat.zero_add] at this
    simp [bit, hk, this]

/-! ### Loads that may be late: a load that stands ahead of a writer in the text, in no fixed order to it -/
def freeL (o : Oper) : Option Operand := match o.guard with
  | some _ => none
  | none => match o.op with
    | .load _ x => some x
    | _ => none
def isFree (o : Oper) : Bool := match freeL o with
  | some _ => true
  | none => false
def flagTwo (ms : List Nat) (k i : Nat) : List Oper → Nat → Bool
  | [], _ => true
  | x :: l, j => (match pureKind x.op with
    | true => true
    | false => match Nat.beq i j with
      | true => true
      | false => match Nat.blt j i with
        | true => Nat.testBit k j || isFree x
        | false => bit ms j i) && flagTwo ms k i l (Nat.succ j)
def lflagsGo (ops : List Oper) (ms : List Nat) : List Oper → Nat → List (Oper × Bool)
  | [], _ => []
  | o :: l, i => (o, match pureKind o.op with
    | true => true
    | false => match isFree o with
      | true => false
      | false => match lget ms i with
        | some k => flagTwo ms k i ops 0
        | none => false) :: lflagsGo ops ms l (Nat.succ i)
def lflags (ops : List Oper) : List (Oper × Bool) := lflagsGo ops (masks ops []) ops 0
theorem lflagsGo_fst (ops : List Oper) (ms : List Nat) : ∀ (l : List Oper) (i : Nat), (lflagsGo ops ms l i).map (·.1) = l
  | [], _ => rfl
  | o :: l, i => by simp [lflagsGo, lflagsGo_fst ops ms l]
theorem lflags_fst (ops : List Oper) : (lflags ops).map (·.1) = ops := lflagsGo_fst _ _ _ _
/-- One operation against those before it; a free load ahead of a writer counts where cut says so. -/
def rowTwo (ops : List Oper) (k : Nat) (o : Oper) (f cut : Bool) : List (Oper × Bool) → Nat → Bool
  | [], _ => true
  | (x, g) :: l, i => (match clash ops x o || (((f && !(cut && isFree x)) || g) && (!(pureKind x.op) && !(pureKind o.op))) with
    | true => Nat.testBit k i
    | false => true) && rowTwo ops k o f cut l (Nat.succ i)
def allTwo (ops : List Oper) (ms : List Nat) (cut : Nat) (all : List (Oper × Bool)) : List (Oper × Bool) → Nat → Bool
  | [], _ => true
  | (o, f) :: l, j => (match lget ms j with
    | some k => rowTwo ops k o f (Nat.beq j cut) (all.take j) 0
    | none => false) && (edgesOk j o.after.toList && allTwo ops ms cut all l (Nat.succ j))
/-- The addresses of the free loads ahead of a writer, in no order to it. -/
def lateRow (k : Nat) : List Oper → Nat → List Operand
  | [], _ => []
  | x :: l, i => match Nat.testBit k i with
    | true => lateRow k l (Nat.succ i)
    | false => match freeL x with
      | some a => a :: lateRow k l (Nat.succ i)
      | none => lateRow k l (Nat.succ i)
def lateAddrs (ops : List Oper) (j : Nat) : List Operand := match lget (masks ops []) j with
  | some k => lateRow k (ops.take j) 0
  | none => []
def cutsGo (ops : List Oper) : List (Oper × Bool) → Nat → List Nat
  | [], _ => []
  | (o, f) :: l, j => match f && !(pureKind o.op) with
    | true => match lateAddrs ops j with
      | [] => cutsGo ops l (Nat.succ j)
      | _ :: _ => j :: cutsGo ops l (Nat.succ j)
    | false => cutsGo ops l (Nat.succ j)
/-- The address of a free load is not turned behind it. -/
def noDst2 (t : Nat) : List Oper → Bool
  | [] => true
  | o :: l => match (match o.dst with
      | some d => Nat.beq d t
      | none => false) with
    | true => false
    | false => noDst2 t l
def stab2 : List Oper → Bool
  | [] => true
  | o :: l => match (match freeL o with
      | some (.tmp t) => noDst2 t (o :: l)
      | _ => true) with
    | true => stab2 l
    | false => false
/-- The one writer that free loads stand ahead of, in no order to it. -/
def lateCut (ops : List Oper) : Option Nat := match cutsGo ops (lflags ops) 0 with
  | [j] => match allTwo ops (masks ops []) j (lflags ops) (lflags ops) 0 && stab2 ops with
    | true => some j
    | false => none
  | _ => none

theorem rowTwo_iff {ops : List Oper} {k : Nat} {o : Oper} {f cut : Bool} : ∀ {l : List (Oper × Bool)} {b : Nat}, rowTwo ops k o f cut l b = true → ∀ i x g, l[i]? = some (x, g) →
    (clash ops x o || (((f && !(cut && isFree x)) || g) && (!(pureKind x.op) && !(pureKind o.op)))) = true → k.testBit (b + i) = true
  | [], _, _, i, x, g, hi, _ => by cases hi
  | (x', g') :: l, b, h, i, x, g, hi, hc => by
    simp only [rowTwo, Bool.and_eq_true] at h
    cases i with
    | zero =>
      simp at hi
      obtain ⟨rfl, rfl⟩ := hi
      have := h.1
      rw [hc] at this
      exact this
    | succ i =>
      have := rowTwo_iff h.2 i x g (by simpa using hi) hc
      rw [Nat.succ_add] at this
      exact this
theorem allTwo_iff {ops : List Oper} {ms : List Nat} {cut : Nat} {all : List (Oper × Bool)} : ∀ {l : List (Oper × Bool)} {b : Nat}, allTwo ops ms cut all l b = true → ∀ j o f, l[j]? = some (o, f) →
    (∃ k, ms[b + j]? = some k ∧ rowTwo ops k o f (Nat.beq (b + j) cut) (all.take (b + j)) 0 = true) ∧ edgesOk (b + j) o.after.toList = true
  | [], _, _, j, o, f, hj => by cases hj
  | (o', f') :: l, b, h, j, o, f, hj => by
    simp only [allTwo, Bool.and_eq_true] at h
    cases j with
    | zero =>
      simp at hj
      obtain ⟨rfl, rfl⟩ := hj
      refine ⟨?_, h.2.1⟩
      have h1 := h.1
      rw [lget_eq] at h1
      split at h1
      · rename_i k hk; exact ⟨k, hk, h1⟩
      · cases h1
    | succ j =>
      have := allTwo_iff h.2.2 j o f (by simpa using hj)
      rw [Nat.succ_add] at this
      exact this
theorem lateRow_mem {k : Nat} {x : Oper} {a : Operand} (hf : freeL x = some a) : ∀ {l : List Oper} {b i : Nat}, l[i]? = some x → Nat.testBit k (b + i) = false → a ∈ lateRow k l b
  | [], b, i, h, _ => by cases h
  | y :: l, b, 0, h, hk => by
    simp at h
    subst h
    rw [Nat.add_zero] at hk
    simp only [lateRow, hk, hf]
    exact List.mem_cons_self ..
  | y :: l, b, i + 1, h, hk => by
    have h1 := lateRow_mem (k := k) hf (l := l) (b := Nat.succ b) (i := i) (by simpa using h) (by rw [Nat.succ_add]; exact hk)
    simp only [lateRow]
    split
    · exact h1
    · split
      · exact List.mem_cons_of_mem _ h1
      · exact h1
theorem noDst2_get : ∀ {l : List Oper} {t j : Nat} {x : Oper}, noDst2 t l = true → l[j]? = some x → x.dst ≠ some t
  | [], t, j, x, _, hx => by cases hx
  | y :: l, t, j, x, h, hx => by
    simp only [noDst2] at h
    split at h
    · cases h
    · rename_i hb
      cases j with
      | zero =>
        simp at hx
        subst hx
        intro e
        rw [e] at hb
        simp at hb
      | succ j => exact noDst2_get h (by simpa using hx)
theorem stab2_get : ∀ {l : List Oper} {i j : Nat} {o x : Oper} {t : Nat}, stab2 l = true → l[i]? = some o → freeL o = some (.tmp t) → i ≤ j → l[j]? = some x → x.dst ≠ some t
  | [], i, j, o, x, t, _, ho, _, _, _ => by cases ho
  | y :: l, i, j, o, x, t, h, ho, hf, hij, hx => by
    simp only [stab2] at h
    split at h
    · rename_i hy
      cases i with
      | zero =>
        simp at ho
        subst ho
        rw [hf] at hy
        exact noDst2_get hy hx
      | succ i =>
        cases j with
        | zero => omega
        | succ j => exact stab2_get (i := i) (j := j) h (by simpa using ho) hf (by omega) (by simpa using hx)
    · cases h
/-! ### Blocks that are the same -/
def aEq (a b : Option Addr) : Bool := match a with
  | none => match b with
    | none => true
    | some _ => false
  | some ⟨b1, o1, s1⟩ => match b with
    | none => false
    | some ⟨b2, o2, s2⟩ => Nat.beq b1 b2 && (Nat.beq o1 o2 && (match s1 with
      | none => match s2 with
        | none => true
        | some _ => false
      | some x => match s2 with
        | none => false
        | some y => Nat.beq x y))
def bEqB (a b : Bool) : Bool := match a with
  | true => b
  | false => !b
theorem bEqB_ok {a b : Bool} (h : bEqB a b = true) : a = b := by
  cases a <;> cases b <;> simp_all [bEqB]
def veq (v w : Value) : Bool := match v with
  | .int k a => match w with
    | .int k' b => decide (k = k') && ieq a b
    | _ => false
  | .bool a => match w with
    | .bool b => bEqB a b
    | _ => false
  | .slice p n c => match w with
    | .slice p' n' c' => aEq p p' && (Nat.beq n n' && Nat.beq c c')
    | _ => false
  | .pointer p => match w with
    | .pointer p' => aEq p p'
    | _ => false
  | _ => false
theorem aEq_ok {a b : Option Addr} (h : aEq a b = true) : a = b := by
  unfold aEq at h
  split at h
  · split at h
    · rfl
    · cases h
  · split at h
    · cases h
    · simp only [Bool.and_eq_true, Nat.beq_eq] at h
      obtain ⟨rfl, rfl, h⟩ := h
      split at h
      · split at h
        · rfl
        · cases h
      · split at h
        · cases h
        · rw [Nat.eq_of_beq_eq_true h]
theorem aEq_refl (a : Option Addr) : aEq a a = true := by
  unfold aEq
  split
  · rfl
  · rename_i b o s
    cases s <;> simp
theorem ieq_ok {a b : Int} (h : ieq a b = true) : a = b := by
  unfold ieq at h
  split at h
  · rw [Nat.eq_of_beq_eq_true h]
  · rw [Nat.eq_of_beq_eq_true h]
  · cases h
theorem ieq_refl (a : Int) : ieq a a = true := by cases a <;> simp [ieq]
theorem veq_ok {v w : Value} (h : veq v w = true) : v = w := by
  unfold veq at h
  split at h
  · split at h
    · rw [Bool.and_eq_true] at h
      rw [of_decide_eq_true h.1, ieq_ok h.2]
    · cases h
  · split at h
    · rw [bEqB_ok h]
    · cases h
  · split at h
    · simp only [Bool.and_eq_true, Nat.beq_eq] at h
      obtain ⟨h1, rfl, rfl⟩ := h
      rw [aEq_ok h1]
    · cases h
  · split at h
    · rw [aEq_ok h]
    · cases h
  · cases h
def veqL : List Value → List Value → Bool
  | [], [] => true
  | v :: l, w :: l' => veq v w && veqL l l'
  | _, _ => false
theorem veqL_ok : ∀ {l l' : List Value}, veqL l l' = true → l = l'
  | [], [], _ => rfl
  | v :: l, w :: l', h => by
    simp only [veqL, Bool.and_eq_true] at h
    rw [veq_ok h.1, veqL_ok h.2]
  | [], _ :: _, h => by cases h
  | _ :: _, [], h => by cases h
def bEq (a b : Option Blk) : Bool := match a with
  | none => false
  | some k => match b with
    | none => false
    | some k' => match k.ents with
      | some _ => false
      | none => match k'.ents with
        | some _ => false
        | none => Nat.beq k.esz k'.esz && veqL k.cells k'.cells
theorem bEq_ok {a b : Option Blk} (h : bEq a b = true) : a = b := by
  cases a with
  | none => cases h
  | some k => cases b with
    | none => cases h
    | some k' =>
      obtain ⟨s, c, e⟩ := k
      obtain ⟨s', c', e'⟩ := k'
      cases e with
      | some _ => cases h
      | none => cases e' with
        | some _ => cases h
        | none =>
          have h1 : (Nat.beq s s' && veqL c c') = true := h
          simp only [Bool.and_eq_true, Nat.beq_eq] at h1
          rw [h1.1, veqL_ok h1.2]
def smB (m m' : Mem) (v : Value) : Bool := match v with
  | .pointer (some ⟨b, _, none⟩) => bEq (m.rd b) (m'.rd b)
  | _ => false
def smAll (m m' : Mem) (ev : Operand → Option Value) : List Operand → Bool
  | [] => true
  | a :: l => match ev a with
    | some v => match smB m m' v with
      | true => smAll m m' ev l
      | false => false
    | none => false
theorem smAll_mem {m m' : Mem} {ev : Operand → Option Value} : ∀ {l : List Operand} {a : Operand}, smAll m m' ev l = true → a ∈ l → ∃ b o, ev a = some (.pointer (some ⟨b, o, none⟩)) ∧ m.rd b = m'.rd b
  | x :: l, a, h, ha => by
    simp only [smAll] at h
    split at h
    · rename_i v hv
      split at h
      · rename_i hs
        rcases List.mem_cons.1 ha with rfl | ha
        · unfold smB at hs
          split at hs
          · rename_i b o
            exact ⟨b, o, hv, bEq_ok hs⟩
          · cases hs
        · exact smAll_mem h ha
      · cases h
    · cases h
end Go.Vit

/- All orders of a region. -/
namespace Go.Vit
open Go

section
variable {P : Program} {G R U L : Nat} {B : World} {call : CallT}

def putA (K : List Nat) (fr : Fr) (dst : Option Nat) (v : Value) : Fr := match dst with
  | some d => fset K fr d v
  | none => fr

/-- One operation in the text's order. -/
def Stp (P : Program) (G N : Nat) (K : List Nat) (call : CallT) (ops : List Oper) (L : Nat) (o : Oper) (eff : Bool) (s s' : Fr × Mem) : Prop :=
  (∀ d, o.dst = some d → d < N) ∧
  ((wantA K ops s.1 o = some false ∧ s'.2 = s.2 ∧ s'.1 = putA K s.1 o.dst Go.undef) ∨
   (∃ v, wantA K ops s.1 o = some true ∧ exA P call (match eff with | true => L | false => s.2.next) (aeval G (fget K s.1)) s.2 o.op = some (v, s'.2) ∧ s'.1 = putA K s.1 o.dst v))

theorem evOps_trace {N : Nat} {K : List Nat} {ops : List Oper} : ∀ (l : List (Oper × Bool)) (fr : Fr) (m : Mem) (fr' : Fr) (m' : Mem), evOps P G N K call ops L l fr m = some (fr', m') →
    ∃ tr : Nat → Fr × Mem, tr 0 = (fr, m) ∧ tr l.length = (fr', m') ∧ ∀ i o f, l[i]? = some (o, f) → Stp P G N K call ops L o f (tr i) (tr (i + 1))
  | [], fr, m, fr', m', h => by cases h; exact ⟨fun _ => (fr, m), rfl, rfl, fun i o f hi => by cases hi⟩
  | (o, f) :: l, fr, m, fr', m', h => by
    simp only [evOps] at h
    have fin : ∀ (v : Value) (m1 : Mem),
        (match o.dst with | none => evOps P G N K call ops L l fr m1 | some d => fsetK N K fr d v fun fr => evOps P G N K call ops L l fr m1) = some (fr', m') →
        ((∀ d, o.dst = some d → d < N) → Stp P G N K call ops L o f (fr, m) (putA K fr o.dst v, m1)) →
        ∃ tr : Nat → Fr × Mem, tr 0 = (fr, m) ∧ tr (l.length + 1) = (fr', m') ∧ ∀ i o' f', ((o, f) :: l)[i]? = some (o', f') → Stp P G N K call ops L o' f' (tr i) (tr (i + 1)) := by
      intro v m1 hh hst
      have : (∀ d, o.dst = some d → d < N) ∧ evOps P G N K call ops L l (putA K fr o.dst v) m1 = some (fr', m') := by
        cases hd : o.dst with
        | none => rw [hd] at hh; exact ⟨(fun d h => by cases h), hh⟩
        | some d => rw [hd] at hh; obtain ⟨h1, h2⟩ := fsetK_eq hh; exact ⟨(fun d' h => by cases h; exact h1), h2⟩
      obtain ⟨hdN, hh⟩ := this
      obtain ⟨tr, h0, h1, h2⟩ := evOps_trace l _ _ _ _ hh
      refine ⟨fun i => match i with | 0 => (fr, m) | i + 1 => tr i, rfl, h1, fun i o' f' hi => ?_⟩
      cases i with
      | zero =>
        simp at hi
        obtain ⟨rfl, rfl⟩ := hi
        simp only [h0]
        exact hst hdN
      | succ i => exact h2 i o' f' (by simpa using hi)
    split at h
    · cases h
    · rename_i hw
      exact fin Go.undef m h fun hdN => ⟨hdN, .inl ⟨hw, rfl, rfl⟩⟩
    · rename_i hw
      split at h
      · cases h
      · rename_i v m1 hx
        exact fin v m1 h fun hdN => ⟨hdN, .inr ⟨v, hw, hx, rfl⟩⟩

/-- More memory, no image turned. -/
theorem Rel.fwd {ι : Inj} {m m2 : Mem} {w : World} (h : Rel G R B U ι m w) (hn : m.next ≤ m2.next) (hk : m2.ok) (hU : m2.next ≤ U) (hrd : ∀ b, b < m.next → m2.rd b = m.rd b) : Rel G R B U ι m2 w := by
  have low : ∀ b e k, ι b = some e → m2.rd b = some k → b < m.next ∧ m.rd b = some k := fun b e k h1 h2 => by
    have h3 := Mem.rd_lt h2
    rcases h.dom _ _ h1 with h4 | h4
    · exact ⟨h4, by rw [← hrd b h4]; exact h2⟩
    · omega
  exact ⟨hk, by have := h.rlt; omega, h.old, h.gl, fun b e he => (h.dom b e he).imp (fun h1 => by omega) id, h.size, h.ge,
    fun b e k h1 h2 => h.cells b e k h1 (low b e k h1 h2).2, fun b e k h1 h2 h3 => h.own b e k h1 h2 (low b e k h2 h3).2,
    fun b b' e e' k k' h1 h2 h3 h4 h5 h6 => h.disj b b' e e' k k' h1 h2 h3 h4 (low b e k h3 h5).2 (low b' e' k' h4 h6).2,
    fun b e k es h1 h2 => h.maps b e k es h1 (low b e k h1 h2).2⟩

/-- Back to an earlier memory. -/
theorem Rel.back {ι : Inj} {m m2 : Mem} {w : World} {U' : Nat} (h : Rel G R B U ι m2 w) (hR : R ≤ m.next) (hk : m.ok) (hn : m.next ≤ m2.next) (hrd : ∀ b, b < m.next → m2.rd b = m.rd b) (hd : ∀ b e, ι b = some e → b < m.next ∨ U' ≤ b) : Rel G R B U' ι m w := by
  have low : ∀ b k, m.rd b = some k → m2.rd b = some k := fun b k h2 => by rw [hrd b (Mem.rd_lt h2)]; exact h2
  exact ⟨hk, hR, h.old, h.gl, hd, h.size, h.ge,
    fun b e k h1 h2 => h.cells b e k h1 (low b k h2), fun b e k h1 h2 h3 => h.own b e k h1 h2 (low b k h3),
    fun b b' e e' k k' h1 h2 h3 h4 h5 h6 => h.disj b b' e e' k k' h1 h2 h3 h4 (low b k h5) (low b' k' h6),
    fun b e k es h1 h2 => h.maps b e k es h1 (low b k h2)⟩

/-- A quiet step of an earlier memory, seen from a later one. -/
theorem Rel.merge {ι κ : Inj} {m m1 m2 : Mem} {w w' : World} {U' : Nat} (h : Rel G R B U ι m2 w) (h1 : Rel G R B U' κ m1 w') (hs : Step m.next ι m w κ m1 w') (hn : m1.next ≤ m2.next) (hrd : ∀ b, b < m1.next → m2.rd b = m1.rd b) (hRm : R ≤ m.next) (hm2U : m2.next ≤ U) :
    Rel G R B U κ m2 w' := by
  have hblk : ∀ k, k < w.heap.size → w'.heap[k]? = w.heap[k]? := fun k hk => hs.block k hk fun b e h1 h2 => by omega
  have hcell : ∀ k o, k < w.heap.size → w'.cell? ⟨k, o, none⟩ = w.cell? ⟨k, o, none⟩ := fun k o hk => by simp [World.cell?, hblk k hk]
  -- an id is old, or new
  have part : ∀ b e, κ b = some e → ι b = some e ∨ (ι b = none ∧ m.next ≤ b ∧ b < m1.next ∧ w.heap.size ≤ e.cb) := fun b e he => by
    cases hi : ι b with
    | some e' => have := hs.le _ _ hi; rw [he] at this; cases this; exact .inl rfl
    | none =>
      obtain ⟨g1, g2, g3⟩ := hs.fresh b e he hi
      refine .inr ⟨rfl, g1, g2, ?_⟩
      rcases g3 with g3 | ⟨b0, _, g4, g5, _⟩
      · exact g3
      · omega
  refine ⟨h.ok, h.rlt, ⟨Nat.le_trans h.old.size hs.size, fun k hk => (hblk k (Nat.lt_of_lt_of_le hk h.old.size)).trans (h.old.block k hk)⟩, fun g hg => hs.le _ _ (h.gl g hg), fun b e he => ?_, fun b e he => ?_, fun b e hR he => ?_, fun b e k he hk hen i v hv => ?_, fun b e k hR he hk hen => ?_, fun b b' e e' k k' hR hne he he' hk hk' => ?_, fun b e k es he hk hes => ?_⟩
  · rcases part b e he with h2 | ⟨_, _, h2, _⟩
    · exact h.dom b e h2
    · exact .inl (by omega)
  · exact h1.size b e he
  · exact h1.ge b e hR he
  · rcases part b e he with h2 | ⟨_, _, h2, _⟩
    · obtain ⟨u, g1, g2⟩ := h.cells b e k h2 hk hen i v hv
      exact ⟨u, g1.mono hs.le, by rw [hcell _ _ (h.size b e h2)]; exact g2⟩
    · exact h1.cells b e k he (by rw [← hrd b h2]; exact hk) hen i v hv
  · rcases part b e he with h2 | ⟨_, _, h2, _⟩
    · rw [hblk _ (h.size b e h2)]; exact h.own b e k hR h2 hk hen
    · exact h1.own b e k hR he (by rw [← hrd b h2]; exact hk) hen
  · rcases part b e he with h2 | ⟨_, h2l, h2, h2c⟩
    · rcases part b' e' he' with h3 | ⟨_, h3l, h3, h3c⟩
      · exact h.disj b b' e e' k k' hR hne h2 h3 hk hk'
      · have := h.size b e h2; omega
    · rcases part b' e' he' with h3 | ⟨_, h3l, h3, h3c⟩
      · have := h.size b' e' h3; omega
      · exact h1.disj b b' e e' k k' hR hne he he' (by rw [← hrd b h2]; exact hk) (by rw [← hrd b' h3]; exact hk')
  · rcases part b e he with h2 | ⟨_, _, h2, _⟩
    · obtain ⟨les, clock, g1, g2, g3⟩ := h.maps b e k es h2 hk hes
      exact ⟨les, clock, by rw [hblk _ (h.size b e h2)]; exact g1, g2, fun i kv me a1 a2 => ⟨(g3 i kv me a1 a2).1.mono hs.le, (g3 i kv me a1 a2).2.mono hs.le⟩⟩
    · exact h1.maps b e k es he (by rw [← hrd b h2]; exact hk) hes

theorem Step.fwd {ι κ : Inj} {m m1 m2 : Mem} {w w' : World} (h : Step L ι m w κ m1 w') (hn : m1.next ≤ m2.next) (hf : ∀ b e, ι b = some e → b < m.next ∨ m2.next ≤ b) (hk : ∀ b, b < L → b < m1.next → m2.rd b = m1.rd b) : Step L ι m w κ m2 w' :=
  ⟨h.le, hf, fun b e h1 h2 => ⟨(h.fresh b e h1 h2).1, by have := (h.fresh b e h1 h2).2.1; omega, (h.fresh b e h1 h2).2.2⟩, Nat.le_trans h.next hn,
    fun b h1 h2 => (hk b h1 (by have := h.next; omega)).trans (h.kept b h1 h2), h.os, h.tape, h.output, h.size, h.block⟩
end
end Go.Vit

/- All orders of a region: the proof. -/
namespace Go.Vit
open Go

theorem aeval_ok1 {G : Nat} {ι : Inj} {env : Nat → Option Value} {a : Act} (hg : ∀ g, g < G → ι g = some ⟨g, 0, 0⟩) {x : Operand} (hf : ∀ t, x = .tmp t → ∀ v, env t = some v → VR ι v (a.tmps.getD t Go.undef)) {v : Value} (h : aeval G env x = some v) : VR ι v (a.eval x) := by
  cases x with
  | tmp t => exact hf t rfl v h
  | const c =>
    simp only [aeval] at h
    split at h
    · rename_i hp; cases h; exact VR.plain ι hp
    · cases h
  | global g =>
    simp only [aeval] at h
    split at h
    · rename_i hp
      cases h
      have := VR.ptr (ι := ι) g 0 ⟨g, 0, 0⟩ (hg g (by simpa using hp))
      exact this
    · cases h
  | func f => cases h; exact .func f _ _ rfl (by simp)

section
variable {P : Program} {G R U L : Nat} {B : World} {call : CallT}

theorem exA_congr {ev ev' : Operand → Option Value} {m : Mem} {op : Op} (h : ∀ x ∈ op.operands, ev x = ev' x) : exA P call L ev m op = exA P call L ev' m op := by
  unfold exA
  split
  · rename_i f args hcal
    obtain ⟨c, rfl, hcc, hargs⟩ := acallee_some hcal
    rw [h f (by simp [Op.operands, Call.operands, hcc])]
    have : evL ev args = evL ev' args := evL_congr _ fun x hx => h x (by rw [← hargs] at hx; simp [Op.operands, Call.operands, Array.mem_toList_iff.1 hx])
    rw [this]
  · exact aop_congr h

theorem load_at {ev : Operand → Option Value} {m m1 : Mem} {t : TypeId} {x : Operand} {v : Value} (h : exA P call L ev m (.load t x) = some (v, m1)) :
    m1 = m ∧ ∃ b o, ev x = some (.pointer (some ⟨b, o, none⟩)) ∧ b < m.next ∧ ∀ (L' : Nat) (M : Mem), M.rd b = m.rd b → exA P call L' ev M (.load t x) = some (v, M) := by
  simp only [exA, acallee, aop] at h ⊢
  split at h
  · rename_i vx hvx
    split at h
    · rename_i v1 hv1
      cases h
      have hp : ∃ b o, vx = .pointer (some ⟨b, o, none⟩) := by
        unfold aload at hv1
        split at hv1
        · exact ⟨_, _, rfl⟩
        · cases hv1
      obtain ⟨b, o, rfl⟩ := hp
      refine ⟨rfl, b, o, hvx, ?_, fun L' M hM => ?_⟩
      · cases hrd : m.rd b with
        | some kb => exact Mem.rd_lt hrd
        | none =>
          simp only [aload, rdc, hrd] at hv1
          split at hv1
          · cases hv1
          · split at hv1
            · cases hv1
            · cases hv1
          · cases hv1
      · have : aload P M t (.pointer (some ⟨b, o, none⟩)) = some v := by
          rw [← hv1]; simp only [aload, rdc, hM]
        simp only [hvx, this]
    · cases h
  · cases h

variable {ops : Array Oper} {N : Nat} {K : List Nat} (tr : Nat → Fr × Mem)

variable {fl : List (Oper × Bool)}
def EM (fl : List (Oper × Bool)) (i : Nat) : Prop := ∃ o, fl[i]? = some (o, true) ∧ pureKind o.op = false
def MK (fl : List (Oper × Bool)) (i : Nat) : Prop := ∃ o f, fl[i]? = some (o, f) ∧ pureKind o.op = false
def Done (listed : Array Bool) (i : Nat) : Prop := i < listed.size ∧ listed.getD i false = true

theorem flag_of (hfl : fl.map (·.1) = ops.toList) {i : Nat} {o : Oper} (h : ops[i]? = some o) : ∃ f, fl[i]? = some (o, f) := by
  have hl : fl[i]?.map (·.1) = some o := by rw [← List.getElem?_map, hfl]; simpa using h
  obtain ⟨⟨o', f⟩, h1, rfl⟩ := Option.map_eq_some_iff.1 hl
  exact ⟨f, h1⟩
theorem of_flag (hfl : fl.map (·.1) = ops.toList) {i : Nat} {o : Oper} {f : Bool} (h : fl[i]? = some (o, f)) : ops[i]? = some o := by
  have hl : fl[i]?.map (·.1) = some o := by rw [h]; rfl
  rw [← List.getElem?_map, hfl] at hl
  simpa using hl
/-- The block that a load looks at in the text's order. -/
def LdB (G : Nat) (K : List Nat) (ops : Array Oper) (tr : Nat → Fr × Mem) (i b : Nat) : Prop :=
  ∃ o t x off, ops[i]? = some o ∧ o.op = .load t x ∧ aeval G (fget K (tr i).1) x = some (.pointer (some ⟨b, off, none⟩))
/-- What the look tells: of two operations on memory of which one writes, the order stands, or a load may be late. -/
structure GFacts (G : Nat) (K : List Nat) (ops : Array Oper) (tr : Nat → Fr × Mem) (fl : List (Oper × Bool)) : Prop where
  fst : fl.map (·.1) = ops.toList
  edge : ∀ i o, ops.toList[i]? = some o → ∀ e ∈ o.after, Region.binds .any e = true → e.on < i
  clashp : ∀ i j x f o g, i < j → fl[i]? = some (x, f) → fl[j]? = some (o, g) → clash ops.toList x o = true → bit (masks ops.toList []) j i = true
  pair : ∀ i j x f o g, i < j → fl[i]? = some (x, f) → fl[j]? = some (o, g) → (f = true ∨ g = true) → pureKind x.op = false → pureKind o.op = false →
    bit (masks ops.toList []) j i = true ∨ (f = false ∧ (∃ t a, x.op = .load t a) ∧ ∀ b, LdB G K ops tr i b → (tr (j + 1)).2.rd b = (tr j).2.rd b)
theorem GFacts.pairT {G : Nat} {K : List Nat} {tr : Nat → Fr × Mem} (h : GFacts G K ops tr fl) {i j : Nat} {x o : Oper} {g : Bool} (hij : i < j) (hx : fl[i]? = some (x, true)) (ho : fl[j]? = some (o, g)) (hp : pureKind x.op = false) (hp' : pureKind o.op = false) :
    bit (masks ops.toList []) j i = true := by
  rcases h.pair i j x true o g hij hx ho (.inl rfl) hp hp' with h1 | ⟨h1, _⟩
  · exact h1
  · cases h1
theorem GFacts.of_draw {G : Nat} {K : List Nat} {tr : Nat → Fr × Mem} (h : DrawFacts ops.toList) : GFacts G K ops tr (flags ops.toList) where
  fst := flags_fst _
  edge := h.edge
  clashp := fun i j x f o g hij hx ho hc => h.pair i j x f o g hij hx ho (by rw [hc]; rfl)
  pair := fun i j x f o g hij hx ho hfg hp hp' => .inl (h.pair i j x f o g hij hx ho (by rcases hfg with rfl | rfl <;> simp [hp, hp']))

/-- The text's order: what it is known to do. -/
structure Txt (P : Program) (G R : Nat) (B : World) (L : Nat) (call : CallT) (ops : Array Oper) (N : Nat) (K : List Nat) (tr : Nat → Fr × Mem) (fl : List (Oper × Bool)) : Prop where
  facts : GFacts G K ops tr fl
  stp : ∀ i o f, fl[i]? = some (o, f) → Stp P G N K call ops.toList L o f (tr i) (tr (i + 1))
  ok0 : (tr 0).2.ok
  hc : CallOk P G R B call
  hL : L ≤ (tr 0).2.next

theorem Txt.ext (h : Txt P G R B L call ops N K tr fl) {i : Nat} (hi : i < ops.size) (hk : (tr i).2.ok) (hl : L ≤ (tr i).2.next) : Ext L (tr i).2 (tr (i + 1)).2 ∧ (¬ EM fl i → Ext (tr i).2.next (tr i).2 (tr (i + 1)).2) := by
  obtain ⟨o, ho⟩ : ∃ o, ops[i]? = some o := ⟨ops[i], by simp [hi]⟩
  obtain ⟨f, hf⟩ := flag_of h.facts.fst ho
  obtain ⟨_, h1 | ⟨v, _, hx, _⟩⟩ := h.stp i o f hf
  · rw [h1.2.1]; exact ⟨Ext.refl hk, fun _ => Ext.refl hk⟩
  · cases f with
    | true =>
      have := exA_ext h.hc hk (by first | assumption | exact Nat.le_refl _ | omega) hx
      refine ⟨this, fun hem => ?_⟩
      cases hp : pureKind o.op with
      | false => exact absurd ⟨o, hf, hp⟩ hem
      | true =>
        rw [exA_pure hp] at hx
        split at hx
        · simp only [Option.some.injEq, Prod.mk.injEq] at hx; rw [← hx.2]; exact Ext.refl hk
        · cases hx
    | false =>
      have := exA_ext h.hc hk (by first | assumption | exact Nat.le_refl _ | omega) hx
      exact ⟨this.mono hl, fun _ => this⟩
theorem Txt.all (h : Txt P G R B L call ops N K tr fl) : ∀ i, i ≤ ops.size → (tr i).2.ok ∧ L ≤ (tr i).2.next
  | 0, _ => ⟨h.ok0, h.hL⟩
  | i + 1, hi => by
    obtain ⟨h1, h2⟩ := h.all i (by omega)
    have := (h.ext tr (i := i) (by omega) h1 h2).1
    exact ⟨this.ok, Nat.le_trans h2 this.next⟩
theorem Txt.exts (h : Txt P G R B L call ops N K tr fl) {p : Nat} : ∀ q, p ≤ q → q ≤ ops.size → Ext L (tr p).2 (tr q).2 ∧ ((∀ k, p ≤ k → k < q → ¬ EM fl k) → Ext (tr p).2.next (tr p).2 (tr q).2)
  | 0, hpq, hq => by
    obtain rfl : p = 0 := by omega
    exact ⟨Ext.refl h.ok0, fun _ => Ext.refl h.ok0⟩
  | q + 1, hpq, hq => by
    by_cases he : p = q + 1
    · subst he; exact ⟨Ext.refl (h.all tr _ hq).1, fun _ => Ext.refl (h.all tr _ hq).1⟩
    · obtain ⟨h1, h2⟩ := h.exts (p := p) q (by omega) (by omega)
      obtain ⟨g1, g2⟩ := h.all tr q (by omega)
      obtain ⟨e1, e2⟩ := h.ext tr (i := q) (by omega) g1 g2
      refine ⟨h1.trans e1, fun hk => ?_⟩
      have a1 := h2 fun k hk1 hk2 => hk k hk1 (by omega)
      exact a1.trans ((e2 (hk q (by omega) (by omega))).mono a1.next)

theorem Txt.nowrite (h : Txt P G R B L call ops N K tr fl) {t p : Nat} : ∀ q, p ≤ q → q ≤ ops.size → (∀ k x, p ≤ k → k < q → ops[k]? = some x → x.dst ≠ some t) → fget K (tr q).1 t = fget K (tr p).1 t
  | 0, hpq, hq, _ => by obtain rfl : p = 0 := by omega
                        rfl
  | q + 1, hpq, hq, hw => by
    by_cases he : p = q + 1
    · subst he; rfl
    · rw [← h.nowrite (t := t) (p := p) q (by omega) (by omega) fun k x h1 h2 => hw k x h1 (by omega)]
      obtain ⟨o, ho⟩ : ∃ o, ops[q]? = some o := ⟨ops[q]'(by omega), by simp [show q < ops.size by omega]⟩
      obtain ⟨f, hf⟩ := flag_of h.facts.fst ho
      have hne := hw q o (by omega) (by omega) ho
      have key : ∀ v, (tr (q + 1)).1 = putA K (tr q).1 o.dst v → fget K (tr (q + 1)).1 t = fget K (tr q).1 t := fun v hv => by
        rw [hv]
        unfold putA
        split
        · rename_i d hd; exact fget_fset_ne fun e => hne (by rw [hd, e])
        · rfl
      obtain ⟨_, h1 | ⟨v, _, _, h1⟩⟩ := h.stp q o f hf
      · exact key _ h1.2.2
      · exact key _ h1

theorem nextEM (ops : Array Oper) (fl : List (Oper × Bool)) : ∀ (c i : Nat), i + c = ops.size → ∃ r, i ≤ r ∧ r ≤ ops.size ∧ (∀ k, i ≤ k → k < r → ¬ EM fl k) ∧ (r < ops.size → EM fl r)
  | 0, i, h => ⟨i, Nat.le_refl _, by omega, fun k h1 h2 => by omega, fun h1 => by omega⟩
  | c + 1, i, h => by
    by_cases he : EM fl i
    · exact ⟨i, Nat.le_refl _, by omega, fun k h1 h2 => by omega, fun _ => he⟩
    · obtain ⟨r, h1, h2, h3, h4⟩ := nextEM ops fl c (i + 1) (by omega)
      refine ⟨r, by omega, h2, fun k hk1 hk2 => ?_, h4⟩
      by_cases hk : k = i
      · subst hk; exact he
      · exact h3 k (by omega) hk2

/-- Slots that are settled: of each, the operations carried out that write it are those ahead of j. -/
def Slots (ops : Array Oper) (K : List Nat) (tr : Nat → Fr × Mem) (D : Nat → Prop) (ι : Inj) (a : Act) : Prop :=
  ∀ t j, j ≤ ops.size → (∀ k x, ops[k]? = some x → x.dst = some t → (D k ↔ k < j)) → ∀ v, fget K (tr j).1 t = some v → VR ι v (a.tmps.getD t Go.undef)

structure Inv (G R : Nat) (B : World) (U L : Nat) (ops : Array Oper) (fl : List (Oper × Bool)) (K : List Nat) (tr : Nat → Fr × Mem) (ι0 : Inj) (a0 : Act) (w0 : World) (listed : Array Bool) (a : Act) (w : World) : Prop where
  lsz : listed.size = ops.size
  down : ∀ i o, ops[i]? = some o → Done listed i → ∀ e ∈ o.after, Region.binds .any e = true → Done listed e.on
  tsz : a.tmps.size = a0.tmps.size
  dfs : a.defers = a0.defers
  mem : ∃ ι r, r ≤ ops.size ∧ (∀ i, i < r → EM fl i → Done listed i) ∧ (r < ops.size → EM fl r ∧ ¬ Done listed r) ∧ (∀ i, r ≤ i → MK fl i → ¬ Done listed i) ∧
    Rel G R B U ι (tr r).2 w ∧ (∀ i, i < ops.size → ¬ Done listed i → ∀ b, (tr i).2.next ≤ b → b < (tr (i + 1)).2.next → ι b = none) ∧
    Step L ι0 (tr 0).2 w0 ι (tr r).2 w ∧ Slots ops K tr (Done listed) ι a

theorem done_set {listed : Array Bool} {i k : Nat} (hi : i < listed.size) : Done (listed.setIfInBounds i true) k ↔ Done listed k ∨ k = i := by
  unfold Done
  simp only [Array.size_setIfInBounds, Array.getD_eq_getD_getElem?]
  by_cases hk : k = i
  · subst hk; simp [hi]
  · rw [Array.getElem?_setIfInBounds_ne (by omega)]; simp [hk]

theorem clash_of {x o : Oper} {l : List Oper} {t : Nat} (h : (x.dst = some t ∧ (t ∈ looks l o ∨ o.dst = some t)) ∨ (o.dst = some t ∧ (t ∈ looks l x ∨ x.dst = some t))) : clash l x o = true := by
  unfold clash
  rcases h with ⟨h1, h2 | h2⟩ | ⟨h1, h2 | h2⟩
  · simp [h1, (memb_iff _ _).2 h2]
  · simp [h1, h2]
  · simp [h1, (memb_iff _ _).2 h2]
  · simp [h1, h2]

theorem slots_step (ht : Txt P G R B L call ops N K tr fl) {D : Nat → Prop} {ι κ : Inj} {a : Act} {i : Nat} {o : Oper} {v u : Value} (hs : Slots ops K tr D ι a) (ho : ops[i]? = some o) (hnD : ¬ D i)
    (hlate : ∀ k, bit (masks ops.toList []) k i = true → ¬ D k) (hle : ι.le κ) (hv : VR κ v u) (hfr : (tr (i + 1)).1 = putA K (tr i).1 o.dst v) (hN : ∀ d, o.dst = some d → d < a.tmps.size) :
    Slots ops K tr (fun k => D k ∨ k = i) κ (a.put o.dst u) := by
  have hi : i < ops.size := (Array.getElem?_eq_some_iff.1 ho).1
  intro t j hj hcond x hx
  by_cases hd : o.dst = some t
  · have hij : i < j := (hcond i o ho hd).1 (.inr rfl)
    have hnw := ht.nowrite tr (p := i + 1) (t := t) j (by omega) hj fun k y h1 h2 hy hyd => by
      have hDk : D k ∨ k = i := (hcond k y hy hyd).2 h2
      obtain ⟨f, hf⟩ := flag_of ht.facts.fst ho
      obtain ⟨g, hg⟩ := flag_of ht.facts.fst hy
      have hb := ht.facts.clashp i k o f y g (by omega) hf hg (clash_of (.inl ⟨hd, .inr hyd⟩))
      rcases hDk with h3 | h3
      · exact hlate k hb h3
      · omega
    rw [hnw, hfr, hd] at hx
    obtain rfl := fget_fset_same hx
    rw [hd]
    have := hN t hd
    simpa [Act.put, this] using hv
  · have hsame : (a.put o.dst u).tmps.getD t Go.undef = a.tmps.getD t Go.undef := by
      cases hd' : o.dst with
      | none => rfl
      | some d =>
        have hne : d ≠ t := fun e => hd (by rw [hd', e])
        simp [Act.put, Array.getElem?_setIfInBounds_ne hne]
    rw [hsame]
    refine (hs t j hj (fun k y hy hyd => ?_) x hx).mono hle
    have hki : k ≠ i := fun e => by subst e; rw [ho] at hy; cases hy; exact hd hyd
    have := hcond k y hy hyd
    simpa [hki] using this

theorem Inv.allDone {ι0 : Inj} {a0 : Act} {w0 : World} {listed : Array Bool} {a : Act} {w : World} (ht : Txt P G R B L call ops N K tr fl) (h : Inv G R B U L ops fl K tr ι0 a0 w0 listed a w) (hr : Region.ready .any ops listed = []) : ∀ i, i < ops.size → Done listed i := by
  intro i
  induction i using Nat.strongRecOn with
  | _ i ih =>
    intro hi
    apply Classical.byContradiction
    intro hnd
    obtain ⟨o, ho⟩ : ∃ o, ops[i]? = some o := ⟨ops[i], by simp [hi]⟩
    have hl : i < listed.size := by rw [h.lsz]; exact hi
    have : i ∈ Region.ready .any ops listed := by
      refine mem_ready.2 ⟨?_, o, ho, fun e he hb => ?_⟩
      · cases hb : listed.getD i true with
        | false => rfl
        | true =>
          exact absurd ⟨hl, by simpa [hl] using hb⟩ hnd
      · have := ht.facts.edge i o (by simpa using ho) e he hb
        exact (ih e.on this (by omega)).2
    rw [hr] at this
    cases this

theorem draw_core (hP : Prog P) (ht : Txt P G R B L call ops N K tr fl) (hR : R ≤ L) (hU : (tr ops.size).2.next ≤ U) {ι0 : Inj} {a0 : Act} {w0 : World} (hN : N ≤ a0.tmps.size) {Q : Exit → Act → World → Prop}
    (hQ : ∀ κ a' w', Rel G R B U κ (tr ops.size).2 w' → FR κ (fget K (tr ops.size).1) a' → a'.tmps.size = a0.tmps.size → a'.defers = a0.defers → Step L ι0 (tr 0).2 w0 κ (tr ops.size).2 w' → Q .normal a' w')
    (hd0 : ∀ b e, ι0 b = some e → b < (tr 0).2.next ∨ U ≤ b) :
    ∀ (fuel : Nat) (listed : Array Bool) (a : Act) (w : World), Inv G R B U L ops fl K tr ι0 a0 w0 listed a w → ops.size ≤ listed.toList.count true + fuel → wpAny P .any ops Q fuel listed a w := by
  have fin : ∀ listed a w, Inv G R B U L ops fl K tr ι0 a0 w0 listed a w → Region.ready .any ops listed = [] → Q .normal a w := fun listed a w hI hr => by
    have hall := hI.allDone tr ht hr
    obtain ⟨ι, r, h1, h2, h3, h4, h5, h6, h7, h8⟩ := hI.mem
    have hrn : r = ops.size := by
      rcases Nat.lt_or_ge r ops.size with h | h
      · exact absurd (hall r h) (h3 h).2
      · omega
    subst hrn
    exact hQ ι a w h5 (fun t v hv => h8 t ops.size (Nat.le_refl _) (fun k x hx _ => ⟨fun _ => (Array.getElem?_eq_some_iff.1 hx).1, fun h => hall k h⟩) v hv) hI.tsz hI.dfs h7
  intro fuel
  induction fuel with
  | zero =>
    intro listed a w hI hcnt
    have hr : Region.ready .any ops listed = [] := by
      apply List.eq_nil_iff_forall_not_mem.2
      intro i hi
      obtain ⟨h1, o, ho, _⟩ := mem_ready.1 hi
      have hi' : i < listed.size := by rw [hI.lsz]; exact (Array.getElem?_eq_some_iff.1 ho).1
      have hle := List.count_le_length (a := true) (l := listed.toList)
      have heq : listed.toList.count true = listed.toList.length := by
        have := hI.lsz
        simp only [Array.length_toList] at hle ⊢
        omega
      have := List.count_eq_length.1 heq listed[i] (by simp)
      have h1' : listed[i] = false := by simpa [hi'] using h1
      rw [h1'] at this
      cases this
    exact ⟨hr, fin listed a w hI hr⟩
  | succ fuel ih =>
    intro listed a w hI hcnt
    refine ⟨fin listed a w hI, fun i hi => ?_⟩
    obtain ⟨hun, o, ho, hall⟩ := mem_ready.1 hi
    have hin : i < ops.size := (Array.getElem?_eq_some_iff.1 ho).1
    have hil : i < listed.size := by rw [hI.lsz]; exact hin
    have hli : listed[i] = false := by simpa [hil] using hun
    have hnD : ¬ Done listed i := fun h => by have := h.2; simp [hil, hli] at this
    have hD' : ∀ k x, ops.toList[k]? = some x → (Done listed k ∨ k = i) → ∀ e ∈ x.after, Region.binds .any e = true → (Done listed e.on ∨ e.on = i) := fun k x hx hk e he hb => by
      rcases hk with hk | rfl
      · exact .inl (hI.down k x (by simpa using hx) hk e he hb)
      · have : x = o := by have hx' : ops[k]? = some x := by simpa using hx
                           rw [ho] at hx'; cases hx'; rfl
        subst this
        have h1 := hall e he hb
        refine .inl ⟨?_, h1⟩
        have := ht.facts.edge k x (by simpa using ho) e he hb
        omega
    have hbef : ∀ j, bit (masks ops.toList []) i j = true → j ≠ i → Done listed j := fun j hj hne => by
      rcases bit_down hD' hj (.inr rfl) with h | h
      · exact h
      · exact absurd h hne
    have haft : ∀ k, bit (masks ops.toList []) k i = true → ¬ Done listed k := fun k hk hDk =>
      hnD (bit_down (D := Done listed) (fun k x hx hk e he hb => hI.down k x (by simpa using hx) hk e he hb) hk hDk)
    obtain ⟨f, hf⟩ := flag_of ht.facts.fst ho
    -- of the slots that the operation names, the writers ahead of it have been carried out, and no others
    have hnames : ∀ t, (t ∈ looks ops.toList o ∨ o.dst = some t) → ∀ k x, ops[k]? = some x → x.dst = some t → (Done listed k ↔ k < i) := fun t htt k x hx hxd => by
      obtain ⟨g, hg⟩ := flag_of ht.facts.fst hx
      rcases Nat.lt_trichotomy k i with hki | hki | hki
      · refine ⟨fun _ => hki, fun _ => hbef k ?_ (by omega)⟩
        exact ht.facts.clashp k i x g o f hki hg hf (clash_of (.inl ⟨hxd, htt⟩))
      · subst hki; exact ⟨fun h => absurd h hnD, fun h => by omega⟩
      · refine ⟨fun h => absurd h (haft k ?_), fun h => by omega⟩
        exact ht.facts.clashp i k o f x g hki hf hg (clash_of (.inr ⟨hxd, htt⟩))
    obtain ⟨ι, r, h1, h2, h3, h4, h5, h6, h7, h8⟩ := hI.mem
    obtain ⟨hdN, hst⟩ := ht.stp i o f hf
    have hdsz : ∀ d, o.dst = some d → d < a.tmps.size := fun d hd => by rw [hI.tsz]; exact Nat.lt_of_lt_of_le (hdN d hd) hN
    have hslot : ∀ t, t ∈ looks ops.toList o → ∀ v, fget K (tr i).1 t = some v → VR ι v (a.tmps.getD t Go.undef) := fun t htl v hv =>
      h8 t i (by omega) (hnames t (.inl htl)) v hv
    have hcnt' : ops.size ≤ (listed.setIfInBounds i true).toList.count true + fuel := by
      have hl' : i < listed.toList.length := by simpa using hil
      have hv : listed.toList[i] = false := by simpa using hli
      rw [Array.toList_setIfInBounds, List.count_set hl', hv]
      show _ ≤ listed.toList.count true - 0 + 1 + fuel
      omega
    have hdown' : ∀ k x, ops[k]? = some x → Done (listed.setIfInBounds i true) k → ∀ e ∈ x.after, Region.binds .any e = true → Done (listed.setIfInBounds i true) e.on := fun k x hx hk e he hb =>
      (done_set hil).2 (hD' k x (by simpa using hx) ((done_set hil).1 hk) e he hb)
    -- the state once the operation is carried out
    have go : ∀ (v u : Value) (κ : Inj) (w' : World) (r' : Nat), ι.le κ → VR κ v u → (tr (i + 1)).1 = putA K (tr i).1 o.dst v → r' ≤ ops.size →
        (∀ k, k < r' → EM fl k → Done (listed.setIfInBounds i true) k) → (r' < ops.size → EM fl r' ∧ ¬ Done (listed.setIfInBounds i true) r') → (∀ k, r' ≤ k → MK fl k → ¬ Done (listed.setIfInBounds i true) k) →
        Rel G R B U κ (tr r').2 w' → (∀ k, k < ops.size → ¬ Done (listed.setIfInBounds i true) k → ∀ b, (tr k).2.next ≤ b → b < (tr (k + 1)).2.next → κ b = none) →
        Step L ι0 (tr 0).2 w0 κ (tr r').2 w' → wpAny P .any ops Q fuel (listed.setIfInBounds i true) (a.put o.dst u) w' := by
      intro v u κ w' r' hle hvu hfr g1 g2 g3 g4 g5 g6 g7
      refine ih _ _ _ ⟨by simpa using hI.lsz, hdown', ?_, ?_, κ, r', g1, g2, g3, g4, g5, g6, g7, ?_⟩ hcnt'
      · cases o.dst <;> simp [Act.put, hI.tsz]
      · cases o.dst <;> simp [Act.put, hI.dfs]
      · intro t j hj hcond x hx
        exact slots_step tr ht h8 ho hnD haft hle hvu hfr hdsz t j hj (fun k y hy hyd => by have := hcond k y hy hyd; rw [done_set hil] at this; exact this) x hx
    -- the same where no effect on memory has been carried out
    have keepR : ∀ (v u : Value) (κ : Inj) (w' : World), i ≠ r → (MK fl i → i < r) → ι.le κ → VR κ v u → (tr (i + 1)).1 = putA K (tr i).1 o.dst v → Rel G R B U κ (tr r).2 w' →
        (∀ k, k < ops.size → k ≠ i → ¬ Done listed k → ∀ b, (tr k).2.next ≤ b → b < (tr (k + 1)).2.next → κ b = none) → Step L ι0 (tr 0).2 w0 κ (tr r).2 w' → wpAny P .any ops Q fuel (listed.setIfInBounds i true) (a.put o.dst u) w' := by
      intro v u κ w' hir him hle hvu hfr g5 g6 g7
      refine go v u κ w' r hle hvu hfr h1 (fun k hk hem => (done_set hil).2 (.inl (h2 k hk hem))) (fun hrn => ⟨(h3 hrn).1, fun h => ?_⟩) (fun k hk hmk h => ?_) g5 (fun k hk hnk => g6 k hk (fun e => hnk ((done_set hil).2 (.inr e))) (fun e => hnk ((done_set hil).2 (.inl e)))) g7
      · rcases (done_set hil).1 h with h | h
        · exact (h3 hrn).2 h
        · exact hir h.symm
      · rcases (done_set hil).1 h with h | h
        · exact h4 k hk hmk h
        · subst h; have := him hmk; omega
    -- and where it was the next one with an effect
    have moveR : ∀ (v u : Value) (κ : Inj) (w' : World), i = r → ι.le κ → VR κ v u → (tr (i + 1)).1 = putA K (tr i).1 o.dst v → Rel G R B U κ (tr (i + 1)).2 w' →
        (∀ k, k < ops.size → k ≠ i → ¬ Done listed k → ∀ b, (tr k).2.next ≤ b → b < (tr (k + 1)).2.next → κ b = none) → Step L ι0 (tr 0).2 w0 κ (tr (i + 1)).2 w' → wpAny P .any ops Q fuel (listed.setIfInBounds i true) (a.put o.dst u) w' := by
      intro v u κ w' hir hle hvu hfr g5 g6 g7
      obtain ⟨r', k1, k2, k3, k4⟩ := nextEM ops fl (ops.size - (i + 1)) (i + 1) (by omega)
      have hext := (ht.exts tr (p := i + 1) r' k1 k2).2 k3
      have hUr : (tr r').2.next ≤ U := Nat.le_trans (ht.exts tr (p := r') ops.size k2 (Nat.le_refl _)).1.next hU
      refine go v u κ w' r' hle hvu hfr k2 (fun k hk hem => (done_set hil).2 ?_) (fun hrn => ⟨k4 hrn, fun h => ?_⟩) (fun k hk hmk h => ?_)
        (g5.fwd hext.next hext.ok hUr fun b hb => hext.kept b hb hb) (fun k hk hnk => g6 k hk (fun e => hnk ((done_set hil).2 (.inr e))) (fun e => hnk ((done_set hil).2 (.inl e))))
        (g7.fwd hext.next (fun b e he => (hd0 b e he).imp id fun h => by omega) fun b hb1 hb2 => hext.kept b hb2 hb2)
      · rcases Nat.lt_trichotomy k i with hki | hki | hki
        · exact .inl (h2 k (by omega) hem)
        · exact .inr hki
        · exact absurd hem (k3 k (by omega) hk)
      · rcases (done_set hil).1 h with h | h
        · obtain ⟨oo, hoo, hpp⟩ := k4 hrn
          exact h4 r' (by omega) ⟨oo, true, hoo, hpp⟩ h
        · omega
      · rcases (done_set hil).1 h with h | h
        · exact h4 k (by omega) hmk h
        · omega
    have hRi : R ≤ (tr i).2.next := by have := (ht.all tr i (by omega)).2; omega
    unfold wpOp
    rw [ho]
    simp only []
    have hwant : ∀ b, wantA K ops.toList (tr i).1 o = some b → Region.wanted o (yielded ops a.tmps) = b := fun b hb =>
      wantA_ok hb fun t v hv ⟨j, oj, hj, hoj, hod⟩ => hslot t (by
        unfold looks
        cases hg : o.guard with
        | none => rw [hg] at hj; cases hj
        | some p =>
          obtain ⟨gj, gw⟩ := p
          rw [hg] at hj
          cases hj
          have : lget ops.toList gj = some oj := by rw [lget_eq]; simpa using hoj
          refine List.mem_append_right _ ?_
          simp only [this, hod]
          exact List.mem_singleton.2 rfl) v hv
    rcases hst with ⟨hw, hm, hfr⟩ | ⟨v, hw, hx, hfr⟩
    · -- not wanted
      rw [hwant _ hw]
      simp only [Bool.false_eq_true, if_false]
      by_cases hir : i = r
      · refine moveR Go.undef Go.undef ι w hir (Inj.le_refl _) (VR.undef ι) hfr (by rw [hm, hir]; exact h5) (fun k hk hki hnk => h6 k hk hnk) (by rw [hm, hir]; exact h7)
      · by_cases hri : r < i
        · -- behind the next effect: only if it touches no memory
          refine go Go.undef Go.undef ι w r (Inj.le_refl _) (VR.undef ι) hfr h1 (fun k hk hem => (done_set hil).2 (.inl (h2 k hk hem))) (fun hrn => ⟨(h3 hrn).1, fun h => ?_⟩) (fun k hk hmk h => ?_) h5 (fun k hk hnk => h6 k hk (fun e => hnk ((done_set hil).2 (.inl e)))) h7
          · rcases (done_set hil).1 h with h | h
            · exact (h3 hrn).2 h
            · exact hir h.symm
          · rcases (done_set hil).1 h with h | h
            · exact h4 k hk hmk h
            · subst h
              obtain ⟨oo, ff, hoo, hpp⟩ := hmk
              rw [hf] at hoo
              cases hoo
              obtain ⟨⟨orr, horr, hprr⟩, hndr⟩ := h3 (by omega)
              exact hndr (hbef r (ht.facts.pairT hri horr hf hprr hpp) (by omega))
        · exact keepR Go.undef Go.undef ι w hir (fun _ => by omega) (Inj.le_refl _) (VR.undef ι) hfr h5 (fun k hk hki hnk => h6 k hk hnk) h7
    · -- wanted
      rw [hwant _ hw]
      simp only [if_true]
      have hmemlt : pureKind o.op = false → f = false → i < r := fun hp hff => by
        rcases Nat.lt_trichotomy i r with h | h | h
        · exact h
        · subst h
          obtain ⟨⟨orr, horr, hprr⟩, _⟩ := h3 hin
          rw [hf] at horr
          cases horr
          cases hff
        · obtain ⟨⟨orr, horr, hprr⟩, hndr⟩ := h3 (by omega)
          exact absurd (hbef r (ht.facts.pairT h horr hf hprr hp) (by omega)) hndr
      have hmemeq : pureKind o.op = false → f = true → i = r := fun hp hff => by
        subst hff
        rcases Nat.lt_trichotomy i r with h | h | h
        · exact absurd (h2 i h ⟨o, hf, hp⟩) hnD
        · exact h
        · obtain ⟨⟨orr, horr, hprr⟩, hndr⟩ := h3 (by omega)
          exact absurd (hbef r (ht.facts.pairT h horr hf hprr hp) (by omega)) hndr
      -- what it looks at
      have hopn : ∀ x ∈ o.op.operands, ∀ y, aeval G (fget K (tr i).1) x = some y → VR ι y (a.eval x) := fun x hxo y hy => by
        refine aeval_ok1 h5.gl (fun t ht1 v hv => ?_) hy
        refine hslot t ?_ v hv
        unfold looks
        exact List.mem_append_left _ (List.mem_filterMap.2 ⟨.tmp t, by subst ht1; simpa using hxo, rfl⟩)
      obtain ⟨ev', hagree, hev'⟩ : ∃ ev' : Operand → Option Value, (∀ x ∈ o.op.operands, aeval G (fget K (tr i).1) x = ev' x) ∧ ∀ x y, ev' x = some y → VR ι y (a.eval x) := by
        refine ⟨fun x => @ite _ (x ∈ o.op.operands) (Classical.propDecidable _) (aeval G (fget K (tr i).1) x) none, fun x hxo => by simp [hxo], fun x y hy => ?_⟩
        by_cases hxo : x ∈ o.op.operands
        · dsimp only at hy; rw [if_pos hxo] at hy; exact hopn x hxo y hy
        · dsimp only at hy; rw [if_neg hxo] at hy; cases hy
      rw [exA_congr hagree] at hx
      have hnx : (tr i).2.next ≤ (tr (i + 1)).2.next := (ht.exts tr (p := i) (i + 1) (by omega) (by omega)).1.next
      have hUi : (tr (i + 1)).2.next ≤ U := Nat.le_trans (ht.exts tr (p := i + 1) ops.size (by omega) (Nat.le_refl _)).1.next hU
      have hmono : ∀ p q, p ≤ q → q ≤ ops.size → (tr p).2.next ≤ (tr q).2.next := fun p q h1 h2 => (ht.exts tr (p := p) q h1 h2).1.next
      have ids : ∀ κ w', Step L ι (tr i).2 w κ (tr (i + 1)).2 w' ∨ Step (tr i).2.next ι (tr i).2 w κ (tr (i + 1)).2 w' → ∀ k, k < ops.size → k ≠ i → ¬ Done listed k → ∀ b, (tr k).2.next ≤ b → b < (tr (k + 1)).2.next → κ b = none := by
        intro κ w' hs k hk hki hnk b hb1 hb2
        have h0 := h6 k hk hnk b hb1 hb2
        cases hκ : κ b with
        | none => rfl
        | some e =>
          have hfr2 : (tr i).2.next ≤ b ∧ b < (tr (i + 1)).2.next := by
            rcases hs with hs | hs
            · exact ⟨(hs.fresh b e hκ h0).1, (hs.fresh b e hκ h0).2.1⟩
            · exact ⟨(hs.fresh b e hκ h0).1, (hs.fresh b e hκ h0).2.1⟩
          rcases Nat.lt_trichotomy k i with h | h | h
          · have := hmono (k + 1) i (by omega) (by omega); omega
          · exact absurd h hki
          · have := hmono (i + 1) k (by omega) (by omega); omega
      cases hp : pureKind o.op with
      | true =>
        rw [exA_pure hp] at hx
        split at hx
        · rename_i v1 hv1
          simp only [Option.some.injEq, Prod.mk.injEq] at hx
          obtain ⟨rfl, hmm⟩ := hx
          obtain ⟨u, hrun, hvu⟩ := apure_ok (P := P) hev' hv1 w
          have hir : i ≠ r := fun e => by
            subst e
            obtain ⟨⟨orr, horr, hprr⟩, _⟩ := h3 hin
            rw [hf] at horr
            cases horr
            rw [hp] at hprr; cases hprr
          have hnm : MK fl i → i < r := fun ⟨oo, ff, hoo, hpp⟩ => by rw [hf] at hoo; cases hoo; rw [hp] at hpp; cases hpp
          refine .inl ?_
          unfold Oper.wp
          rw [hrun]
          exact keepR v1 u ι w hir hnm (Inj.le_refl _) hvu hfr h5 (fun k hk hki hnk => h6 k hk hnk) h7
        · cases hx
      | false =>
        cases f with
        | true =>
          have hir := hmemeq hp rfl
          subst hir
          refine .inl (exA_ok hP ht.hc h5 hR (ht.all tr i (by omega)).2 hev' hx hUi fun u κ w' hvu g1 g2 => ?_)
          exact moveR v u κ w' rfl g2.le hvu hfr g1 (ids κ w' (.inl g2)) (h7.trans g2)
        | false =>
          have hir := hmemlt hp rfl
          by_cases hnoEM : ∀ k, i ≤ k → k < r → ¬ EM fl k
          · have e1 := (ht.exts tr (p := i) r (by omega) h1).2 hnoEM
            have e2 := (ht.exts tr (p := i + 1) r (by omega) h1).2 fun k hk1 hk2 => hnoEM k (by omega) hk2
            have hdom : ∀ b e, ι b = some e → b < (tr i).2.next ∨ (tr (i + 1)).2.next ≤ b := fun b e he => by
              by_cases hb1 : b < (tr i).2.next
              · exact .inl hb1
              · by_cases hb2 : (tr (i + 1)).2.next ≤ b
                · exact .inr hb2
                · have := h6 i hin hnD b (by omega) (by omega)
                  rw [this] at he; cases he
            have hback := h5.back (m := (tr i).2) (U' := (tr (i + 1)).2.next) hRi (ht.all tr i (by omega)).1 e1.next (fun b hb => e1.kept b hb hb) hdom
            refine .inl (exA_ok hP ht.hc hback hRi (Nat.le_refl _) hev' hx (Nat.le_refl _) fun u κ w' hvu g1 g2 => ?_)
            have hUr : (tr r).2.next ≤ U := Nat.le_trans (hmono r ops.size h1 (Nat.le_refl _)) hU
            have hmerge := h5.merge g1 g2 e2.next (fun b hb => e2.kept b hb hb) hRi hUr
            refine keepR v u κ w' (by omega) (fun _ => hir) g2.le hvu hfr hmerge (ids κ w' (.inr g2)) ?_
            have hblk : ∀ k, k < w.heap.size → w'.heap[k]? = w.heap[k]? := fun k hk => g2.block k hk fun b e hb1 hb2 => by omega
            refine ⟨Inj.le_trans h7.le g2.le, h7.foreign, fun b e he hn0 => ?_, h7.next, h7.kept, g2.os.trans h7.os, g2.tape.trans h7.tape, g2.output.trans h7.output, Nat.le_trans h7.size g2.size, fun k hk hno => ?_⟩
            · cases hi0 : ι b with
              | some e' =>
                have := g2.le _ _ hi0
                rw [he] at this
                cases this
                exact h7.fresh b e hi0 hn0
              | none =>
                obtain ⟨k1, k2, k3⟩ := g2.fresh b e he hi0
                have := hmono 0 i (by omega) (by omega)
                have := e2.next
                refine ⟨by omega, by omega, ?_⟩
                rcases k3 with k3 | ⟨b0, _, k4, k5, _⟩
                · exact .inl (Nat.le_trans h7.size k3)
                · omega
            · rw [hblk k (Nat.lt_of_lt_of_le hk h7.size)]
              exact h7.block k hk hno
          · -- a load that is late: the writers that went ahead left its block as it was
            obtain ⟨k0, hk1, hk2, ok, hok, hpk⟩ : ∃ k, i ≤ k ∧ k < r ∧ EM fl k := by
              apply Classical.byContradiction
              intro hno
              exact hnoEM fun k h1 h2 h3 => hno ⟨k, h1, h2, h3⟩
            have hki : i < k0 := by
              rcases Nat.lt_or_ge i k0 with h | h
              · exact h
              · obtain rfl : k0 = i := by omega
                rw [hf] at hok; cases hok
            have hlate : ∀ k, i < k → k < r → EM fl k → (∃ t a, o.op = .load t a) ∧ ∀ b, LdB G K ops tr i b → (tr (k + 1)).2.rd b = (tr k).2.rd b := fun k h1 h2' ⟨ok, hok, hpk⟩ => by
              rcases ht.facts.pair i k o false ok true h1 hf hok (.inr rfl) hp hpk with h | ⟨_, h⟩
              · exact absurd (h2 k h2' ⟨ok, hok, hpk⟩) (haft k h)
              · exact h
            obtain ⟨⟨t, ad, hop⟩, _⟩ := hlate k0 hki hk2 ⟨ok, hok, hpk⟩
            have hx0 := hx
            rw [← exA_congr hagree] at hx0
            rw [hop] at hx0
            obtain ⟨hmm, b, off, hxe, hbn, hre⟩ := load_at hx0
            have hLB : LdB G K ops tr i b := ⟨o, t, ad, off, ho, hop, hxe⟩
            have hkeep : ∀ q, i + 1 ≤ q → q ≤ r → (tr q).2.rd b = (tr i).2.rd b := fun q => by
              induction q with
              | zero => intro h _; omega
              | succ q ihq =>
                intro hq1 hq2
                by_cases hqi : q = i
                · subst hqi; rw [hmm]
                · have hprev := ihq (by omega) (by omega)
                  rw [← hprev]
                  by_cases hem : EM fl q
                  · exact (hlate q (by omega) (by omega) hem).2 b hLB
                  · have hall := ht.all tr q (by omega)
                    have hexq := (ht.ext tr (i := q) (by omega) hall.1 hall.2).2 hem
                    have hnq : b < (tr q).2.next := Nat.lt_of_lt_of_le hbn (hmono i q (by omega) (by omega))
                    exact hexq.kept b hnq hnq
            have hxr2 := hre (tr r).2.next (tr r).2 (hkeep r (by omega) (Nat.le_refl _))
            rw [← hop, exA_congr hagree] at hxr2
            have hUr : (tr r).2.next ≤ U := Nat.le_trans (hmono r ops.size h1 (Nat.le_refl _)) hU
            have hRr : R ≤ (tr r).2.next := by have := (ht.all tr r h1).2; omega
            refine .inl (exA_ok hP ht.hc h5 hRr (Nat.le_refl _) hev' hxr2 hUr fun u κ w' hvu g1 g2 => ?_)
            have g3 : Step L ι (tr r).2 w κ (tr r).2 w' := Step.mono (ht.all tr r h1).2 g2
            refine keepR v u κ w' (by omega) (fun _ => hir) g2.le hvu hfr g1 (fun k hk hki' hnk b' hb1 hb2 => ?_) (h7.trans g3)
            have h0 := h6 k hk hnk b' hb1 hb2
            cases hκ : κ b' with
            | none => rfl
            | some e =>
              have := g2.fresh b' e hκ h0
              omega
end

/-! ### A region of loads and stores whose order is open: those that meet are ordered, or touch other blocks -/
def isLS (op : Op) : Option (Operand × Bool) := match op with
  | .load _ x => some (x, false)
  | .store _ x _ => some (x, true)
  | _ => none
def looseOp (o : Oper) : Bool := match o.guard with
  | some _ => false
  | none => match pureKind o.op with
    | true => true
    | false => match isLS o.op with
      | some _ => true
      | none => false
def isOpenStore (x : Oper × Bool) : Bool := match x.2 with
  | true => false
  | false => match isLS x.1.op with
    | some (_, b) => b
    | none => false
def needLoose (ops : List Oper) : Bool := (flags ops).any isOpenStore
def pairF (l : List Oper) : List (Oper × Bool) := l.map fun o => (o, false)
def noDst (t : Nat) : List Oper → Bool
  | [] => true
  | o :: l => match (match o.dst with
      | some d => Nat.beq d t
      | none => false) with
    | true => false
    | false => noDst t l
def stable : List Oper → Bool
  | [] => true
  | o :: l => match (match isLS o.op with
      | some (.tmp t, _) => noDst t (o :: l)
      | _ => true) with
    | true => stable l
    | false => false
def looseOk (ops : List Oper) : Bool := allRows ops (masks ops []) (pairF ops) (pairF ops) 0 && (ops.all looseOp && stable ops)
/-- The addresses of two operations that meet only if their blocks are one. -/
def meetP (k i : Nat) (x o : Oper) : List (Operand × Operand) := match isLS x.op with
  | none => []
  | some (a, s) => match isLS o.op with
    | none => []
    | some (b, s') => match s || s' with
      | false => []
      | true => match Nat.testBit k i with
        | true => []
        | false => [(a, b)]
def rowP (k : Nat) (o : Oper) : List Oper → Nat → List (Operand × Operand)
  | [], _ => []
  | x :: l, i => meetP k i x o ++ rowP k o l (Nat.succ i)
def allP (ms : List Nat) (all : List Oper) : List Oper → Nat → List (Operand × Operand)
  | [], _ => []
  | o :: l, j => (match lget ms j with
    | some k => rowP k o (all.take j) 0
    | none => []) ++ allP ms all l (Nat.succ j)
def loosePairs (ops : List Oper) : List (Operand × Operand) := allP (masks ops []) ops ops 0
def neB (x y : Value) : Bool := match x with
  | .pointer (some ⟨b, _, none⟩) => match y with
    | .pointer (some ⟨b', _, none⟩) => match Nat.beq b b' with
      | true => false
      | false => true
    | _ => false
  | _ => false
def neAll (ev : Operand → Option Value) : List (Operand × Operand) → Bool
  | [] => true
  | (a, b) :: l => match ev a with
    | none => false
    | some x => match ev b with
      | none => false
      | some y => match neB x y with
        | true => neAll ev l
        | false => false

theorem neB_some {x y : Value} (h : neB x y = true) : ∃ b o b' o', x = .pointer (some ⟨b, o, none⟩) ∧ y = .pointer (some ⟨b', o', none⟩) ∧ b ≠ b' := by
  unfold neB at h
  split at h
  · split at h
    · split at h
      · cases h
      · rename_i hb; exact ⟨_, _, _, _, rfl, rfl, Nat.ne_of_beq_eq_false hb⟩
    · cases h
  · cases h
theorem neAll_mem {ev : Operand → Option Value} : ∀ {l : List (Operand × Operand)} {a b : Operand}, neAll ev l = true → (a, b) ∈ l → ∃ x y, ev a = some x ∧ ev b = some y ∧ neB x y = true
  | [], a, b, _, h => by cases h
  | (c, d) :: l, a, b, h, hm => by
    simp only [neAll] at h
    split at h
    · cases h
    · rename_i x hx
      split at h
      · cases h
      · rename_i y hy
        split at h
        · rename_i hn
          rcases List.mem_cons.1 hm with e | hm
          · cases e; exact ⟨x, y, hx, hy, hn⟩
          · exact neAll_mem h hm
        · cases h
theorem rowP_mem {k : Nat} {o : Oper} : ∀ {l : List Oper} {base i : Nat} {x : Oper} {p : Operand × Operand}, l[i]? = some x → p ∈ meetP k (base + i) x o → p ∈ rowP k o l base
  | [], _, i, x, p, h, _ => by cases h
  | y :: l, base, i, x, p, h, hp => by
    simp only [rowP]
    cases i with
    | zero => simp at h; subst h; exact List.mem_append_left _ hp
    | succ i => exact List.mem_append_right _ (rowP_mem (base := Nat.succ base) (i := i) (by simpa using h) (by rw [Nat.succ_add]; exact hp))
theorem allP_mem {ms : List Nat} {all : List Oper} : ∀ {l : List Oper} {base j : Nat} {o : Oper} {k : Nat} {p : Operand × Operand}, l[j]? = some o → ms[base + j]? = some k → p ∈ rowP k o (all.take (base + j)) 0 → p ∈ allP ms all l base
  | [], _, j, o, k, p, h, _, _ => by cases h
  | y :: l, base, j, o, k, p, h, hk, hp => by
    simp only [allP]
    cases j with
    | zero =>
      simp at h; subst h
      have hk' : lget ms base = some k := by rw [lget_eq]; exact hk
      rw [hk']
      exact List.mem_append_left _ hp
    | succ j => exact List.mem_append_right _ (allP_mem (base := Nat.succ base) (j := j) (by simpa using h) (by rw [Nat.succ_add]; exact hk) (by rw [Nat.succ_add]; exact hp))
theorem noDst_get {t : Nat} : ∀ {l : List Oper} {j : Nat} {x : Oper}, noDst t l = true → l[j]? = some x → x.dst ≠ some t
  | [], j, x, _, h => by cases h
  | o :: l, j, x, h, hj => by
    simp only [noDst] at h
    split at h
    · cases h
    · rename_i hb
      cases j with
      | zero =>
        simp at hj; subst hj
        intro hd
        rw [hd] at hb
        simp at hb
      | succ j => exact noDst_get h (by simpa using hj)
theorem stable_get : ∀ {l : List Oper} {i j : Nat} {o x : Oper} {t : Nat} {s : Bool}, stable l = true → l[i]? = some o → isLS o.op = some (.tmp t, s) → i ≤ j → l[j]? = some x → x.dst ≠ some t
  | [], i, j, o, x, t, s, _, h, _, _, _ => by cases h
  | y :: l, i, j, o, x, t, s, h, hi, hs, hij, hj => by
    simp only [stable] at h
    split at h
    · rename_i hb
      cases i with
      | zero =>
        simp at hi; subst hi
        rw [hs] at hb
        exact noDst_get hb hj
      | succ i =>
        cases j with
        | zero => omega
        | succ j => exact stable_get (i := i) (j := j) h (by simpa using hi) hs (by omega) (by simpa using hj)
    · cases h

section
variable {P : Program} {G R U L : Nat} {B : World} {call : CallT}

theorem store_at {ev : Operand → Option Value} {m m1 : Mem} {t : TypeId} {x y : Operand} {v : Value} (h : exA P call L ev m (.store t x y) = some (v, m1)) :
    ∃ b o k, ev x = some (.pointer (some ⟨b, o, none⟩)) ∧ b < m.next ∧ m1 = m.put b (some k) ∧ ∀ M : Mem, M.rd b = m.rd b → exA P call L ev M (.store t x y) = some (v, M.put b (some k)) := by
  simp only [exA, acallee, aop] at h ⊢
  split at h
  · rename_i vx hvx
    split at h
    · rename_i vy hvy
      have h0 := h
      unfold astore at h
      split at h
      · rename_i b o
        split at h
        · rename_i s hs
          split at h
          · rename_i hsz
            split at h
            · rename_i m2 hm2
              cases h
              have hm2' := hm2
              unfold awr at hm2
              split at hm2
              · rename_i hL
                split at hm2
                · rename_i k hk
                  split at hm2
                  · rename_i hen
                    split at hm2
                    · rename_i hfit
                      cases hm2
                      refine ⟨b, o, _, hvx, Mem.rd_lt hk, rfl, fun M hM => ?_⟩
                      have hk2 : M.rd b = some k := hM.trans hk
                      simp only [hvx, hvy, astore, hs, hsz, awr, hL, hk2, hen, hfit]
                    · cases hm2
                  · cases hm2
                · cases hm2
              · cases hm2
            · cases h
          · cases h
        · cases h
      · cases h
    · cases h
  · cases h

variable {ops : Array Oper} {N : Nat} {K : List Nat} (tr : Nat → Fr × Mem)
/-- What is known of such a region, and of the text's order. -/
structure LTxt (P : Program) (G N : Nat) (K : List Nat) (L : Nat) (call : CallT) (ops : Array Oper) (tr : Nat → Fr × Mem) : Prop where
  edge : ∀ (i : Nat) (o : Oper), ops[i]? = some o → ∀ e ∈ o.after, Region.binds .any e = true → e.on < i
  pair : ∀ (i j : Nat) (x o : Oper), i < j → ops[i]? = some x → ops[j]? = some o → clash ops.toList x o = true → bit (masks ops.toList []) j i = true
  kind : ∀ (i : Nat) (o : Oper), ops[i]? = some o → o.guard = none ∧ (pureKind o.op = true ∨ ∃ a s, isLS o.op = some (a, s))
  stab : ∀ (i j : Nat) (o x : Oper) (t : Nat) (s : Bool), ops[i]? = some o → isLS o.op = some (.tmp t, s) → i ≤ j → ops[j]? = some x → x.dst ≠ some t
  stp : ∀ (i : Nat) (o : Oper), ops[i]? = some o → Stp P G N K call ops.toList L o true (tr i) (tr (i + 1))
  ne : ∀ (i j : Nat) (x o : Oper) (a b : Operand) (s s' : Bool), i < j → ops[i]? = some x → ops[j]? = some o → isLS x.op = some (a, s) → isLS o.op = some (b, s') → (s || s') = true → bit (masks ops.toList []) j i = false →
    ∃ u v, aeval G (fget K (tr ops.size).1) a = some u ∧ aeval G (fget K (tr ops.size).1) b = some v ∧ neB u v = true

theorem LTxt.nowrite (h : LTxt P G N K L call ops tr) {t p : Nat} : ∀ q, p ≤ q → q ≤ ops.size → (∀ k x, p ≤ k → k < q → ops[k]? = some x → x.dst ≠ some t) → fget K (tr q).1 t = fget K (tr p).1 t
  | 0, hpq, hq, _ => by obtain rfl : p = 0 := by omega
                        rfl
  | q + 1, hpq, hq, hw => by
    by_cases he : p = q + 1
    · subst he; rfl
    · rw [← h.nowrite (t := t) (p := p) q (by omega) (by omega) fun k x h1 h2 => hw k x h1 (by omega)]
      obtain ⟨o, ho⟩ : ∃ o, ops[q]? = some o := ⟨ops[q]'(by omega), by simp [show q < ops.size by omega]⟩
      have hne := hw q o (by omega) (by omega) ho
      have key : ∀ v, (tr (q + 1)).1 = putA K (tr q).1 o.dst v → fget K (tr (q + 1)).1 t = fget K (tr q).1 t := fun v hv => by
        rw [hv]
        unfold putA
        split
        · rename_i d hd; exact fget_fset_ne fun e => hne (by rw [hd, e])
        · rfl
      obtain ⟨_, h1 | ⟨v, _, _, h1⟩⟩ := h.stp q o ho
      · exact key _ h1.2.2
      · exact key _ h1
/-- An address is at its use what it is at the end. -/
theorem LTxt.addr (h : LTxt P G N K L call ops tr) {i : Nat} {o : Oper} {a : Operand} {s : Bool} (ho : ops[i]? = some o) (hs : isLS o.op = some (a, s)) : aeval G (fget K (tr ops.size).1) a = aeval G (fget K (tr i).1) a := by
  have hi : i < ops.size := (Array.getElem?_eq_some_iff.1 ho).1
  cases a with
  | tmp t =>
    show fget K (tr ops.size).1 t = fget K (tr i).1 t
    exact h.nowrite tr (p := i) (t := t) ops.size (by omega) (Nat.le_refl _) fun k x h1 _ hx => h.stab i k o x t s ho hs h1 hx
  | _ => rfl
/-- Operation i touches block b (s: it writes). -/
def Tch (G : Nat) (K : List Nat) (ops : Array Oper) (tr : Nat → Fr × Mem) (i b : Nat) (s : Bool) : Prop :=
  ∃ o a off, ops[i]? = some o ∧ isLS o.op = some (a, s) ∧ aeval G (fget K (tr i).1) a = some (.pointer (some ⟨b, off, none⟩))
theorem LTxt.meet (h : LTxt P G N K L call ops tr) {i j b : Nat} {s s' : Bool} (hij : i < j) (h1 : Tch G K ops tr i b s) (h2 : Tch G K ops tr j b s') (hs : (s || s') = true) : bit (masks ops.toList []) j i = true := by
  obtain ⟨x, a, o1, hx, hxs, ha⟩ := h1
  obtain ⟨o, c, o2, ho, hos, hc⟩ := h2
  cases hb : bit (masks ops.toList []) j i with
  | true => rfl
  | false =>
    obtain ⟨u, v, hu, hv, hn⟩ := h.ne i j x o a c s s' hij hx ho hxs hos hs hb
    rw [h.addr tr hx hxs, ha] at hu
    rw [h.addr tr ho hos, hc] at hv
    cases hu; cases hv
    obtain ⟨_, _, _, _, e1, e2, hne⟩ := neB_some hn
    cases e1; cases e2
    exact absurd rfl hne
/-- A step of the text's order, on memory. -/
theorem LTxt.mem (h : LTxt P G N K L call ops tr) {i : Nat} {o : Oper} (ho : ops[i]? = some o) : (tr (i + 1)).2.next = (tr i).2.next ∧ (∀ b, ¬ Tch G K ops tr i b true → (tr (i + 1)).2.rd b = (tr i).2.rd b) := by
  obtain ⟨_, h1 | ⟨v, _, hx, _⟩⟩ := h.stp i o ho
  · rw [h1.2.1]; exact ⟨rfl, fun _ _ => rfl⟩
  · obtain ⟨_, hk | ⟨a, s, hs⟩⟩ := h.kind i o ho
    · rw [exA_pure hk] at hx
      split at hx
      · simp only [Option.some.injEq, Prod.mk.injEq] at hx; rw [← hx.2]; exact ⟨rfl, fun _ _ => rfl⟩
      · cases hx
    · unfold isLS at hs
      split at hs
      · rename_i t x hop
        rw [hop] at hx
        rw [(load_at hx).1]; exact ⟨rfl, fun _ _ => rfl⟩
      · rename_i t x y hop
        rw [hop] at hx
        obtain ⟨b, off, k, h1, h2, h3, _⟩ := store_at hx
        rw [h3]
        refine ⟨rfl, fun c hc => ?_⟩
        have hne : b ≠ c := fun e => hc ⟨o, x, off, ho, by rw [hop]; rfl, by rw [← e]; exact h1⟩
        exact Mem.rd_put_ne trivial _ h2 hne
      · cases hs
theorem LTxt.same (h : LTxt P G N K L call ops tr) {b p : Nat} : ∀ q, p ≤ q → q ≤ ops.size → (∀ k, p ≤ k → k < q → ¬ Tch G K ops tr k b true) → (tr q).2.rd b = (tr p).2.rd b ∧ (tr q).2.next = (tr p).2.next
  | 0, hpq, hq, _ => by obtain rfl : p = 0 := by omega
                        exact ⟨rfl, rfl⟩
  | q + 1, hpq, hq, hw => by
    by_cases he : p = q + 1
    · subst he; exact ⟨rfl, rfl⟩
    · obtain ⟨g1, g2⟩ := h.same (b := b) (p := p) q (by omega) (by omega) fun k h1 h2 => hw k h1 (by omega)
      obtain ⟨o, ho⟩ : ∃ o, ops[q]? = some o := ⟨ops[q]'(by omega), by simp [show q < ops.size by omega]⟩
      obtain ⟨e1, e2⟩ := h.mem tr ho
      exact ⟨(e2 b (hw q (by omega) (by omega))).trans g1, e1.trans g2⟩
theorem LTxt.next (h : LTxt P G N K L call ops tr) : ∀ q, q ≤ ops.size → (tr q).2.next = (tr 0).2.next
  | 0, _ => rfl
  | q + 1, hq => by
    obtain ⟨o, ho⟩ : ∃ o, ops[q]? = some o := ⟨ops[q]'(by omega), by simp [show q < ops.size by omega]⟩
    exact (h.mem tr ho).1.trans (h.next q (by omega))

structure LInv (G R : Nat) (B : World) (U L : Nat) (ops : Array Oper) (K : List Nat) (tr : Nat → Fr × Mem) (ι0 : Inj) (a0 : Act) (w0 : World) (listed : Array Bool) (a : Act) (w : World) : Prop where
  lsz : listed.size = ops.size
  down : ∀ i o, ops[i]? = some o → Done listed i → ∀ e ∈ o.after, Region.binds .any e = true → Done listed e.on
  tsz : a.tmps.size = a0.tmps.size
  dfs : a.defers = a0.defers
  mem : ∃ ι M, M.next = (tr 0).2.next ∧ (∀ b j, j ≤ ops.size → (∀ k, k < ops.size → Tch G K ops tr k b true → (Done listed k ↔ k < j)) → M.rd b = (tr j).2.rd b) ∧
    Rel G R B U ι M w ∧ Step L ι0 (tr 0).2 w0 ι M w ∧ Slots ops K tr (Done listed) ι a

theorem lslots_step (ht : LTxt P G N K L call ops tr) {D : Nat → Prop} {ι κ : Inj} {a : Act} {i : Nat} {o : Oper} {v u : Value} (hs : Slots ops K tr D ι a) (ho : ops[i]? = some o) (hnD : ¬ D i)
    (hlate : ∀ k, bit (masks ops.toList []) k i = true → ¬ D k) (hle : ι.le κ) (hv : VR κ v u) (hfr : (tr (i + 1)).1 = putA K (tr i).1 o.dst v) (hN : ∀ d, o.dst = some d → d < a.tmps.size) :
    Slots ops K tr (fun k => D k ∨ k = i) κ (a.put o.dst u) := by
  have hi : i < ops.size := (Array.getElem?_eq_some_iff.1 ho).1
  intro t j hj hcond x hx
  by_cases hd : o.dst = some t
  · have hij : i < j := (hcond i o ho hd).1 (.inr rfl)
    have hnw := ht.nowrite tr (p := i + 1) (t := t) j (by omega) hj fun k y h1 h2 hy hyd => by
      have hDk : D k ∨ k = i := (hcond k y hy hyd).2 h2
      have hb := ht.pair i k o y (by omega) ho hy (clash_of (.inl ⟨hd, .inr hyd⟩))
      rcases hDk with h3 | h3
      · exact hlate k hb h3
      · omega
    rw [hnw, hfr, hd] at hx
    obtain rfl := fget_fset_same hx
    rw [hd]
    have := hN t hd
    simpa [Act.put, this] using hv
  · have hsame : (a.put o.dst u).tmps.getD t Go.undef = a.tmps.getD t Go.undef := by
      cases hd' : o.dst with
      | none => rfl
      | some d =>
        have hne : d ≠ t := fun e => hd (by rw [hd', e])
        simp [Act.put, Array.getElem?_setIfInBounds_ne hne]
    rw [hsame]
    refine (hs t j hj (fun k y hy hyd => ?_) x hx).mono hle
    have hki : k ≠ i := fun e => by subst e; rw [ho] at hy; cases hy; exact hd hyd
    have := hcond k y hy hyd
    simpa [hki] using this

theorem LInv.allDone {ι0 : Inj} {a0 : Act} {w0 : World} {listed : Array Bool} {a : Act} {w : World} (ht : LTxt P G N K L call ops tr) (h : LInv G R B U L ops K tr ι0 a0 w0 listed a w) (hr : Region.ready .any ops listed = []) : ∀ i, i < ops.size → Done listed i := by
  intro i
  induction i using Nat.strongRecOn with
  | _ i ih =>
    intro hi
    apply Classical.byContradiction
    intro hnd
    obtain ⟨o, ho⟩ : ∃ o, ops[i]? = some o := ⟨ops[i], by simp [hi]⟩
    have hl : i < listed.size := by rw [h.lsz]; exact hi
    have : i ∈ Region.ready .any ops listed := by
      refine mem_ready.2 ⟨?_, o, ho, fun e he hb => ?_⟩
      · cases hb : listed.getD i true with
        | false => rfl
        | true =>
          exact absurd ⟨hl, by simpa [hl] using hb⟩ hnd
      · have := ht.edge i o ho e he hb
        exact (ih e.on this (by omega)).2
    rw [hr] at this
    cases this

theorem loose_core (hP : Prog P) (hc : CallOk P G R B call) (ht : LTxt P G N K L call ops tr) (hR : R ≤ L) (hL : L ≤ (tr 0).2.next) (hU : (tr ops.size).2.next ≤ U) {ι0 : Inj} {a0 : Act} {w0 : World} (hN : N ≤ a0.tmps.size) {Q : Exit → Act → World → Prop}
    (hQ : ∀ κ a' w', Rel G R B U κ (tr ops.size).2 w' → FR κ (fget K (tr ops.size).1) a' → a'.tmps.size = a0.tmps.size → a'.defers = a0.defers → Step L ι0 (tr 0).2 w0 κ (tr ops.size).2 w' → Q .normal a' w')
    (hd0 : ∀ b e, ι0 b = some e → b < (tr 0).2.next ∨ U ≤ b) :
    ∀ (fuel : Nat) (listed : Array Bool) (a : Act) (w : World), LInv G R B U L ops K tr ι0 a0 w0 listed a w → ops.size ≤ listed.toList.count true + fuel → wpAny P .any ops Q fuel listed a w := by
  have hnx := ht.next tr ops.size (Nat.le_refl _)
  have fin : ∀ listed a w, LInv G R B U L ops K tr ι0 a0 w0 listed a w → Region.ready .any ops listed = [] → Q .normal a w := fun listed a w hI hr => by
    have hall := hI.allDone tr ht hr
    obtain ⟨ι, M, h1, h2, h5, h7, h8⟩ := hI.mem
    have hrd : ∀ b, (tr ops.size).2.rd b = M.rd b := fun b => (h2 b ops.size (Nat.le_refl _) fun k hk _ => ⟨fun _ => hk, fun _ => hall k hk⟩).symm
    have hMn : M.next = (tr ops.size).2.next := h1.trans hnx.symm
    exact hQ ι a w (h5.fwd (by omega) trivial hU fun b _ => hrd b) (fun t v hv => h8 t ops.size (Nat.le_refl _) (fun k x hx _ => ⟨fun _ => (Array.getElem?_eq_some_iff.1 hx).1, fun h => hall k h⟩) v hv) hI.tsz hI.dfs
      (h7.fwd (by omega) (fun b e he => (hd0 b e he).imp id fun h => by omega) fun b _ _ => hrd b)
  intro fuel
  induction fuel with
  | zero =>
    intro listed a w hI hcnt
    have hr : Region.ready .any ops listed = [] := by
      apply List.eq_nil_iff_forall_not_mem.2
      intro i hi
      obtain ⟨h1, o, ho, _⟩ := mem_ready.1 hi
      have hi' : i < listed.size := by rw [hI.lsz]; exact (Array.getElem?_eq_some_iff.1 ho).1
      have hle := List.count_le_length (a := true) (l := listed.toList)
      have heq : listed.toList.count true = listed.toList.length := by
        have := hI.lsz
        simp only [Array.length_toList] at hle ⊢
        omega
      have := List.count_eq_length.1 heq listed[i] (by simp)
      have h1' : listed[i] = false := by simpa [hi'] using h1
      rw [h1'] at this
      cases this
    exact ⟨hr, fin listed a w hI hr⟩
  | succ fuel ih =>
    intro listed a w hI hcnt
    refine ⟨fin listed a w hI, fun i hi => ?_⟩
    obtain ⟨hun, o, ho, hall⟩ := mem_ready.1 hi
    have hin : i < ops.size := (Array.getElem?_eq_some_iff.1 ho).1
    have hil : i < listed.size := by rw [hI.lsz]; exact hin
    have hli : listed[i] = false := by simpa [hil] using hun
    have hnD : ¬ Done listed i := fun h => by have := h.2; simp [hil, hli] at this
    have hD' : ∀ k x, ops.toList[k]? = some x → (Done listed k ∨ k = i) → ∀ e ∈ x.after, Region.binds .any e = true → (Done listed e.on ∨ e.on = i) := fun k x hx hk e he hb => by
      rcases hk with hk | rfl
      · exact .inl (hI.down k x (by simpa using hx) hk e he hb)
      · have : x = o := by have hx' : ops[k]? = some x := by simpa using hx
                           rw [ho] at hx'; cases hx'; rfl
        subst this
        have h1 := hall e he hb
        refine .inl ⟨?_, h1⟩
        have := ht.edge k x ho e he hb
        omega
    have hbef : ∀ j, bit (masks ops.toList []) i j = true → j ≠ i → Done listed j := fun j hj hne => by
      rcases bit_down hD' hj (.inr rfl) with h | h
      · exact h
      · exact absurd h hne
    have haft : ∀ k, bit (masks ops.toList []) k i = true → ¬ Done listed k := fun k hk hDk =>
      hnD (bit_down (D := Done listed) (fun k x hx hk e he hb => hI.down k x (by simpa using hx) hk e he hb) hk hDk)
    have hnames : ∀ t, (t ∈ looks ops.toList o ∨ o.dst = some t) → ∀ k x, ops[k]? = some x → x.dst = some t → (Done listed k ↔ k < i) := fun t htt k x hx hxd => by
      rcases Nat.lt_trichotomy k i with hki | hki | hki
      · refine ⟨fun _ => hki, fun _ => hbef k ?_ (by omega)⟩
        exact ht.pair k i x o hki hx ho (clash_of (.inl ⟨hxd, htt⟩))
      · subst hki; exact ⟨fun h => absurd h hnD, fun h => by omega⟩
      · refine ⟨fun h => absurd h (haft k ?_), fun h => by omega⟩
        exact ht.pair i k o x hki ho hx (clash_of (.inr ⟨hxd, htt⟩))
    obtain ⟨ι, M, h1, h2, h5, h7, h8⟩ := hI.mem
    obtain ⟨hdN, hst⟩ := ht.stp i o ho
    have hdsz : ∀ d, o.dst = some d → d < a.tmps.size := fun d hd => by rw [hI.tsz]; exact Nat.lt_of_lt_of_le (hdN d hd) hN
    have hslot : ∀ t, t ∈ looks ops.toList o → ∀ v, fget K (tr i).1 t = some v → VR ι v (a.tmps.getD t Go.undef) := fun t htl v hv =>
      h8 t i (by omega) (hnames t (.inl htl)) v hv
    have hcnt' : ops.size ≤ (listed.setIfInBounds i true).toList.count true + fuel := by
      have hl' : i < listed.toList.length := by simpa using hil
      have hv : listed.toList[i] = false := by simpa using hli
      rw [Array.toList_setIfInBounds, List.count_set hl', hv]
      show _ ≤ listed.toList.count true - 0 + 1 + fuel
      omega
    have hdown' : ∀ k x, ops[k]? = some x → Done (listed.setIfInBounds i true) k → ∀ e ∈ x.after, Region.binds .any e = true → Done (listed.setIfInBounds i true) e.on := fun k x hx hk e he hb =>
      (done_set hil).2 (hD' k x (by simpa using hx) ((done_set hil).1 hk) e he hb)
    have go : ∀ (v u : Value) (κ : Inj) (w' : World) (M' : Mem), ι.le κ → VR κ v u → (tr (i + 1)).1 = putA K (tr i).1 o.dst v → M'.next = (tr 0).2.next →
        (∀ b j, j ≤ ops.size → (∀ k, k < ops.size → Tch G K ops tr k b true → (Done (listed.setIfInBounds i true) k ↔ k < j)) → M'.rd b = (tr j).2.rd b) →
        Rel G R B U κ M' w' → Step L ι M w κ M' w' → wpAny P .any ops Q fuel (listed.setIfInBounds i true) (a.put o.dst u) w' := by
      intro v u κ w' M' hle hvu hfr g1 g2 g3 g4
      refine ih _ _ _ ⟨by simpa using hI.lsz, hdown', ?_, ?_, κ, M', g1, g2, g3, h7.trans g4, ?_⟩ hcnt'
      · cases o.dst <;> simp [Act.put, hI.tsz]
      · cases o.dst <;> simp [Act.put, hI.dfs]
      · intro t j hj hcond x hx
        exact lslots_step tr ht h8 ho hnD haft hle hvu hfr hdsz t j hj (fun k y hy hyd => by have := hcond k y hy hyd; rw [done_set hil] at this; exact this) x hx
    -- the memory stays
    have stay : (∀ b, ¬ Tch G K ops tr i b true) → ∀ b j, j ≤ ops.size → (∀ k, k < ops.size → Tch G K ops tr k b true → (Done (listed.setIfInBounds i true) k ↔ k < j)) → M.rd b = (tr j).2.rd b := fun hno b j hj hcond => by
      refine h2 b j hj fun k hk hT => ?_
      have hki : k ≠ i := fun e => by subst e; exact hno b hT
      have := hcond k hk hT
      rw [done_set hil] at this
      simpa [hki] using this
    have hMU : M.next ≤ U := by rw [h1, ← hnx]; exact hU
    have hML : L ≤ M.next := by rw [h1]; exact hL
    obtain ⟨hgd, hkind⟩ := ht.kind i o ho
    unfold wpOp
    rw [ho]
    simp only []
    have hwt : wantA K ops.toList (tr i).1 o = some true := by simp only [wantA, hgd]
    have hwant : Region.wanted o (yielded ops a.tmps) = true := by
      unfold Region.wanted
      rw [hgd]
    rcases hst with ⟨hw, _, _⟩ | ⟨v, hw, hx, hfr⟩
    · rw [hwt] at hw; cases hw
    · rw [hwant]
      simp only [if_true]
      simp only [] at hx
      have hopn : ∀ x ∈ o.op.operands, ∀ y, aeval G (fget K (tr i).1) x = some y → VR ι y (a.eval x) := fun x hxo y hy => by
        refine aeval_ok1 h5.gl (fun t ht1 v hv => ?_) hy
        refine hslot t ?_ v hv
        unfold looks
        exact List.mem_append_left _ (List.mem_filterMap.2 ⟨.tmp t, by subst ht1; simpa using hxo, rfl⟩)
      obtain ⟨ev', hagree, hev'⟩ : ∃ ev' : Operand → Option Value, (∀ x ∈ o.op.operands, aeval G (fget K (tr i).1) x = ev' x) ∧ ∀ x y, ev' x = some y → VR ι y (a.eval x) := by
        refine ⟨fun x => @ite _ (x ∈ o.op.operands) (Classical.propDecidable _) (aeval G (fget K (tr i).1) x) none, fun x hxo => by simp [hxo], fun x y hy => ?_⟩
        by_cases hxo : x ∈ o.op.operands
        · dsimp only at hy; rw [if_pos hxo] at hy; exact hopn x hxo y hy
        · dsimp only at hy; rw [if_neg hxo] at hy; cases hy
      rcases hkind with hp | ⟨ad, s, hls⟩
      · have hno : ∀ b, ¬ Tch G K ops tr i b true := fun b ⟨o', a', off, ho', hs', _⟩ => by
          rw [ho] at ho'; cases ho'
          unfold isLS at hs'
          split at hs' <;> first | (rename_i hop; rw [hop] at hp; cases hp) | cases hs'
        rw [exA_congr hagree, exA_pure hp] at hx
        split at hx
        · rename_i v1 hv1
          simp only [Option.some.injEq, Prod.mk.injEq] at hx
          obtain ⟨rfl, hmm⟩ := hx
          obtain ⟨u, hrun, hvu⟩ := apure_ok (P := P) hev' hv1 w
          refine .inl ?_
          unfold Oper.wp
          rw [hrun]
          exact go v1 u ι w M (Inj.le_refl _) hvu hfr h1 (stay hno) h5 (Step.refl' _ _ _ _)
        · cases hx
      · -- the block that it touches is as it is in the text's order
        have hord : ∀ b s', Tch G K ops tr i b s → (s || s') = true → ∀ k, k < ops.size → Tch G K ops tr k b s' → (Done listed k ↔ k < i) := fun b s' hT hss k hk hTk => by
          rcases Nat.lt_trichotomy k i with hki | hki | hki
          · exact ⟨fun _ => hki, fun _ => hbef k (ht.meet tr hki hTk hT (by rw [Bool.or_comm]; exact hss)) (by omega)⟩
          · subst hki; exact ⟨fun h => absurd h hnD, fun h => by omega⟩
          · exact ⟨fun h => absurd h (haft k (ht.meet tr hki hT hTk hss)), fun h => by omega⟩
        unfold isLS at hls
        split at hls
        · rename_i t x hop
          cases hls
          rw [hop] at hx
          obtain ⟨hmm, b, off, hxe, _, hre⟩ := load_at hx
          have hT : Tch G K ops tr i b false := ⟨o, _, off, ho, by rw [hop]; rfl, hxe⟩
          have hMb : M.rd b = (tr i).2.rd b := h2 b i (by omega) fun k hk hTk => hord b true hT rfl k hk hTk
          have hxM := hre L M hMb
          rw [← hop, exA_congr hagree] at hxM
          have hno : ∀ b, ¬ Tch G K ops tr i b true := fun b ⟨o', a', off', ho', hs', _⟩ => by
            rw [ho] at ho'; cases ho'
            rw [hop] at hs'; cases hs'
          refine .inl (exA_ok hP hc h5 hR hML hev' hxM hMU fun u κ w' hvu g1 g2 => ?_)
          exact go v u κ w' M g2.le hvu hfr h1 (stay hno) g1 g2
        · rename_i t x y hop
          cases hls
          rw [hop] at hx
          obtain ⟨b, off, kb, hxe, hbn, hmm, hre⟩ := store_at hx
          have hT : Tch G K ops tr i b true := ⟨o, _, off, ho, by rw [hop]; rfl, hxe⟩
          have hMb : M.rd b = (tr i).2.rd b := h2 b i (by omega) fun k hk hTk => hord b true hT rfl k hk hTk
          have hxM := hre M hMb
          rw [← hop, exA_congr hagree] at hxM
          have hbM : b < M.next := by rw [h1, ← ht.next tr i (by omega)]; exact hbn
          refine .inl (exA_ok hP hc h5 hR hML hev' hxM hMU fun u κ w' hvu g1 g2 => ?_)
          refine go v u κ w' (M.put b (some kb)) g2.le hvu hfr h1 (fun c j hj hcond => ?_) g1 g2
          by_cases hcb : c = b
          · subst hcb
            have hij : i < j := (hcond i hin hT).1 ((done_set hil).2 (.inr rfl))
            have hno : ∀ k, i + 1 ≤ k → k < j → ¬ Tch G K ops tr k c true := fun k hk1 hk2 hTk => by
              have hDk := (hcond k (by omega) hTk).2 hk2
              rcases (done_set hil).1 hDk with h | h
              · have := (hord c true hT rfl k (by omega) hTk).1 h; omega
              · omega
            rw [(ht.same tr (b := c) (p := i + 1) j (by omega) hj hno).1, hmm, Mem.rd_put_same _ hbM, Mem.rd_put_same _ hbn]
          · rw [Mem.rd_put_ne trivial _ hbM (fun e => hcb e.symm)]
            refine h2 c j hj fun k hk hTk => ?_
            have hki : k ≠ i := fun e => by
              subst e
              obtain ⟨o', a', off', ho', hs', ha'⟩ := hTk
              rw [ho] at ho'; cases ho'
              rw [hop] at hs'; cases hs'
              rw [hxe] at ha'; cases ha'
              exact hcb rfl
            have := hcond k hk hTk
            rw [done_set hil] at this
            simpa [hki] using this
        · cases hls
end
end Go.Vit

/- Code and calls: the evaluator, and that what it reckons is what the machine does. -/
namespace Go.Vit
open Go

abbrev Out := Option (Nat × (Fr × Mem))
def exOf (n : Nat) : Exit := match n with
  | 0 => .normal
  | 1 => .ret
  | k + 2 => if k % 2 = 0 then .exit (k / 2) else .goto (k / 2)

def pairT (l : List Oper) : List (Oper × Bool) := l.map fun o => (o, true)
def evRegion0 (P : Program) (G N : Nat) (K : List Nat) (call : CallT) (L : Nat) (ops : List Oper) (draw : Bool) (fr : Fr) (m : Mem) : Out :=
  match (match draw with
    | false => some (pairT ops)
    | true => match drawOk ops with
      | true => some (flags ops)
      | false => none) with
  | none => none
  | some l => match fr with
    | ⟨ps, _⟩ => match evOps P G N K call ops L l ⟨ps, []⟩ m with
      | some (fr', m') => some (0, (fr', m'))
      | none => none

/-- .. with loads that may be late. -/
def evLate (P : Program) (G N : Nat) (K : List Nat) (call : CallT) (L : Nat) (ops : List Oper) (j : Nat) (fr : Fr) (m : Mem) : Out := match fr with
  | ⟨ps, _⟩ => match evOps P G N K call ops L ((lflags ops).take j) ⟨ps, []⟩ m with
    | none => none
    | some (fr1, m1) => match evOps P G N K call ops L (((lflags ops).drop j).take 1) fr1 m1 with
      | none => none
      | some (fr2, m2) => match smAll m1 m2 (aeval G (fget K fr1)) (lateAddrs ops j) with
        | false => none
        | true => match evOps P G N K call ops L ((lflags ops).drop (Nat.succ j)) fr2 m2 with
          | none => none
          | some (fr3, m3) => some (0, (fr3, m3))

def evRegion1 (P : Program) (G N : Nat) (K : List Nat) (call : CallT) (L : Nat) (ops : List Oper) (draw : Bool) (fr : Fr) (m : Mem) : Out := match draw with
  | false => evRegion0 P G N K call L ops false fr m
  | true => match needLoose ops with
    | false => evRegion0 P G N K call L ops true fr m
    | true => match looseOk ops with
      | false => none
      | true => match fr with
        | ⟨ps, _⟩ => match evOps P G N K call ops L (pairT ops) ⟨ps, []⟩ m with
          | some (fr', m') => match neAll (aeval G (fget K fr')) (loosePairs ops) with
            | true => some (0, (fr', m'))
            | false => none
          | none => none
def evRegion (P : Program) (G N : Nat) (K : List Nat) (call : CallT) (L : Nat) (ops : List Oper) (draw : Bool) (fr : Fr) (m : Mem) : Out := match draw with
  | false => evRegion1 P G N K call L ops false fr m
  | true => match lateCut ops with
    | none => evRegion1 P G N K call L ops true fr m
    | some j => evLate P G N K call L ops j fr m

def loopN (body : Fr → Mem → Out) : Nat → Fr → Mem → Out
  | 0, _, _ => none
  | n + 1, fr, m => match body fr m with
    | some (e, (fr', m')) => match e with
      | 0 => loopN body n fr' m'
      | Nat.succ k => some (Nat.succ k, (fr', m'))
    | none => none

def ev (P : Program) (G N : Nat) (K : List Nat) (call : CallT) (lf : Nat) (L : Nat) : Code → Fr → Mem → Out
  | .skip, fr, m => some (0, (fr, m))
  | .region _ ops draw, fr, m => evRegion P G N K call L ops.toList draw fr m
  | .seq a b, fr, m => match ev P G N K call lf L a fr m with
    | some (e, (fr', m')) => match e with
      | 0 => ev P G N K call lf L b fr' m'
      | Nat.succ k => some (Nat.succ k, (fr', m'))
    | none => none
  | .cond c a b, fr, m => match aeval G (fget K fr) c with
    | some (.bool true) => ev P G N K call lf L a fr m
    | some (.bool false) => ev P G N K call lf L b fr m
    | _ => none
  | .block id body, fr, m => match ev P G N K call lf L body fr m with
    | some (e, (fr', m')) => match Nat.beq e (Nat.succ (Nat.succ (Nat.mul 2 id))) with
      | true => some (0, (fr', m'))
      | false => some (e, (fr', m'))
    | none => none
  | .loop body, fr, m => loopN (ev P G N K call lf L body) lf fr m
  | .exit id, fr, m => some (Nat.succ (Nat.succ (Nat.mul 2 id)), (fr, m))
  | .ret, fr, m => some (1, (fr, m))
  | .label _, fr, m => some (0, (fr, m))
  | .goto l, fr, m => some (Nat.succ (Nat.succ (Nat.succ (Nat.mul 2 l))), (fr, m))
  | _, _, _ => none

/-! A scope with labels, as a body's last part: the jumps to them are rounds. -/
def gotoOf (e : Nat) : Option Nat := match e with
  | k + 2 => if k % 2 = 0 then none else some (k / 2)
  | _ => none
def scopeN (P : Program) (G N : Nat) (K : List Nat) (call : CallT) (lf : Nat) (L : Nat) (c : Code) : Nat → Code → Fr → Mem → Out
  | 0, _, _, _ => none
  | n + 1, d, fr, m => match ev P G N K call lf L d fr m with
    | none => none
    | some (e, (fr', m')) => match gotoOf e with
      | none => some (e, (fr', m'))
      | some l => match findLabel c l with
        | none => none
        | some rest => scopeN P G N K call lf L c n rest fr' m'
def evB (P : Program) (G N : Nat) (K : List Nat) (call : CallT) (lf : Nat) (L : Nat) : Code → Fr → Mem → Out
  | .scope c, fr, m => scopeN P G N K call lf L c (lf + 1) c fr m
  | .seq a b, fr, m => match ev P G N K call lf L a fr m with
    | some (e, (fr', m')) => match e with
      | 0 => evB P G N K call lf L b fr' m'
      | Nat.succ k => some (Nat.succ k, (fr', m'))
    | none => none
  | c, fr, m => ev P G N K call lf L c fr m

def initPs (args : List Value) : List Nat → List Value
  | [] => []
  | t :: l => (match lget args t with
    | some v => v
    | none => Go.undef) :: initPs args l
def resA (P : Program) (K : List Nat) (fr : Fr) (m : Mem) : List ResultVar → Option (List Value)
  | [] => some []
  | r :: l => match (match r with
      | .tmp t => fget K fr t
      | .cell a t => match fget K fr a with
        | some x => aload P m t x
        | none => none) with
    | some v => match resA P K fr m l with
      | some vs => some (v :: vs)
      | none => none
    | none => none
def oneOr (vs : List Value) : Value := match vs with
  | [v] => v
  | vs => .tuple ⟨vs⟩

/-- A function's body. -/
def evF (P : Program) (G : Nat) (KK : FuncId → List Nat) (lf : Nat) (call : CallT) : CallT := fun f args L m => match P.funcs[f]? with
  | none => none
  | some fn => match fn.body with
    | none => none
    | some c => match Nat.ble args.length fn.ntmps with
      | false => none
      | true => match evB P G fn.ntmps (KK f) call lf L c ⟨initPs args (KK f), []⟩ m with
        | none => none
        | some (e, (fr, m')) => match Nat.ble e 1 with
          | false => none
          | true => match resA P (KK f) fr m' fn.results.toList with
            | some vs => some (oneOr vs, m')
            | none => none
/-- Calls, to a depth. S: what is known of some calls; KK: of each function, its lasting slots. -/
def callN (S : CallT) (P : Program) (G : Nat) (KK : FuncId → List Nat) (lf : Nat) : Nat → CallT
  | 0 => S
  | n + 1 => fun f args L m => match S f args L m with
    | some r => some r
    | none => evF P G KK lf (callN S P G KK lf n) f args L m
def noCalls : CallT := fun _ _ _ _ => none

section
variable {P : Program} {G R U L : Nat} {B : World} {call : CallT}

theorem pairT_fst (l : List Oper) : pairT l = l.map fun o => (o, true) := rfl

theorem evRegion0_ext (hc : CallOk P G R B call) {N : Nat} {K : List Nat} {ops : List Oper} {draw : Bool} {fr fr' : Fr} {m m' : Mem} {e : Nat} (hm : m.ok) (hL : L ≤ m.next)
    (h : evRegion0 P G N K call L ops draw fr m = some (e, (fr', m'))) : Ext L m m' := by
  unfold evRegion0 at h
  split at h
  · cases h
  · split at h
    rename_i ps ts
    split at h
    · rename_i fr1 m1 hh
      cases h
      exact evOps_ext hc _ _ _ _ _ hm hL hh
    · cases h

theorem txt_wp (hP : Prog P) (hc : CallOk P G R B call) {N : Nat} {K : List Nat} {ops : Array Oper} {fl : List (Oper × Bool)} (tr : Nat → Fr × Mem) {id : Nat} (ht : Txt P G R B L call ops N K tr fl) (hR : R ≤ L) {Q : Exit → Act → World → Prop} {fr0 fr1 : Fr} {m m1 : Mem} {ι : Inj} {a : Act} {w : World}
    (t0 : tr 0 = (fr0, m)) (t1 : tr ops.size = (fr1, m1)) (hr : Rel G R B U ι m w) (hU : m1.next ≤ U) (hf0 : FR ι (fget K fr0) a) (hN : N ≤ a.tmps.size)
    (hq : ∀ κ a' w', Rel G R B U κ m1 w' → FR κ (fget K fr1) a' → a'.tmps.size = a.tmps.size → a'.defers = a.defers → Step L ι m w κ m1 w' → Q .normal a' w') : (Code.region id ops true).wp P Q a w := by
  have hUn : (tr ops.size).2.next ≤ U := by rw [t1]; exact hU
  have hd0 : ∀ b e, ι b = some e → b < (tr 0).2.next ∨ U ≤ b := by rw [t0]; exact hr.dom
  refine wp_region_any hP.mixed ?_
  refine draw_core (G := G) (R := R) (B := B) (U := U) (L := L) (N := N) (K := K) tr hP ht hR hUn (ι0 := ι) (a0 := a) (w0 := { w with drawn := w.drawn + 1 }) hN ?_ hd0 _ _ _ _ ⟨by simp, ?_, rfl, rfl, ?_⟩ (by omega)
  · intro κ a' w' g1 g2 g3 g4 g5
    rw [t1] at g1 g2 g5
    rw [t0] at g5
    exact hq κ a' w' g1 g2 g3 g4 ((Step.same rfl rfl rfl rfl : Step L ι m w ι m { w with drawn := w.drawn + 1 }).trans g5)
  · intro i o ho hd
    have := hd.2
    simp [Array.getD_eq_getD_getElem?, Array.getElem?_replicate] at this
    split at this <;> simp_all
  · obtain ⟨r, r1, r2, r3, r4⟩ := nextEM ops fl ops.size 0 (by omega)
    have hnd : ∀ i, ¬ Done (Array.replicate ops.size false) i := fun i hd => by
      have := hd.2
      simp [Array.getD_eq_getD_getElem?, Array.getElem?_replicate] at this
      split at this <;> simp_all
    have hext := (ht.exts tr (p := 0) r (by omega) r2).2 r3
    have hUr : (tr r).2.next ≤ U := Nat.le_trans (ht.exts tr (p := r) ops.size r2 (Nat.le_refl _)).1.next hUn
    have hr0 : Rel G R B U ι (tr 0).2 { w with drawn := w.drawn + 1 } := by rw [t0]; exact hr.world rfl
    refine ⟨ι, r, r2, fun i hi hem => absurd hem (r3 i (by omega) hi), fun h => ⟨r4 h, hnd r⟩, fun i _ _ => hnd i, hr0.fwd hext.next hext.ok hUr (fun b hb => hext.kept b hb hb), fun i hi _ b hb1 hb2 => ?_,
      (Step.refl' L ι (tr 0).2 { w with drawn := w.drawn + 1 }).fwd hext.next (fun b e he => (hd0 b e he).imp (fun h => h) fun h => by omega) (fun b hb1 hb2 => hext.kept b hb2 hb2), ?_⟩
    · cases hι : ι b with
      | none => rfl
      | some e =>
        have h1 := hd0 b e hι
        have h2 := (ht.exts tr (p := 0) i (by omega) (by omega)).1.next
        have h3 := (ht.exts tr (p := i + 1) ops.size (by omega) (Nat.le_refl _)).1.next
        omega
    · intro t j hj hcond v hv
      rw [ht.nowrite tr (p := 0) (t := t) j (by omega) hj fun k x _ hk hx hxd => hnd k ((hcond k x hx hxd).2 hk)] at hv
      rw [t0] at hv
      exact hf0 t v hv
theorem evRegion0_ok (hP : Prog P) (hc : CallOk P G R B call) {N : Nat} {K : List Nat} {ops : Array Oper} {id : Nat} {draw : Bool} (hR : R ≤ L) {Q : Exit → Act → World → Prop} {fr fr' : Fr} {m m' : Mem} {e : Nat} {ι : Inj} {a : Act} {w : World}
    (h : evRegion0 P G N K call L ops.toList draw fr m = some (e, (fr', m'))) (hr : Rel G R B U ι m w) (hL : L ≤ m.next) (hU : m'.next ≤ U) (hf : FR ι (fget K fr) a) (hN : N ≤ a.tmps.size)
    (hq : ∀ κ a' w', Rel G R B U κ m' w' → FR κ (fget K fr') a' → a'.tmps.size = a.tmps.size → a'.defers = a.defers → Step L ι m w κ m' w' → Q (exOf e) a' w') : (Code.region id ops draw).wp P Q a w := by
  unfold evRegion0 at h
  have hf0 : FR ι (fget K ⟨fr.ps, []⟩) a := fun t v hv => by
    refine hf t v ?_
    unfold fget at hv ⊢
    split at hv
    · exact hv
    · cases hv
  cases draw with
  | false =>
    simp only [] at h
    split at h
    · rename_i fr1 m1 hh
      simp only [Option.some.injEq, Prod.mk.injEq] at h
      obtain ⟨rfl, rfl, rfl⟩ := h
      have := evOps_ok (U := U) (Q := Q) hP hc hR ops.toList 0 ⟨fr.ps, []⟩ m ι a w fr1 m1 hh (by simp) hr hL hU hf0 hN hq
      refine wp_region ?_
      rw [List.range_eq_range']
      simpa using this
    · cases h
  | true =>
    simp only [] at h
    split at h
    · cases h
    · rename_i l hl
      split at hl
      · rename_i hdr
        cases hl
        split at h
        · rename_i fr1 m1 hh
          simp only [Option.some.injEq, Prod.mk.injEq] at h
          obtain ⟨rfl, rfl, rfl⟩ := h
          obtain ⟨tr, t0, t1, t2⟩ := evOps_trace _ _ _ _ _ hh
          have hlen : (flags ops.toList).length = ops.size := by
            have := congrArg List.length (flags_fst ops.toList)
            simpa using this
          rw [hlen] at t1
          have ht : Txt P G R B L call ops N K tr (flags ops.toList) := ⟨GFacts.of_draw (drawOk_facts hdr), t2, by rw [t0]; exact hr.ok, hc, by rw [t0]; exact hL⟩
          exact txt_wp hP hc tr ht hR t0 t1 hr hU hf0 hN (fun κ a' w' g1 g2 g3 g4 g5 => hq κ a' w' g1 g2 g3 g4 g5)
        · cases h
      · cases hl

theorem evRegion1_ext (hc : CallOk P G R B call) {N : Nat} {K : List Nat} {ops : List Oper} {draw : Bool} {fr fr' : Fr} {m m' : Mem} {e : Nat} (hm : m.ok) (hL : L ≤ m.next)
    (h : evRegion1 P G N K call L ops draw fr m = some (e, (fr', m'))) : Ext L m m' := by
  unfold evRegion1 at h
  split at h
  · exact evRegion0_ext hc hm hL h
  · split at h
    · exact evRegion0_ext hc hm hL h
    · split at h
      · cases h
      · split at h
        rename_i ps ts
        split at h
        · rename_i fr1 m1 hh
          split at h
          · cases h
            exact evOps_ext hc _ _ _ _ _ hm hL hh
          · cases h
        · cases h
theorem pairF_get {l : List Oper} {i : Nat} {o : Oper} (h : l[i]? = some o) : (pairF l)[i]? = some (o, false) := by simp [pairF, h]
theorem evRegion1_ok (hP : Prog P) (hc : CallOk P G R B call) {N : Nat} {K : List Nat} {ops : Array Oper} {id : Nat} {draw : Bool} (hR : R ≤ L) {Q : Exit → Act → World → Prop} {fr fr' : Fr} {m m' : Mem} {e : Nat} {ι : Inj} {a : Act} {w : World}
    (h : evRegion1 P G N K call L ops.toList draw fr m = some (e, (fr', m'))) (hr : Rel G R B U ι m w) (hL : L ≤ m.next) (hU : m'.next ≤ U) (hf : FR ι (fget K fr) a) (hN : N ≤ a.tmps.size)
    (hq : ∀ κ a' w', Rel G R B U κ m' w' → FR κ (fget K fr') a' → a'.tmps.size = a.tmps.size → a'.defers = a.defers → Step L ι m w κ m' w' → Q (exOf e) a' w') : (Code.region id ops draw).wp P Q a w := by
  unfold evRegion1 at h
  split at h
  · exact evRegion0_ok hP hc hR h hr hL hU hf hN hq
  · split at h
    · exact evRegion0_ok hP hc hR h hr hL hU hf hN hq
    · split at h
      · cases h
      · rename_i hok
        have hf0 : FR ι (fget K ⟨fr.ps, []⟩) a := fun t v hv => by
          refine hf t v ?_
          unfold fget at hv ⊢
          split at hv
          · exact hv
          · cases hv
        split at h
        rename_i ps ts
        split at h
        · rename_i fr1 m1 hh
          split at h
          · rename_i hne
            simp only [Option.some.injEq, Prod.mk.injEq] at h
            obtain ⟨rfl, rfl, rfl⟩ := h
            obtain ⟨tr, t0, t1, t2⟩ := evOps_trace _ _ _ _ _ hh
            have hlen : (pairT ops.toList).length = ops.size := by simp [pairT]
            rw [hlen] at t1
            unfold looseOk at hok
            rw [Bool.and_eq_true, Bool.and_eq_true] at hok
            obtain ⟨hrows, hkind, hstab⟩ := hok
            have rows := fun j o (hj : ops[j]? = some o) => allRows_iff hrows j o false (pairF_get (by simpa using hj))
            have ht : LTxt P G N K L call ops tr := by
              refine ⟨fun i o ho e he hb => ?_, fun i j x o hij hx ho hcl => ?_, fun i o ho => ?_, fun i j o x t s ho hs hij hx => ?_, fun i o ho => t2 i o true (by simp [pairT, ho]), fun i j x o ad bd s s' hij hx ho hs hs' hss hbit => ?_⟩
              · have := (rows i o ho).2
                rw [Nat.zero_add] at this
                exact edgesOk_iff this e (by simpa using he) hb
              · obtain ⟨⟨k, hk, hrw⟩, _⟩ := rows j o ho
                rw [Nat.zero_add] at hk hrw
                have := rowOk_iff hrw i x false (by rw [List.getElem?_take, if_pos hij]; exact pairF_get (by simpa using hx)) (by rw [hcl]; rfl)
                rw [Nat.zero_add] at this
                simp [bit, hk, this]
              · have hlo := List.all_eq_true.1 hkind o (by have := Array.mem_of_getElem? ho; simpa using this)
                unfold looseOp at hlo
                split at hlo
                · cases hlo
                · rename_i hg
                  refine ⟨hg, ?_⟩
                  split at hlo
                  · rename_i hp; exact .inl hp
                  · split at hlo
                    · rename_i x hx; exact .inr ⟨x.1, x.2, hx⟩
                    · cases hlo
              · exact stable_get hstab (i := i) (j := j) (by simpa using ho) hs hij (by simpa using hx)
              · obtain ⟨⟨k, hk, _⟩, _⟩ := rows j o ho
                rw [Nat.zero_add] at hk
                have hkb : Nat.testBit k i = false := by
                  have := hbit
                  unfold bit at this
                  rw [lget_eq, hk] at this
                  exact this
                have hm : (ad, bd) ∈ loosePairs ops.toList := by
                  refine allP_mem (base := 0) (j := j) (k := k) (o := o) (by simpa using ho) (by rw [Nat.zero_add]; exact hk) ?_
                  rw [Nat.zero_add]
                  refine rowP_mem (base := 0) (i := i) (x := x) (by rw [List.getElem?_take, if_pos hij]; simpa using hx) ?_
                  rw [Nat.zero_add]
                  simp [meetP, hs, hs', hss, hkb]
                rw [t1]
                exact neAll_mem hne hm
            have hUn : (tr ops.size).2.next ≤ U := by rw [t1]; exact hU
            have hd0 : ∀ b e, ι b = some e → b < (tr 0).2.next ∨ U ≤ b := by rw [t0]; exact hr.dom
            refine wp_region_any hP.mixed ?_
            refine loose_core (G := G) (R := R) (B := B) (U := U) (L := L) (N := N) (K := K) tr hP hc ht hR (by rw [t0]; exact hL) hUn (ι0 := ι) (a0 := a) (w0 := { w with drawn := w.drawn + 1 }) hN ?_ hd0 _ _ _ _ ⟨by simp, ?_, rfl, rfl, ?_⟩ (by omega)
            · intro κ a' w' g1 g2 g3 g4 g5
              rw [t1] at g1 g2 g5
              rw [t0] at g5
              exact hq κ a' w' g1 g2 g3 g4 ((Step.same rfl rfl rfl rfl : Step L ι m w ι m { w with drawn := w.drawn + 1 }).trans g5)
            · intro i o ho hd
              have := hd.2
              simp [Array.getD_eq_getD_getElem?, Array.getElem?_replicate] at this
              split at this <;> simp_all
            · have hnd : ∀ i, ¬ Done (Array.replicate ops.size false) i := fun i hd => by
                have := hd.2
                simp [Array.getD_eq_getD_getElem?, Array.getElem?_replicate] at this
                split at this <;> simp_all
              have hr0 : Rel G R B U ι (tr 0).2 { w with drawn := w.drawn + 1 } := by rw [t0]; exact hr.world rfl
              refine ⟨ι, (tr 0).2, rfl, fun b j hj hcond => ?_, hr0, Step.refl' L ι (tr 0).2 _, fun t j hj hcond v hv => ?_⟩
              · exact ((ht.same tr (b := b) (p := 0) j (by omega) hj fun k _ hk hT => hnd k ((hcond k (by omega) hT).2 hk)).1).symm
              · rw [ht.nowrite tr (p := 0) (t := t) j (by omega) hj fun k x _ hk hx hxd => hnd k ((hcond k x hx hxd).2 hk)] at hv
                rw [t0] at hv
                exact hf0 t v hv
          · cases h
        · cases h

theorem evLate_ext (hc : CallOk P G R B call) {N : Nat} {K : List Nat} {ops : List Oper} {j : Nat} {fr fr' : Fr} {m m' : Mem} {e : Nat} (hm : m.ok) (hL : L ≤ m.next)
    (h : evLate P G N K call L ops j fr m = some (e, (fr', m'))) : Ext L m m' := by
  unfold evLate at h
  split at h
  split at h
  · cases h
  · rename_i fr1 m1 h1
    have e1 := evOps_ext hc _ _ _ _ _ hm hL h1
    split at h
    · cases h
    · rename_i fr2 m2 h2
      have e2 := evOps_ext hc _ _ _ _ _ e1.ok (Nat.le_trans hL e1.next) h2
      split at h
      · cases h
      · split at h
        · cases h
        · rename_i fr3 m3 h3
          have e3 := evOps_ext hc _ _ _ _ _ e2.ok (Nat.le_trans (Nat.le_trans hL e1.next) e2.next) h3
          cases h
          exact (e1.trans e2).trans e3
theorem evRegion_ext (hc : CallOk P G R B call) {N : Nat} {K : List Nat} {ops : List Oper} {draw : Bool} {fr fr' : Fr} {m m' : Mem} {e : Nat} (hm : m.ok) (hL : L ≤ m.next)
    (h : evRegion P G N K call L ops draw fr m = some (e, (fr', m'))) : Ext L m m' := by
  unfold evRegion at h
  split at h
  · exact evRegion1_ext hc hm hL h
  · split at h
    · exact evRegion1_ext hc hm hL h
    · exact evLate_ext hc hm hL h
theorem cutsGo_lt {ops : List Oper} : ∀ {l : List (Oper × Bool)} {b x : Nat}, x ∈ cutsGo ops l b → b ≤ x ∧ x < b + l.length
  | [], b, x, h => by cases h
  | (o, f) :: l, b, x, h => by
    simp only [cutsGo] at h
    have key : x ∈ cutsGo ops l (Nat.succ b) → b ≤ x ∧ x < b + ((o, f) :: l).length := fun h => by
      have := cutsGo_lt h
      rw [List.length_cons]
      omega
    split at h
    · split at h
      · exact key h
      · rcases List.mem_cons.1 h with rfl | h
        · rw [List.length_cons]; omega
        · exact key h
    · exact key h
theorem trace_app {N : Nat} {K : List Nat} {ops : List Oper} {l1 l2 : List (Oper × Bool)} {tr1 tr2 : Nat → Fr × Mem} (h0 : tr2 0 = tr1 l1.length)
    (s1 : ∀ i o f, l1[i]? = some (o, f) → Stp P G N K call ops L o f (tr1 i) (tr1 (i + 1))) (s2 : ∀ i o f, l2[i]? = some (o, f) → Stp P G N K call ops L o f (tr2 i) (tr2 (i + 1))) :
    ∃ tr : Nat → Fr × Mem, (∀ i, i ≤ l1.length → tr i = tr1 i) ∧ (∀ i, tr (l1.length + i) = tr2 i) ∧ ∀ i o f, (l1 ++ l2)[i]? = some (o, f) → Stp P G N K call ops L o f (tr i) (tr (i + 1)) := by
  have a1 : ∀ i, i ≤ l1.length → (fun i => if i ≤ l1.length then tr1 i else tr2 (i - l1.length)) i = tr1 i := fun i hi => if_pos hi
  have a2 : ∀ i, (fun i => if i ≤ l1.length then tr1 i else tr2 (i - l1.length)) (l1.length + i) = tr2 i := fun i => by
    by_cases hi : i = 0
    · subst hi; simp [h0]
    · have : ¬ (l1.length + i ≤ l1.length) := by omega
      simp only [if_neg this]
      rw [Nat.add_sub_cancel_left]
  refine ⟨fun i => if i ≤ l1.length then tr1 i else tr2 (i - l1.length), a1, a2, fun i o f hi => ?_⟩
  by_cases hlt : i < l1.length
  · rw [List.getElem?_append_left hlt] at hi
    rw [a1 i (by omega), a1 (i + 1) (by omega)]
    exact s1 i o f hi
  · obtain ⟨q, rfl⟩ : ∃ q, i = l1.length + q := ⟨i - l1.length, by omega⟩
    rw [List.getElem?_append_right (by omega), Nat.add_sub_cancel_left] at hi
    rw [a2 q, show l1.length + q + 1 = l1.length + (q + 1) by omega, a2 (q + 1)]
    exact s2 q o f hi
theorem nowrite0 {N : Nat} {K : List Nat} {ops : List Oper} {fl : List (Oper × Bool)} {tr : Nat → Fr × Mem} (hfl : fl.map (·.1) = ops) (hst : ∀ i o f, fl[i]? = some (o, f) → Stp P G N K call ops L o f (tr i) (tr (i + 1))) {t p : Nat} :
    ∀ q, p ≤ q → q ≤ ops.length → (∀ k x, p ≤ k → k < q → ops[k]? = some x → x.dst ≠ some t) → fget K (tr q).1 t = fget K (tr p).1 t
  | 0, hpq, hq, _ => by obtain rfl : p = 0 := by omega
                        rfl
  | q + 1, hpq, hq, hw => by
    by_cases he : p = q + 1
    · subst he; rfl
    · rw [← nowrite0 hfl hst (t := t) (p := p) q (by omega) (by omega) fun k x h1 h2 => hw k x h1 (by omega)]
      obtain ⟨o, ho⟩ : ∃ o, ops[q]? = some o := ⟨ops[q]'(by omega), by simp [show q < ops.length by omega]⟩
      obtain ⟨f, hf⟩ : ∃ f, fl[q]? = some (o, f) := by
        have hl : fl[q]?.map (·.1) = some o := by rw [← List.getElem?_map, hfl]; exact ho
        obtain ⟨⟨o', f⟩, h1, rfl⟩ := Option.map_eq_some_iff.1 hl
        exact ⟨f, h1⟩
      have hne := hw q o (by omega) (by omega) ho
      have key : ∀ v, (tr (q + 1)).1 = putA K (tr q).1 o.dst v → fget K (tr (q + 1)).1 t = fget K (tr q).1 t := fun v hv => by
        rw [hv]
        unfold putA
        split
        · rename_i d hd; exact fget_fset_ne fun e => hne (by rw [hd, e])
        · rfl
      obtain ⟨_, h1 | ⟨v, _, _, h1⟩⟩ := hst q o f hf
      · exact key _ h1.2.2
      · exact key _ h1
theorem freeL_load {o : Oper} {a : Operand} (h : freeL o = some a) : ∃ t, o.op = .load t a := by
  unfold freeL at h
  split at h
  · cases h
  · split at h
    · rename_i t x hop
      cases h
      exact ⟨t, hop⟩
    · cases h
theorem evLate_ok (hP : Prog P) (hc : CallOk P G R B call) {N : Nat} {K : List Nat} {ops : Array Oper} {id j : Nat} (hR : R ≤ L) {Q : Exit → Act → World → Prop} {fr fr' : Fr} {m m' : Mem} {e : Nat} {ι : Inj} {a : Act} {w : World} (hcut : lateCut ops.toList = some j)
    (h : evLate P G N K call L ops.toList j fr m = some (e, (fr', m'))) (hr : Rel G R B U ι m w) (hL : L ≤ m.next) (hU : m'.next ≤ U) (hf : FR ι (fget K fr) a) (hN : N ≤ a.tmps.size)
    (hq : ∀ κ a' w', Rel G R B U κ m' w' → FR κ (fget K fr') a' → a'.tmps.size = a.tmps.size → a'.defers = a.defers → Step L ι m w κ m' w' → Q (exOf e) a' w') : (Code.region id ops true).wp P Q a w := by
  have hf0 : FR ι (fget K ⟨fr.ps, []⟩) a := fun t v hv => by
    refine hf t v ?_
    unfold fget at hv ⊢
    split at hv
    · exact hv
    · cases hv
  unfold lateCut at hcut
  split at hcut
  rotate_left
  · cases hcut
  rename_i j' hcuts
  split at hcut
  rotate_left
  · cases hcut
  rename_i hall
  cases hcut
  rw [Bool.and_eq_true] at hall
  obtain ⟨hrows, hstab⟩ := hall
  have hlen : (lflags ops.toList).length = ops.size := by
    have := congrArg List.length (lflags_fst ops.toList)
    simpa using this
  have hj : j < ops.size := by
    have := (cutsGo_lt (ops := ops.toList) (l := lflags ops.toList) (b := 0) (x := j) (by rw [hcuts]; exact List.mem_cons_self ..)).2
    omega
  unfold evLate at h
  split at h
  rename_i ps ts
  split at h
  · cases h
  rename_i fr1 m1 e1
  split at h
  · cases h
  rename_i fr2 m2 e2
  split at h
  · cases h
  rename_i hsm
  split at h
  · cases h
  rename_i fr3 m3 e3
  simp only [Option.some.injEq, Prod.mk.injEq] at h
  obtain ⟨rfl, rfl, rfl⟩ := h
  obtain ⟨u1, a0, a1, a2⟩ := evOps_trace _ _ _ _ _ e1
  obtain ⟨u2, b0, b1, b2⟩ := evOps_trace _ _ _ _ _ e2
  obtain ⟨u3, c0, c1, c2⟩ := evOps_trace _ _ _ _ _ e3
  have l1 : ((lflags ops.toList).take j).length = j := by rw [List.length_take]; omega
  have l2 : (((lflags ops.toList).drop j).take 1).length = 1 := by rw [List.length_take, List.length_drop]; omega
  have l3 : ((lflags ops.toList).drop (Nat.succ j)).length = ops.size - (j + 1) := by rw [List.length_drop, hlen]
  rw [l1] at a1
  rw [l2] at b1
  rw [l3] at c1
  obtain ⟨v1, d0, d1, d2⟩ := trace_app (l1 := ((lflags ops.toList).drop j).take 1) (l2 := (lflags ops.toList).drop (Nat.succ j)) (tr1 := u2) (tr2 := u3) (by rw [l2, b1, c0]) b2 c2
  rw [l2] at d0 d1
  obtain ⟨tr, t0, t1, t2⟩ := trace_app (l1 := (lflags ops.toList).take j) (l2 := ((lflags ops.toList).drop j).take 1 ++ (lflags ops.toList).drop (Nat.succ j)) (tr1 := u1) (tr2 := v1) (by rw [l1, a1, d0 0 (by omega), b0]) a2 d2
  rw [l1] at t0 t1
  have hcat : (lflags ops.toList).take j ++ (((lflags ops.toList).drop j).take 1 ++ (lflags ops.toList).drop (Nat.succ j)) = lflags ops.toList := by
    rw [show (lflags ops.toList).drop (Nat.succ j) = ((lflags ops.toList).drop j).drop 1 by rw [List.drop_drop], List.take_append_drop, List.take_append_drop]
  rw [hcat] at t2
  have T0 : tr 0 = (⟨ps, []⟩, m) := by rw [t0 0 (by omega), a0]
  have Tj : tr j = (fr1, m1) := by rw [t0 j (Nat.le_refl _), a1]
  have Tj1 : tr (j + 1) = (fr2, m2) := by rw [t1 1, d0 1 (Nat.le_refl _), b1]
  have Te : tr ops.size = (fr3, m3) := by rw [show ops.size = j + (1 + (ops.size - (j + 1))) by omega, t1, d1, c1]
  have rows := fun i o f (hi : (lflags ops.toList)[i]? = some (o, f)) => allTwo_iff hrows i o f hi
  have hbit : ∀ (i k : Nat) (x o : Oper) (f g : Bool), i < k → (lflags ops.toList)[i]? = some (x, f) → (lflags ops.toList)[k]? = some (o, g) →
      (clash ops.toList x o || (((g && !(Nat.beq k j && isFree x)) || f) && (!(pureKind x.op) && !(pureKind o.op)))) = true → bit (masks ops.toList []) k i = true := fun i k x o f g hik hx ho hcond => by
    obtain ⟨⟨q, hq1, hrw⟩, _⟩ := rows k o g ho
    rw [Nat.zero_add] at hq1 hrw
    have := rowTwo_iff hrw i x f (by rw [List.getElem?_take, if_pos hik]; exact hx) hcond
    rw [Nat.zero_add] at this
    simp [bit, hq1, this]
  have hG : GFacts G K ops tr (lflags ops.toList) := by
    refine ⟨lflags_fst _, fun i o ho e he hb => ?_, fun i k x f o g hik hx ho hcl => hbit i k x o f g hik hx ho (by rw [hcl]; rfl), fun i k x f o g hik hx ho hfg hp hp' => ?_⟩
    · have hl : (lflags ops.toList)[i]?.map (·.1) = some o := by rw [← List.getElem?_map, lflags_fst]; exact ho
      obtain ⟨⟨o', f⟩, h1, rfl⟩ := Option.map_eq_some_iff.1 hl
      have := (rows i o' f h1).2
      rw [Nat.zero_add] at this
      exact edgesOk_iff this e (by simpa using he) hb
    · by_cases hfree : (Nat.beq k j && isFree x) = true ∧ f = false
      · obtain ⟨hkf, rfl⟩ := hfree
        rw [Bool.and_eq_true] at hkf
        obtain ⟨hkj, hfr⟩ := hkf
        obtain rfl := Nat.eq_of_beq_eq_true hkj
        cases hb : bit (masks ops.toList []) k i with
        | true => exact .inl rfl
        | false =>
          obtain ⟨ad, had⟩ : ∃ ad, freeL x = some ad := by
            unfold isFree at hfr
            split at hfr
            · exact ⟨_, by assumption⟩
            · cases hfr
          obtain ⟨t, hop⟩ := freeL_load had
          have hxo : ops.toList[i]? = some x := by
            have hl : (lflags ops.toList)[i]?.map (·.1) = some x := by rw [hx]; rfl
            rwa [← List.getElem?_map, lflags_fst] at hl
          refine .inr ⟨rfl, ⟨t, ad, hop⟩, fun b hLB => ?_⟩
          obtain ⟨⟨q, hq1, _⟩, _⟩ := rows k o g ho
          rw [Nat.zero_add] at hq1
          have hmem : ad ∈ lateAddrs ops.toList k := by
            unfold lateAddrs
            have h9 : lget (masks ops.toList []) k = some q := by rw [lget_eq]; exact hq1
            rw [h9]
            refine lateRow_mem (i := i) had (by rw [List.getElem?_take, if_pos hik]; exact hxo) ?_
            rw [Nat.zero_add]
            have := hb
            unfold bit at this
            rw [h9] at this
            exact this
          obtain ⟨b', off', hev, hrd⟩ := smAll_mem hsm hmem
          obtain ⟨o', t', x', off, ho', hop', hev'⟩ := hLB
          have hoo : o' = x := by
            have : ops[i]? = some x := by simpa using hxo
            rw [this] at ho'
            cases ho'
            rfl
          subst hoo
          rw [hop] at hop'
          cases hop'
          have hsame : aeval G (fget K (tr k).1) ad = aeval G (fget K (tr i).1) ad := by
            cases ad with
            | tmp tt =>
              have := nowrite0 (lflags_fst ops.toList) t2 (t := tt) (p := i) k (by omega) (by simp; omega) fun q y h1 h2 hy => stab2_get (i := i) (j := q) hstab hxo had h1 hy
              simp only [aeval, this]
            | const _ => rfl
            | global _ => rfl
            | func _ => rfl
          rw [Tj] at hsame
          rw [hsame, hev'] at hev
          cases hev
          rw [Tj, Tj1]
          exact hrd.symm
      · refine .inl (hbit i k x o f g hik hx ho ?_)
        have hcond : ((g && !(Nat.beq k j && isFree x)) || f) = true := by
          cases f with
          | true => simp
          | false =>
            rcases hfg with h | h
            · cases h
            · rw [h]
              cases hz : (Nat.beq k j && isFree x) with
              | true => exact absurd ⟨hz, rfl⟩ hfree
              | false => rfl
        rw [hcond, hp, hp']
        simp
  have ht : Txt P G R B L call ops N K tr (lflags ops.toList) := ⟨hG, t2, by rw [T0]; exact hr.ok, hc, by rw [T0]; exact hL⟩
  exact txt_wp hP hc tr ht hR T0 Te hr hU hf0 hN hq
theorem evRegion_ok (hP : Prog P) (hc : CallOk P G R B call) {N : Nat} {K : List Nat} {ops : Array Oper} {id : Nat} {draw : Bool} (hR : R ≤ L) {Q : Exit → Act → World → Prop} {fr fr' : Fr} {m m' : Mem} {e : Nat} {ι : Inj} {a : Act} {w : World}
    (h : evRegion P G N K call L ops.toList draw fr m = some (e, (fr', m'))) (hr : Rel G R B U ι m w) (hL : L ≤ m.next) (hU : m'.next ≤ U) (hf : FR ι (fget K fr) a) (hN : N ≤ a.tmps.size)
    (hq : ∀ κ a' w', Rel G R B U κ m' w' → FR κ (fget K fr') a' → a'.tmps.size = a.tmps.size → a'.defers = a.defers → Step L ι m w κ m' w' → Q (exOf e) a' w') : (Code.region id ops draw).wp P Q a w := by
  unfold evRegion at h
  split at h
  · exact evRegion1_ok hP hc hR h hr hL hU hf hN hq
  · split at h
    · exact evRegion1_ok hP hc hR h hr hL hU hf hN hq
    · rename_i hcut
      exact evLate_ok hP hc hR hcut h hr hL hU hf hN hq

theorem loopN_ext {body : Fr → Mem → Out} (hb : ∀ fr m e fr' m', m.ok → L ≤ m.next → body fr m = some (e, (fr', m')) → Ext L m m') {e : Nat} {fr' : Fr} {m' : Mem} : ∀ n fr m, m.ok → L ≤ m.next → loopN body n fr m = some (e, (fr', m')) → Ext L m m'
  | 0, fr, m, hm, hL, h => by cases h
  | n + 1, fr, m, hm, hL, h => by
    simp only [loopN] at h
    split at h
    · rename_i e1 fr1 m1 h1
      have g1 := hb _ _ _ _ _ hm hL h1
      split at h
      · exact g1.trans (loopN_ext hb n _ _ g1.ok (Nat.le_trans hL g1.next) h)
      · cases h; exact g1
    · cases h

theorem ev_ext (hc : CallOk P G R B call) {N : Nat} {K : List Nat} {lf : Nat} : ∀ (c : Code) (fr : Fr) (m : Mem) (e : Nat) (fr' : Fr) (m' : Mem), m.ok → L ≤ m.next → ev P G N K call lf L c fr m = some (e, (fr', m')) → Ext L m m' := by
  intro c
  induction c with
  | skip => intro fr m e fr' m' hm hL h; cases h; exact Ext.refl hm
  | region id ops draw => intro fr m e fr' m' hm hL h; exact evRegion_ext hc hm hL h
  | seq a b iha ihb =>
    intro fr m e fr' m' hm hL h
    simp only [ev] at h
    split at h
    · rename_i e1 fr1 m1 h1
      have g1 := iha _ _ _ _ _ hm hL h1
      split at h
      · exact g1.trans (ihb _ _ _ _ _ g1.ok (Nat.le_trans hL g1.next) h)
      · cases h; exact g1
    · cases h
  | cond c a b iha ihb =>
    intro fr m e fr' m' hm hL h
    simp only [ev] at h
    split at h
    · exact iha _ _ _ _ _ hm hL h
    · exact ihb _ _ _ _ _ hm hL h
    · cases h
  | block id body ih =>
    intro fr m e fr' m' hm hL h
    simp only [ev] at h
    split at h
    · rename_i e1 fr1 m1 h1
      have g1 := ih _ _ _ _ _ hm hL h1
      split at h <;> (cases h; exact g1)
    · cases h
  | loop body ih =>
    intro fr m e fr' m' hm hL h
    simp only [ev] at h
    exact loopN_ext (fun fr m e fr' m' => ih fr m e fr' m') lf fr m hm hL h
  | exit id => intro fr m e fr' m' hm hL h; cases h; exact Ext.refl hm
  | ret => intro fr m e fr' m' hm hL h; cases h; exact Ext.refl hm
  | label l => intro fr m e fr' m' hm hL h; cases h; exact Ext.refl hm
  | goto l => intro fr m e fr' m' hm hL h; cases h; exact Ext.refl hm
  | _ => intros; rename_i h; cases h

theorem exOf_succ {k : Nat} : exOf (Nat.succ k) ≠ .normal := by
  cases k with
  | zero => simp [exOf]
  | succ k => simp only [exOf]; split <;> simp

theorem ev_ok (hP : Prog P) (hc : CallOk P G R B call) {N : Nat} {K : List Nat} {lf : Nat} (hR : R ≤ L) : ∀ (c : Code) (Q : Exit → Act → World → Prop) (fr : Fr) (m : Mem) (e : Nat) (fr' : Fr) (m' : Mem) (ι : Inj) (a : Act) (w : World),
    ev P G N K call lf L c fr m = some (e, (fr', m')) → Rel G R B U ι m w → L ≤ m.next → m'.next ≤ U → FR ι (fget K fr) a → N ≤ a.tmps.size →
    (∀ κ a' w', Rel G R B U κ m' w' → FR κ (fget K fr') a' → a'.tmps.size = a.tmps.size → a'.defers = a.defers → Step L ι m w κ m' w' → Q (exOf e) a' w') → c.wp P Q a w := by
  intro c
  induction c with
  | skip => intro Q fr m e fr' m' ι a w h hr hL hU hf hN hq; cases h; exact wp_skip (hq ι a w hr hf rfl rfl (Step.refl' _ _ _ _))
  | region id ops draw => intro Q fr m e fr' m' ι a w h hr hL hU hf hN hq; exact evRegion_ok hP hc hR h hr hL hU hf hN hq
  | seq x y ihx ihy =>
    intro Q fr m e fr' m' ι a w h hr hL hU hf hN hq
    simp only [ev] at h
    split at h
    · rename_i e1 fr1 m1 h1
      have g1 := ev_ext hc x _ _ _ _ _ hr.ok hL h1
      have hL1 := Nat.le_trans hL g1.next
      split at h
      · have g2 := ev_ext hc y _ _ _ _ _ g1.ok hL1 h
        refine wp_seq (ihx _ fr m 0 fr1 m1 ι a w h1 hr hL (Nat.le_trans g2.next hU) hf hN fun κ a' w' k1 k2 k3 k4 k5 => ?_)
        exact ihy Q fr1 m1 e fr' m' κ a' w' h k1 hL1 hU k2 (by omega) fun κ' a'' w'' j1 j2 j3 j4 j5 => hq κ' a'' w'' j1 j2 (by omega) (j4.trans k4) (k5.trans j5)
      · rename_i k
        simp only [Option.some.injEq, Prod.mk.injEq] at h
        obtain ⟨rfl, rfl, rfl⟩ := h
        refine wp_seq (ihx _ fr m (Nat.succ k) fr1 m1 ι a w h1 hr hL hU hf hN fun κ a' w' k1 k2 k3 k4 k5 => ?_)
        have := hq κ a' w' k1 k2 k3 k4 k5
        have hne := @exOf_succ k
        generalize exOf (Nat.succ k) = x at this hne
        cases x <;> first | exact absurd rfl hne | exact this
    · cases h
  | cond c x y ihx ihy =>
    intro Q fr m e fr' m' ι a w h hr hL hU hf hN hq
    simp only [ev] at h
    have hcv : ∀ b, aeval G (fget K fr) c = some (.bool b) → a.eval c = .bool b := fun b hb => by
      have := aeval_ok hr.gl hf hb
      generalize a.eval c = z at this
      cases this; rfl
    split at h
    · rename_i hb
      exact wp_cond (t := true) (hcv _ hb) (ihx Q fr m e fr' m' ι a w h hr hL hU hf hN hq)
    · rename_i hb
      exact wp_cond (t := false) (hcv _ hb) (ihy Q fr m e fr' m' ι a w h hr hL hU hf hN hq)
    · cases h
  | block id body ih =>
    intro Q fr m e fr' m' ι a w h hr hL hU hf hN hq
    simp only [ev] at h
    split at h
    · rename_i e1 fr1 m1 h1
      refine wp_block ?_
      split at h
      · rename_i he
        have he' : e1 = 2 * id + 2 := Nat.eq_of_beq_eq_true he
        simp only [Option.some.injEq, Prod.mk.injEq] at h
        obtain ⟨rfl, rfl, rfl⟩ := h
        refine ih _ fr m e1 fr1 m1 ι a w h1 hr hL hU hf hN fun κ a' w' k1 k2 k3 k4 k5 => ?_
        have : Q .normal a' w' := hq κ a' w' k1 k2 k3 k4 k5
        have hex : exOf e1 = .exit id := by
          rw [he']
          show (if 2 * id % 2 = 0 then Exit.exit (2 * id / 2) else _) = _
          rw [if_pos (by omega)]
          congr 1; omega
        rw [hex]
        simp only [Exit.inBlock, if_true]
        exact this
      · rename_i he
        have he' : e1 ≠ 2 * id + 2 := Nat.ne_of_beq_eq_false he
        simp only [Option.some.injEq, Prod.mk.injEq] at h
        obtain ⟨rfl, rfl, rfl⟩ := h
        refine ih _ fr m e1 fr1 m1 ι a w h1 hr hL hU hf hN fun κ a' w' k1 k2 k3 k4 k5 => ?_
        have := hq κ a' w' k1 k2 k3 k4 k5
        have hne : ∀ id', exOf e1 = .exit id' → id' ≠ id := fun id' hx => by
          intro hid
          subst hid
          match e1, hx, he' with
          | 0, hx, _ => cases hx
          | 1, hx, _ => cases hx
          | k + 2, hx, he' =>
            simp only [exOf] at hx
            split at hx
            · cases hx; omega
            · cases hx
        generalize exOf e1 = x at this hne
        cases x with
        | exit id' =>
          simp only [Exit.inBlock, if_neg (hne id' rfl)]
          exact this
        | _ => exact this
    · cases h
  | loop body ih =>
    intro Q fr m e fr' m' ι a w h hr hL hU hf hN hq
    simp only [ev] at h
    have key : ∀ n fr m ι a w, loopN (ev P G N K call lf L body) n fr m = some (e, (fr', m')) → Rel G R B U ι m w → L ≤ m.next → FR ι (fget K fr) a → N ≤ a.tmps.size →
        (∀ κ a' w', Rel G R B U κ m' w' → FR κ (fget K fr') a' → a'.tmps.size = a.tmps.size → a'.defers = a.defers → Step L ι m w κ m' w' → Q (exOf e) a' w') → Code.rounds P body Q n a w := by
      intro n
      induction n with
      | zero => intro fr m ι a w h; cases h
      | succ n ihn =>
        intro fr m ι a w h hr hL hf hN hq
        simp only [loopN] at h
        rw [rounds_succ]
        split at h
        · rename_i e1 fr1 m1 h1
          have g1 := ev_ext hc body _ _ _ _ _ hr.ok hL h1
          have hL1 := Nat.le_trans hL g1.next
          split at h
          · have g2 : Ext L m1 m' := loopN_ext (fun fr m e fr' m' hm hl hb => ev_ext hc body fr m e fr' m' hm hl hb) n fr1 m1 g1.ok hL1 h
            refine ih _ fr m 0 fr1 m1 ι a w h1 hr hL (Nat.le_trans g2.next hU) hf hN fun κ a' w' k1 k2 k3 k4 k5 => ?_
            exact ihn fr1 m1 κ a' w' h k1 hL1 k2 (by omega) fun κ' a'' w'' j1 j2 j3 j4 j5 => hq κ' a'' w'' j1 j2 (by omega) (j4.trans k4) (k5.trans j5)
          · rename_i k
            simp only [Option.some.injEq, Prod.mk.injEq] at h
            obtain ⟨rfl, rfl, rfl⟩ := h
            refine ih _ fr m (Nat.succ k) fr1 m1 ι a w h1 hr hL hU hf hN fun κ a' w' k1 k2 k3 k4 k5 => ?_
            have := hq κ a' w' k1 k2 k3 k4 k5
            have hne := @exOf_succ k
            generalize exOf (Nat.succ k) = x at this hne
            cases x <;> first | exact absurd rfl hne | exact this
        · cases h
    exact wp_loop_rounds lf (key lf fr m ι a w h hr hL hf hN hq)
  | exit id =>
    intro Q fr m e fr' m' ι a w h hr hL hU hf hN hq
    simp only [ev, Option.some.injEq, Prod.mk.injEq] at h
    obtain ⟨rfl, rfl, rfl⟩ := h
    have := hq ι a w hr hf rfl rfl (Step.refl' _ _ _ _)
    have hex : exOf (Nat.succ (Nat.succ (Nat.mul 2 id))) = .exit id := by
      show (if 2 * id % 2 = 0 then Exit.exit (2 * id / 2) else _) = _
      rw [if_pos (by omega)]
      congr 1; omega
    rw [hex] at this
    exact wp_exit this
  | ret => intro Q fr m e fr' m' ι a w h hr hL hU hf hN hq; cases h; exact wp_ret (hq ι a w hr hf rfl rfl (Step.refl' _ _ _ _))
  | label l => intro Q fr m e fr' m' ι a w h hr hL hU hf hN hq; cases h; exact wp_label (hq ι a w hr hf rfl rfl (Step.refl' _ _ _ _))
  | goto l =>
    intro Q fr m e fr' m' ι a w h hr hL hU hf hN hq
    simp only [ev, Option.some.injEq, Prod.mk.injEq] at h
    obtain ⟨rfl, rfl, rfl⟩ := h
    have := hq ι a w hr hf rfl rfl (Step.refl' _ _ _ _)
    have hex : exOf (Nat.succ (Nat.succ (Nat.succ (Nat.mul 2 l)))) = .goto l := by
      show (if (2 * l + 1) % 2 = 0 then Exit.exit ((2 * l + 1) / 2) else .goto ((2 * l + 1) / 2)) = _
      rw [if_neg (by omega)]
      congr 1; omega
    rw [hex] at this
    exact wp_goto this
  | _ => intros; rename_i h _ _ _ _ _ _; cases h

/-- So many jumps within a scope. -/
def scopeWp (P : Program) (c : Code) (Q : Exit → Act → World → Prop) : Nat → Code → Act → World → Prop
  | 0, _, _, _ => False
  | n + 1, d, a, w => d.wp P (fun e a w => match e with
    | .goto l => ∃ rest, findLabel c l = some rest ∧ scopeWp P c Q n rest a w
    | e => Q e a w) a w
theorem wp_scope_n {c : Code} {Q : Exit → Act → World → Prop} {n : Nat} {a : Act} {w : World} (h : scopeWp P c Q n c a w) : (Code.scope c).wp P Q a w := by
  intro b k cs
  have key : ∀ n d a w, scopeWp P c Q n d a w → ∃ e a' w', Q e a' w' ∧ Arrives P (lone (b.at a (.code d :: .inScope c :: k)) cs w) b k cs e a' w' := by
    intro n
    induction n with
    | zero => intro d a w h; exact h.elim
    | succ n ih =>
      intro d a w h
      obtain ⟨e, a₁, w₁, hq, harr⟩ := h b (.inScope c :: k) cs
      cases e with
      | normal => exact ⟨.normal, a₁, w₁, hq, Steps.trans harr (.one step_inScope)⟩
      | exit id => exact ⟨.exit id, a₁, w₁, hq, fun k' hk => harr k' (by simp [exitTo, hk])⟩
      | goto l =>
        obtain ⟨rest, hf, hJ⟩ := hq
        have hg : gotoIn l (.inScope c :: k) = some (.code rest :: .inScope c :: k) := by simp [gotoIn, hf]
        obtain ⟨e₂, a₂, w₂, hq₂, harr₂⟩ := ih _ a₁ w₁ hJ
        exact ⟨e₂, a₂, w₂, hq₂, .of_steps (harr _ hg) harr₂⟩
      | ret => exact ⟨_, a₁, w₁, hq, harr⟩
      | panic ch => exact ⟨_, a₁, w₁, hq, harr⟩
      | outgrown => exact ⟨_, a₁, w₁, hq, harr⟩
  obtain ⟨e, a₁, w₁, hq, harr⟩ := key n c a w h
  exact ⟨e, a₁, w₁, hq, .of_steps (.one step_scope) harr⟩

theorem scopeN_ext (hc : CallOk P G R B call) {N : Nat} {K : List Nat} {lf : Nat} {c : Code} {e : Nat} {fr' : Fr} {m' : Mem} : ∀ n d fr m, m.ok → L ≤ m.next → scopeN P G N K call lf L c n d fr m = some (e, (fr', m')) → Ext L m m'
  | 0, d, fr, m, hm, hL, h => by cases h
  | n + 1, d, fr, m, hm, hL, h => by
    simp only [scopeN] at h
    split at h
    · cases h
    · rename_i e1 fr1 m1 h1
      have g1 := ev_ext hc d _ _ _ _ _ hm hL h1
      split at h
      · cases h; exact g1
      · split at h
        · cases h
        · exact g1.trans (scopeN_ext hc n _ _ _ g1.ok (Nat.le_trans hL g1.next) h)
theorem evB_ext (hc : CallOk P G R B call) {N : Nat} {K : List Nat} {lf : Nat} : ∀ (c : Code) (fr : Fr) (m : Mem) (e : Nat) (fr' : Fr) (m' : Mem), m.ok → L ≤ m.next → evB P G N K call lf L c fr m = some (e, (fr', m')) → Ext L m m' := by
  intro c
  induction c with
  | scope c _ => intro fr m e fr' m' hm hL h; exact scopeN_ext hc _ _ _ _ hm hL h
  | seq a b _ ihb =>
    intro fr m e fr' m' hm hL h
    simp only [evB] at h
    split at h
    · rename_i e1 fr1 m1 h1
      have g1 := ev_ext hc a _ _ _ _ _ hm hL h1
      split at h
      · exact g1.trans (ihb _ _ _ _ _ g1.ok (Nat.le_trans hL g1.next) h)
      · cases h; exact g1
    · cases h
  | _ => intro fr m e fr' m' hm hL h; exact ev_ext hc _ _ _ _ _ _ hm hL h

theorem gotoOf_some {e l : Nat} (h : gotoOf e = some l) : exOf e = .goto l := by
  unfold gotoOf at h
  split at h
  · rename_i k
    split at h
    · cases h
    · rename_i hk
      cases h
      simp only [exOf, if_neg hk]
  · cases h
theorem gotoOf_none {e : Nat} (h : gotoOf e = none) (l : Nat) : exOf e ≠ .goto l := by
  match e, h with
  | 0, _ => simp [exOf]
  | 1, _ => simp [exOf]
  | k + 2, h =>
    simp only [gotoOf] at h
    split at h
    · rename_i hk; simp [exOf, if_pos hk]
    · cases h

theorem scopeN_ok (hP : Prog P) (hc : CallOk P G R B call) {N : Nat} {K : List Nat} {lf : Nat} (hR : R ≤ L) {c : Code} {Q : Exit → Act → World → Prop} {e : Nat} {fr' : Fr} {m' : Mem} : ∀ n (d : Code) (fr : Fr) (m : Mem) (ι : Inj) (a : Act) (w : World),
    scopeN P G N K call lf L c n d fr m = some (e, (fr', m')) → Rel G R B U ι m w → L ≤ m.next → m'.next ≤ U → FR ι (fget K fr) a → N ≤ a.tmps.size →
    (∀ κ a' w', Rel G R B U κ m' w' → FR κ (fget K fr') a' → a'.tmps.size = a.tmps.size → a'.defers = a.defers → Step L ι m w κ m' w' → Q (exOf e) a' w') → scopeWp P c Q n d a w := by
  intro n
  induction n with
  | zero => intro d fr m ι a w h; cases h
  | succ n ih =>
    intro d fr m ι a w h hr hL hU hf hN hq
    simp only [scopeN] at h
    show d.wp P _ a w
    split at h
    · cases h
    · rename_i e1 fr1 m1 h1
      have g1 := ev_ext hc d _ _ _ _ _ hr.ok hL h1
      have hL1 := Nat.le_trans hL g1.next
      split at h
      · rename_i hg
        simp only [Option.some.injEq, Prod.mk.injEq] at h
        obtain ⟨rfl, rfl, rfl⟩ := h
        refine ev_ok hP hc hR d _ fr m e1 fr1 m1 ι a w h1 hr hL hU hf hN fun κ a' w' k1 k2 k3 k4 k5 => ?_
        have := hq κ a' w' k1 k2 k3 k4 k5
        have hne := gotoOf_none hg
        generalize exOf e1 = x at this hne
        cases x <;> first | exact absurd rfl (hne _) | exact this
      · rename_i l hg
        split at h
        · cases h
        · rename_i rest hfl
          have g2 := scopeN_ext hc n _ _ _ g1.ok hL1 h
          refine ev_ok hP hc hR d _ fr m e1 fr1 m1 ι a w h1 hr hL (Nat.le_trans g2.next hU) hf hN fun κ a' w' k1 k2 k3 k4 k5 => ?_
          rw [gotoOf_some hg]
          exact ⟨rest, hfl, ih rest fr1 m1 κ a' w' h k1 hL1 hU k2 (by omega) fun κ' a'' w'' j1 j2 j3 j4 j5 => hq κ' a'' w'' j1 j2 (by omega) (j4.trans k4) (k5.trans j5)⟩
theorem evB_ok (hP : Prog P) (hc : CallOk P G R B call) {N : Nat} {K : List Nat} {lf : Nat} (hR : R ≤ L) : ∀ (c : Code) (Q : Exit → Act → World → Prop) (fr : Fr) (m : Mem) (e : Nat) (fr' : Fr) (m' : Mem) (ι : Inj) (a : Act) (w : World),
    evB P G N K call lf L c fr m = some (e, (fr', m')) → Rel G R B U ι m w → L ≤ m.next → m'.next ≤ U → FR ι (fget K fr) a → N ≤ a.tmps.size →
    (∀ κ a' w', Rel G R B U κ m' w' → FR κ (fget K fr') a' → a'.tmps.size = a.tmps.size → a'.defers = a.defers → Step L ι m w κ m' w' → Q (exOf e) a' w') → c.wp P Q a w := by
  intro c
  induction c with
  | scope c _ => intro Q fr m e fr' m' ι a w h hr hL hU hf hN hq; exact wp_scope_n (scopeN_ok hP hc hR _ c fr m ι a w h hr hL hU hf hN hq)
  | seq x y _ ihy =>
    intro Q fr m e fr' m' ι a w h hr hL hU hf hN hq
    simp only [evB] at h
    split at h
    · rename_i e1 fr1 m1 h1
      have g1 := ev_ext hc x _ _ _ _ _ hr.ok hL h1
      have hL1 := Nat.le_trans hL g1.next
      split at h
      · have g2 := evB_ext hc y _ _ _ _ _ g1.ok hL1 h
        refine wp_seq (ev_ok hP hc hR x _ fr m 0 fr1 m1 ι a w h1 hr hL (Nat.le_trans g2.next hU) hf hN fun κ a' w' k1 k2 k3 k4 k5 => ?_)
        exact ihy Q fr1 m1 e fr' m' κ a' w' h k1 hL1 hU k2 (by omega) fun κ' a'' w'' j1 j2 j3 j4 j5 => hq κ' a'' w'' j1 j2 (by omega) (j4.trans k4) (k5.trans j5)
      · rename_i k
        simp only [Option.some.injEq, Prod.mk.injEq] at h
        obtain ⟨rfl, rfl, rfl⟩ := h
        refine wp_seq (ev_ok hP hc hR x _ fr m (Nat.succ k) fr1 m1 ι a w h1 hr hL hU hf hN fun κ a' w' k1 k2 k3 k4 k5 => ?_)
        have := hq κ a' w' k1 k2 k3 k4 k5
        have hne := @exOf_succ k
        generalize exOf (Nat.succ k) = x at this hne
        cases x <;> first | exact absurd rfl hne | exact this
    · cases h
  | _ => intro Q fr m e fr' m' ι a w h hr hL hU hf hN hq; exact ev_ok hP hc hR _ Q fr m e fr' m' ι a w h hr hL hU hf hN hq
end
end Go.Vit

/- Calls to any depth are sound; a whole run. -/
namespace Go.Vit
open Go

section
variable {P : Program} {G R U L : Nat} {B : World} {call : CallT} {ι : Inj} {m : Mem} {w : World}

def resOne (tmps : Array Value) (r : ResultVar) : Sem Value := match r with
  | .tmp t => pure (tmps.getD t Go.undef)
  | .cell x t => do loadVar t (← asAddr (tmps.getD x Go.undef))
theorem resA_ok (h : Rel G R B U ι m w) {K : List Nat} {fr : Fr} {a : Act} (hf : FR ι (fget K fr) a) : ∀ (l : List ResultVar) (vs : List Value), resA P K fr m l = some vs →
    ∃ us, VL ι vs us ∧ (l.mapM (resOne a.tmps)).run P w = .ok us w
  | [], vs, hr => by cases hr; exact ⟨[], VL.nil ι, rfl⟩
  | r :: l, vs, hr => by
    simp only [resA] at hr
    split at hr
    · rename_i v hv
      split at hr
      · rename_i vs' hvs
        cases hr
        obtain ⟨us, h1, h2⟩ := resA_ok h hf l vs' hvs
        cases r with
        | tmp t =>
          exact ⟨a.tmps.getD t Go.undef :: us, VL.cons (hf t v hv) h1, by simp only [resOne, List.mapM_cons, Sem.run_bind, Sem.run_pure, Result.andThen_ok, h2]⟩
        | cell x t =>
          simp only [] at hv
          split at hv
          · rename_i y hy
            have hr := hf x y hy
            obtain ⟨u, g1, g2⟩ := aload_ok (P := P) h hv hr
            have : ∃ ad, a.tmps.getD x Go.undef = .pointer (some ad) := by
              unfold aload at hv
              split at hv
              · generalize a.tmps.getD x Go.undef = z at hr; cases hr; exact ⟨_, rfl⟩
              · cases hv
            obtain ⟨ad, had⟩ := this
            rw [had] at g1
            have g3 : (loadVar t ad).run P w = .ok u w := by simpa [Instr.loadAt, Instr.sureAddr] using g1
            have g4 : (resOne a.tmps (.cell x t)).run P w = .ok u w := by
              simp only [resOne, had]
              exact g3
            refine ⟨u :: us, VL.cons g2 h1, ?_⟩
            simp only [List.mapM_cons, Sem.run_bind, Sem.run_pure, Result.andThen_ok, g4, h2]
          · cases hv
      · cases hr
    · cases hr

theorem oneOr_ok {vs us : List Value} (h : VL ι vs us) : VR ι (oneOr vs) (if hs : us.toArray.size = 1 then us.toArray[0] else .tuple us.toArray) := by
  match vs, us, h with
  | [], us, h =>
    obtain rfl := h.inv_nil
    exact VL.tuple (VL.nil ι)
  | [v], us, h =>
    obtain ⟨u, l, rfl, h1, h2⟩ := h.inv_cons
    obtain rfl := h2.inv_nil
    exact h1
  | v :: v' :: l, us, h =>
    have hl := h.1
    have hne : ¬ us.toArray.size = 1 := by
      simp only [List.size_toArray]
      rw [← hl]
      simp
    rw [dif_neg hne]
    exact VL.tuple h

theorem results_ok (h : Rel G R B U ι m w) {K : List Nat} {fr : Fr} {a : Act} (hf : FR ι (fget K fr) a) {fn : Func} {vs : List Value} (hr : resA P K fr m fn.results.toList = some vs) :
    ∃ u, (results fn a.tmps).run P w = .ok u w ∧ VR ι (oneOr vs) u := by
  obtain ⟨us, h1, h2⟩ := resA_ok (P := P) h hf _ _ hr
  refine ⟨_, ?_, oneOr_ok h1⟩
  have h3 : (fn.results.mapM (resOne a.tmps)).run P w = .ok us.toArray w := by
    rw [Array.mapM_eq_mapM_toList, Sem.run_map, h2]
    rfl
  have h4 : results fn a.tmps = (do let vs ← fn.results.mapM (resOne a.tmps); pure (if h : vs.size = 1 then vs[0] else .tuple vs)) := rfl
  rw [h4, Sem.run_bind, h3]
  rfl

theorem initPs_get (args : List Value) : ∀ (K : List Nat) (t j : Nat) (v : Value), pos K t = some j → lget (initPs args K) j = some v → v = (args[t]?).getD Go.undef
  | [], t, j, v, h, _ => by cases h
  | k :: K, t, j, v, h, hv => by
    simp only [pos] at h
    split at h
    · rename_i hk
      have hk' := Nat.eq_of_beq_eq_true hk
      subst hk'
      cases h
      simp only [initPs, lget, lget_eq, List.getElem?_cons_zero, Option.some.injEq] at hv
      rw [← hv]
      cases args[k]? <;> rfl
    · split at h
      · rename_i i hi
        cases h
        simp only [initPs, lget] at hv
        exact initPs_get args K t i v hi hv
      · cases h

theorem evF_ok (hP : Prog P) (KK : FuncId → List Nat) (lf : Nat) {call : CallT} (ih : CallOk P G R B call) : CallOk P G R B (evF P G KK lf call) := by
  have opn : ∀ f args L m v m', evF P G KK lf call f args L m = some (v, m') → ∃ fn c e fr vs, P.funcs[f]? = some fn ∧ fn.body = some c ∧ args.length ≤ fn.ntmps ∧
      evB P G fn.ntmps (KK f) call lf L c ⟨initPs args (KK f), []⟩ m = some (e, (fr, m')) ∧ e ≤ 1 ∧ resA P (KK f) fr m' fn.results.toList = some vs ∧ v = oneOr vs := by
    intro f args L m v m' h
    simp only [evF] at h
    split at h
    · cases h
    · rename_i fn hfn
      split at h
      · cases h
      · rename_i c hc
        split at h
        · cases h
        · rename_i hlen
          split at h
          · cases h
          · rename_i e fr m1 hev
            split at h
            · cases h
            · rename_i he
              split at h
              · rename_i vs hvs
                simp only [Option.some.injEq, Prod.mk.injEq] at h
                obtain ⟨rfl, rfl⟩ := h
                exact ⟨fn, c, e, fr, vs, hfn, hc, Nat.le_of_ble_eq_true hlen, hev, Nat.le_of_ble_eq_true he, hvs, rfl⟩
              · cases h
  refine ⟨fun f args L m v m' hm hL h => ?_, fun f args L m v m' h => ?_, fun f args L m v m' h U ι w cargs hr hR hL hU hvl => ?_⟩
  · obtain ⟨fn, c, e, fr, vs, h1, h2, h3, h4, h5, h6, h7⟩ := opn _ _ _ _ _ _ h
    exact evB_ext ih c _ _ _ _ _ hm hL h4
  · obtain ⟨fn, c, e, fr, vs, h1, h2, h3, h4, h5, h6, h7⟩ := opn _ _ _ _ _ _ h
    exact ⟨fn, h1, by rw [h2]; rfl⟩
  · obtain ⟨fn, c, e, fr, vs, h1, h2, h3, h4, h5, h6, rfl⟩ := opn _ _ _ _ _ _ h
    have hsz : cargs.size = args.length := by simpa using hvl.1.symm
    refine calls_of_wp h1 h2 (evB_ok (U := U) hP ih hR c _ _ m e fr m' ι _ w h4 hr hL hU ?_ ?_ ?_)
    · intro t v hv
      unfold fget at hv
      split at hv
      · rename_i j hj
        obtain rfl := initPs_get args (KK f) t j v hj hv
        cases ht : args[t]? with
        | none =>
          have : cargs.size ≤ t := by rw [hsz]; exact List.getElem?_eq_none_iff.1 ht
          have : (cargs ++ Array.replicate (fn.ntmps - cargs.size) Go.undef).getD t Go.undef = Go.undef := by
            rw [Array.getD_eq_getD_getElem?, Array.getElem?_append_right this, Array.getElem?_replicate]
            split <;> rfl
          simp only [this]
          exact VR.undef ι
        | some x =>
          obtain ⟨u, hu, hxu⟩ := hvl.get ht
          have hlt : t < cargs.size := by rw [hsz]; exact (List.getElem?_eq_some_iff.1 ht).1
          have : (cargs ++ Array.replicate (fn.ntmps - cargs.size) Go.undef).getD t Go.undef = u := by
            rw [Array.getD_eq_getD_getElem?, Array.getElem?_append_left hlt]
            have : cargs[t]? = some u := by simpa using hu
            rw [this]; rfl
          simp only [this]
          exact hxu
      · cases hv
    · simp; omega
    · intro κ a' w' k1 k2 k3 k4 k5
      obtain ⟨u, g1, g2⟩ := results_ok (P := P) (fn := fn) k1 k2 h6
      have hbp : a'.defers = [] ∧ ∃ v, (results fn a'.tmps).run P w' = .ok v w' ∧ (∃ u κ, Ending.returned v = .returned u ∧ VR κ (oneOr vs) u ∧ Rel G R B U κ m' w' ∧ Step L ι m w κ m' w') :=
        ⟨k4, u, g1, u, κ, rfl, g2, k1, k5⟩
      match e, h5 with
      | 0, _ => exact hbp
      | 1, _ => exact hbp

theorem noCalls_ok : CallOk P G R B noCalls :=
  ⟨fun f args L m v m' _ _ h => (by cases h), fun f args L m v m' h => (by cases h), fun f args L m v m' h => (by cases h)⟩
theorem callN_ok {S : CallT} (hS : CallOk P G R B S) (hP : Prog P) (KK : FuncId → List Nat) (lf : Nat) : ∀ n, CallOk P G R B (callN S P G KK lf n) := by
  intro n
  induction n with
  | zero => exact hS
  | succ n ih =>
    have hF := evF_ok hP KK lf ih
    have opn : ∀ f args L m v m', callN S P G KK lf (n + 1) f args L m = some (v, m') → S f args L m = some (v, m') ∨ evF P G KK lf (callN S P G KK lf n) f args L m = some (v, m') := by
      intro f args L m v m' h
      simp only [callN] at h
      split at h
      · rename_i x hx; cases h; exact .inl hx
      · exact .inr h
    refine ⟨fun f args L m v m' hm hL h => ?_, fun f args L m v m' h => ?_, fun f args L m v m' h => ?_⟩ <;> rcases opn _ _ _ _ _ _ h with h | h
    · exact hS.ext _ _ _ _ _ _ hm hL h
    · exact hF.ext _ _ _ _ _ _ hm hL h
    · exact hS.fn _ _ _ _ _ _ h
    · exact hF.fn _ _ _ _ _ _ h
    · exact hS.ok _ _ _ _ _ _ h
    · exact hF.ok _ _ _ _ _ _ h
end
end Go.Vit

/- From a run to a row's contract: the start, the tables, the post. -/
namespace Go.Vit
open Go Go.ChangeShapes Go.WideShapes Go.RowKit

/-- What was there is as it was. -/
structure Stays (w w' : World) : Prop where
  os : w'.os = w.os
  output : w'.output = w.output
  size : w.heap.size ≤ w'.heap.size
  block : ∀ k, k < w.heap.size → w'.heap[k]? = w.heap[k]?

theorem Step.stays {L : Nat} {ι κ : Inj} {m m' : Mem} {w w' : World} (h : Step L ι m w κ m' w') (hL : m.next ≤ L) : Stays w w' :=
  ⟨h.os, h.output, h.size, fun k hk => h.block k hk fun b e h1 h2 => absurd h2 (by omega)⟩
theorem Stays.kept {w w' : World} (h : Stays w w') (may : MemPlace → Prop) : w.keptBut w' may := by
  refine ⟨h.os, h.output, fun i hi => ?_⟩
  rw [h.block i hi]
  cases hx : w.heap[i]? with
  | none => simp
  | some o => cases o <;> simp
theorem Stays.frozen {w w' : World} (h : Stays w w') {a : Addr} (ha : a.block < w.heap.size) : w'.frozen? a = w.frozen? a := by
  unfold World.frozen?
  rw [h.block _ ha]
theorem Stays.cell {w w' : World} (h : Stays w w') {a : Addr} (ha : a.block < w.heap.size) : w'.cell? a = w.cell? a := by
  unfold World.cell?
  rw [h.block _ ha]

/-- The post of a law that answers true and whose arguments read as before. -/
theorem post_stays {H : Type} {enc : TypeId × Value → H} {P : Program} {f : Func} {s : ChangeSpec} {apart fresh handsOn again : Bool} {W W' : World} {args : Array Value} {v : Value} {ds gs : List (DataW H)} {before pa pv : List MemPlace}
    (hW : DataW.Whole enc P f.params.toList s.vars apart W args.toList ds gs before)
    (hres : ∀ (b : Nat) (sp : Nat → Bool) (hd : Bool), DataW.TrodAll enc P W' b sp hd f.resultTypes.toList (v.resultList f.resultTypes.size) (s.fn H (ds ++ gs)).results [])
    (hargs : ∀ sp : Nat → Bool, (∀ p ∈ before, sp p.block = true) → DataW.TrodAll enc P W' 0 sp true f.params.toList args.toList (s.fn H (ds ++ gs)).args pa)
    (hvars : ∀ sp : Nat → Bool, (∀ p ∈ before, sp p.block = true) → DataW.TrodVars enc P W' sp s.vars (s.fn H (ds ++ gs)).vars pv)
    (hps : before = pa ++ pv) (hs : Stays W W')
    (hok : ∀ (j : Nat) (t : TypeId) (r : Value), f.resultTypes[j]? = some t → (v.resultList f.resultTypes.size)[j]? = some r → Value.okWide P W' .any 0 t r) :
    s.post enc P f apart fresh handsOn again W args v W' := by
  have hlt := hW.lt
  have key : ∀ p ∈ before, decide (p.block < W.heap.size) = true := fun p hp => decide_eq_true (hlt p hp)
  have split : ∀ p, p ∈ before → p ∈ pa ∨ p ∈ pv := fun p hp => by rw [hps] at hp; exact List.mem_append.1 hp
  have nofr : W'.noneFrozen before := by
    obtain ⟨_, _, _, _, _, hz, _⟩ := hW
    intro b off hb
    exact (hs.frozen (hlt _ hb)).trans (hz b off hb)
  have nod : apart = true → before.Nodup := by
    obtain ⟨_, _, _, _, _, _, hn⟩ := hW
    exact hn
  refine ⟨ds, gs, before, [], pa, pv, hW, hres _ _ _, hargs _ key, hvars _ key, World.keptBut_mono (fun p hp => ⟨hp, .inr (split p hp)⟩) (hs.kept (· ∈ before)), fun _ => ⟨hok, ?_⟩⟩
  have g1 := trodAll_append (hargs (fun _ => true) fun _ _ => rfl) (hres 0 (fun _ => true) true)
  exact ⟨_, _, before, ⟨[] ++ pa, pv, g1, hvars _ fun _ _ => rfl, hps, nofr, nod⟩, fun p hp _ => hp⟩

/-! ### The start -/
theorem Rel.start {W : World} {G U : Nat} {m : Mem} {es : List Ent} (hn : m.next = es.length) (hG : ∀ g, g < G → es[g]? = some ⟨g, 0, 0⟩)
    (hsz : ∀ (b : Nat) (e : Ent), es[b]? = some e → e.cb < W.heap.size)
    (hcells : ∀ (b : Nat) (e : Ent) (k : Blk), es[b]? = some e → m.rd b = some k → k.ents = none ∧ ∀ (i : Nat) (v : Value), k.cells[i]? = some v → ∃ u, VR (fun b => es[b]?) v u ∧ W.cell? ⟨e.cb, e.base + i, none⟩ = some u) :
    Rel G m.next W U (fun b => es[b]?) m W := by
  have hlt : ∀ (b : Nat) (e : Ent), es[b]? = some e → b < m.next := fun b e h => by rw [hn]; exact (List.getElem?_eq_some_iff.1 h).1
  refine ⟨trivial, Nat.le_refl _, ⟨Nat.le_refl _, fun _ _ => rfl⟩, hG, fun b e h => .inl (hlt b e h), hsz, fun b e h1 h2 => absurd (hlt b e h2) (by omega), fun b e k h1 h2 _ i v hv => (hcells b e k h1 h2).2 i v hv,
    fun b e k h1 h2 => absurd (hlt b e h2) (by omega), fun b b' e e' k k' h1 _ h2 => absurd (hlt b e h2) (by omega), fun b e k es' h1 h2 h3 => ?_⟩
  have := (hcells b e k h1 h2).1
  rw [h3] at this
  cases this

/-! ### Tables that a row lists -/
theorem laid_mem {P : Program} {W : World} : ∀ {l : List (String × DataW Unit)} {ps : List MemPlace}, DataW.LaidVars P W l ps → ∀ n d, (n, d) ∈ l →
    ∃ g t cs fuel p, P.globalNamed n = some g ∧ (P.globals[g]?).map (·.type) = some t ∧ W.var? P n = some cs ∧ DataW.trod (fun _ => ()) P W 0 (fun _ => true) false fuel t cs.toList = some (d, p)
  | [], _, _, n, d, hm => by cases hm
  | (n', d') :: l, ps, h, n, d, hm => by
    obtain ⟨g, t, cs, fuel, p, q, h1, h2, h3, h4, h5, _⟩ := h
    cases hm with
    | head => exact ⟨g, t, cs, fuel, p, h1, h2, h3, h4⟩
    | tail _ hm => exact laid_mem h5 n d hm
theorem tab_of_laid {P : Program} {W : World} {name : String} {k : IntKind} {zs : List Int} {l : List (String × DataW Unit)} {g : Nat} {t e : TypeId} {n : Nat}
    (hg : P.globalNamed name = some g) (hty : (P.globals[g]?).map (·.type) = some t) (ht : P.underlying t = some (.array n e)) (he : P.underlying e = some (.int k)) (hce : P.cellsOf e = 1) (hct : P.cellsOf t = n)
    (h : laidMet P l W) (hm : (name, Lib.tabData k zs) ∈ l) : g < W.heap.size ∧ ∀ (i : Nat) z, zs[i]? = some z → W.cell? ⟨g, i, none⟩ = some (.int k z) := by
  obtain ⟨ps, hl, _⟩ := h
  obtain ⟨g', t', cs, fuel, p, h1, h2, h3, h4⟩ := laid_mem hl _ _ hm
  obtain rfl := Option.some.inj (hg.symm.trans h1)
  obtain rfl := Option.some.inj (hty.symm.trans h2)
  have hcs := Lib.cells_of_tab ht he hce hct h4
  have hlt : g < W.heap.size := by
    simp only [World.var?, hg, Option.bind_some] at h3
    split at h3
    · rename_i hx; exact (Array.getElem?_eq_some_iff.1 hx).1
    · cases h3
  refine ⟨hlt, fun i z hz => ?_⟩
  rw [World.var?_cell hg h3 i]
  have : cs.toList[i]? = some (.int k z) := by rw [hcs]; simp [hz]
  simpa using this

/-! ### The answer -/
/-- The run answers true. -/
def says (x : Option (Value × Mem)) : Bool := match x with
  | some (v, _) => match v with
    | .bool b => b
    | _ => false
  | none => false
theorem calls_of_says {P : Program} {G : Nat} {m : Mem} {W : World} {ι : Inj} (hP : Prog P) {KK : FuncId → List Nat} {lf n : Nat} {f : FuncId} {args : List Value} {cargs : Array Value}
    (hrel : ∀ U, Rel G m.next W U ι m W) (hargs : VL ι args cargs.toList) {S : CallT} (hS : CallOk P G m.next W S) (h : says (callN S P G KK lf n f args m.next m) = true) :
    Calls P f cargs W fun e W' => e = .returned (.bool true) ∧ Stays W W' := by
  have hc := callN_ok (G := G) (R := m.next) (B := W) hS hP KK lf n
  unfold says at h
  split at h
  · rename_i v m' hx
    have hext := hc.ext _ _ _ _ _ _ (hrel 0).ok (Nat.le_refl _) hx
    refine (hc.ok _ _ _ _ _ _ hx m'.next ι W cargs (hrel _) (Nat.le_refl _) (Nat.le_refl _) (Nat.le_refl _) hargs).mono fun e W' ⟨u, κ, he, g1, g2, g3⟩ => ?_
    split at h
    · cases h
      cases g1
      exact ⟨he, g3.stays (Nat.le_refl _)⟩
    · cases h
  · cases h
end Go.Vit

/- The shallow form: an evaluator in continuation-passing style; single operations. -/
namespace Go.Vit
open Go

section
variable {β : Type}
/-! ### What a shallow text is made of -/
def oOpt (x : Option Value) (k : Value → Option β) : Option β := match x with
  | some v => k v
  | none => none
def oRes (x : Option (Value × Mem)) (k : Value → Mem → Option β) : Option β := match x with
  | some (v, m) => k v m
  | none => none
def ik (kd : IntKind) (x : Value) (k : Int → Option β) : Option β := match x with
  | .int j a => match Nat.beq (kix j) (kix kd) with
    | true => k a
    | false => none
  | _ => none
def oInt (op : BinOp) (kd : IntKind) (x y : Value) (k : Value → Option β) : Option β := ik kd x fun a => ik kd y fun b => oOpt (aint op kd a b) k
def oCv (kd : IntKind) (x : Value) (k : Value → Option β) : Option β := match x with
  | .int _ n => oOpt (mkI kd (fwrap kd n)) k
  | _ => none
def oIf (x : Value) (a b : Option β) : Option β := match x with
  | .bool c => match c with
    | true => a
    | false => b
  | _ => none
/-- Guards: wanted true, wanted false. A guard that was itself not reached counts as not wanted. -/
def oGT (x : Value) (a b : Option β) : Option β := match x with
  | .bool c => match c with
    | true => a
    | false => b
  | .tuple _ => b
  | _ => none
def oGF (x : Value) (a b : Option β) : Option β := match x with
  | .bool c => match c with
    | true => b
    | false => a
  | .tuple _ => b
  | _ => none
def oPick (x : Value) (a b : Value) (k : Value → Option β) : Option β := match x with
  | .bool c => match c with
    | true => k a
    | false => k b
  | _ => none
def join (j : List Value → Mem → Option β) (f : (List Value → Mem → Option β) → Option β) : Option β := f j
def loopS (body : (List Value → Mem → Option β) → List Value → Mem → Option β) : Nat → List Value → Mem → Option β
  | 0, _, _ => none
  | n + 1, vs, m => body (loopS body n) vs m
def uc (l : List Value) (k : Value → List Value → Option β) : Option β := match l with
  | a :: l => k a l
  | [] => none
def un0 (l : List Value) (k : Option β) : Option β := match l with
  | [] => k
  | _ :: _ => none
abbrev CallK (β : Type) := FuncId → List Value → Nat → Mem → (Value → Mem → Option β) → Option β
def oCallV (call : CallK β) (f : Value) (vs : List Value) (L : Nat) (m : Mem) (k : Value → Mem → Option β) : Option β := match atarget f with
  | some (g, cs) => call g (vs ++ cs) L m k
  | none => none
def ld1 (m : Mem) (x : Value) : Option Value := match x with
  | .pointer (some ⟨b, o, none⟩) => match m.rd b with
    | some k => match k.ents with
      | none => lget k.cells o
      | some _ => none
    | none => none
  | _ => none
def ldN (m : Mem) (s : Nat) (x : Value) : Option Value := match x with
  | .pointer (some ⟨b, o, none⟩) => match rdc m b o s with
    | some cs => some (.agg ⟨cs⟩)
    | none => none
  | _ => none
def st1 (s L : Nat) (m : Mem) (x v : Value) : Option (Value × Mem) := match x with
  | .pointer (some ⟨b, o, none⟩) => match Nat.beq v.cells.toList.length s with
    | true => match awr L m b o v.cells.toList with
      | some m' => some (Go.undef, m')
      | none => none
    | false => none
  | _ => none
/-- A block is the same in two memories. -/
def oSm (m m' : Mem) (v : Value) (k : Option β) : Option β := match smB m m' v with
  | true => k
  | false => none
/-- Two addresses in different blocks. -/
def oNe (x y : Value) (k : Option β) : Option β := match x with
  | .pointer (some ⟨b, _, none⟩) => match y with
    | .pointer (some ⟨b', _, none⟩) => match Nat.beq b b' with
      | true => none
      | false => k
    | _ => none
  | _ => none
/-- The address of a field, of an element. -/
def fa (off : Nat) (x : Value) : Option Value := match x with
  | .pointer (some ⟨b, o, none⟩) => natK (Nat.add o off) fun q => some (.pointer (some ⟨b, q, none⟩))
  | _ => none
def ia (s : Nat) (x i : Value) : Option Value := match i with
  | .int _ n => match n with
    | .negSucc _ => none
    | .ofNat n => match x with
      | .slice (some ⟨b, o, _⟩) len _ => match Nat.blt n len with
        | true => natK (Nat.add o (Nat.mul n s)) fun q => some (.pointer (some ⟨b, q, none⟩))
        | false => none
      | _ => none
  | _ => none
def iaA (len s : Nat) (x i : Value) : Option Value := match i with
  | .int _ n => match n with
    | .negSucc _ => none
    | .ofNat n => match x with
      | .pointer (some ⟨b, o, none⟩) => match Nat.blt n len with
        | true => natK (Nat.add o (Nat.mul n s)) fun q => some (.pointer (some ⟨b, q, none⟩))
        | false => none
      | _ => none
  | _ => none
def ln (x : Value) : Option Value := match x with
  | .slice _ n _ => natK n fun n => some (.int .i64 (.ofNat n))
  | _ => none
def tri (lo hi mx : Option Value) (x : Operand) : Option Value := match x with
  | .tmp t => match t with
    | 0 => lo
    | 1 => hi
    | _ => mx
  | _ => none
def sl (P : Program) (t : TypeId) (x : Value) (lo hi mx : Option Value) : Option Value :=
  aslice P (tri lo hi mx) t x (lo.map fun _ => .tmp 0) (hi.map fun _ => .tmp 1) (mx.map fun _ => .tmp 2)
def bu (P : Program) (t : TypeId) (ps : List (Nat × Value)) : Option Value := match azero P t with
  | none => none
  | some zs => match P.underlying t with
    | some (.struct fields) => match places P fields.toList with
      | some pl => match lay (fun i => lget pl i) zs ps with
        | some cs => some (.agg ⟨cs⟩)
        | none => none
      | none => none
    | some (.array _ elem) => match tsize P elem with
      | some s => match lay (fun i => some (Nat.mul i s, s)) zs ps with
        | some cs => some (.agg ⟨cs⟩)
        | none => none
      | none => none
    | _ => none
def bs (P : Program) (m : Mem) (t : TypeId) (len : Nat) (ps : List (Nat × Value)) : Option (Value × Mem) := match P.underlying t with
  | some (.slice elem) => match azero P elem with
    | some zs => match tsize P elem with
      | some s => match Nat.beq zs.length s && Nat.ble (Nat.mul len s) 16777216 with
        | true => match lay (fun i => some (Nat.mul i s, s)) (azrow zs len) ps with
          | some cs => anew m s cs (slTo len)
          | none => none
        | false => none
      | none => none
    | none => none
  | _ => none

/-! ### One operation
The functions that a text is compared with lie deeper than those it is made of: so they are unfolded first. -/
def c0 : Nat := 0
def c1 : Nat := c0
def c2 : Nat := c1
def c3 : Nat := c2
def c4 : Nat := c3
def c5 : Nat := c4
def c6 : Nat := c5
def c7 : Nat := c6
def c8 : Nat := c7
def c9 : Nat := c8
def c10 : Nat := c9
def c11 : Nat := c10
def c12 : Nat := c11
def c13 : Nat := c12
def c14 : Nat := c13
def c15 : Nat := c14
def c16 : Nat := c15
def c17 : Nat := c16
def c18 : Nat := c17
def c19 : Nat := c18
def c20 : Nat := c19
def c21 : Nat := c20
def c22 : Nat := c21
def c23 : Nat := c22
def c24 : Nat := c23
def c25 : Nat := c24
def c26 : Nat := c25
def c27 : Nat := c26
def c28 : Nat := c27
def c29 : Nat := c28
def c30 : Nat := c29
def c31 : Nat := c30
def c32 : Nat := c31
def c33 : Nat := c32
def c34 : Nat := c33
def c35 : Nat := c34
def c36 : Nat := c35
def c37 : Nat := c36
def c38 : Nat := c37
def c39 : Nat := c38
def c40 : Nat := c39
def deep {α : Type} (_ : Nat) (a : α) : α := a
@[simp] theorem deep_eq {α : Type} (n : Nat) (a : α) : deep n a = a := rfl
def dv (x : Option Value) (k : Value → Option β) : Option β := deep c40 <| match x with
  | some v => k v
  | none => none
def dvs (x : Option (List Value)) (k : List Value → Option β) : Option β := deep c40 <| match x with
  | some v => k v
  | none => none
def dps (x : Option (List (Nat × Value))) (k : List (Nat × Value) → Option β) : Option β := deep c40 <| match x with
  | some v => k v
  | none => none
def dvo (ev : Operand → Option Value) (x : Option Operand) (k : Option Value → Option β) : Option β := deep c40 <| match x with
  | none => k none
  | some x => match ev x with
    | some v => k (some v)
    | none => none
def isSh (op : BinOp) : Bool := match op with
  | .shl => true
  | .shr => true
  | _ => false
def denBin (P : Program) (op : BinOp) (t : TypeId) (x y : Value) (k : Value → Option β) : Option β := match P.underlying t with
  | some (.int kd) => match isSh op with
    | false => oInt op kd x y k
    | true => oOpt (abin P op t x y) k
  | _ => oOpt (abin P op t x y) k
def denOp (P : Program) (call : CallK β) (L : Nat) (ev : Operand → Option Value) (m : Mem) (op : Op) (k : Value → Mem → Option β) : Option β := match op with
  | .move x => dv (ev x) fun v => k v m
  | .assign x => dv (ev x) fun v => k v m
  | .pick c a b => dv (ev c) fun c => dv (ev a) fun a => dv (ev b) fun b => oPick c a b fun v => k v m
  | .binOp op t x y _ => dv (ev x) fun x => dv (ev y) fun y => denBin P op t x y fun v => k v m
  | .unOp op _ x => dv (ev x) fun x => oOpt (aun op x) fun v => k v m
  | .convert s d x => dv (ev x) fun x => match P.underlying s with
    | some _ => match P.underlying d with
      | some (.int kd) => oCv kd x fun v => k v m
      | _ => oOpt (aconv P s d x) fun v => k v m
    | none => none
  | .extract x i => dv (ev x) fun x => oOpt (aextract x i) fun v => k v m
  | .nilCheck x => dv (ev x) fun x => oOpt (anil x) fun v => k v m
  | .fieldAddr s x f => dv (ev x) fun x => match P.underlying s with
    | some (.struct fields) => match lget fields.toList f with
      | some fd => match tsize P fd.type with
        | some (Nat.succ _) => oOpt (fa fd.offset x) fun v => k v m
        | _ => none
      | none => none
    | _ => none
  | .field t x f => dv (ev x) fun x => oOpt (afieldV P t x f) fun v => k v m
  | .indexAddr t x i => dv (ev x) fun x => dv (ev i) fun i => match P.underlying t with
    | some (.slice elem) => match tsize P elem with
      | some s => oOpt (ia s x i) fun v => k v m
      | none => none
    | some (.array len elem) => match tsize P elem with
      | some s => oOpt (iaA len s x i) fun v => k v m
      | none => none
    | _ => none
  | .index t x i => dv (ev x) fun x => dv (ev i) fun i => oOpt (aindex P t x i) fun v => k v m
  | .slice t x lo hi mx => dv (ev x) fun x => dvo ev lo fun lo => dvo ev hi fun hi => dvo ev mx fun mx => oOpt (sl P t x lo hi mx) fun v => k v m
  | .makeFunc fn first cs => match fn with
    | .func f => match first.toList with
      | [] => dvs (evL ev cs.toList) fun vs => k (.func (.func f) #[] ⟨vs⟩) m
      | _ => none
    | _ => none
  | .makeInterface t x => dv (ev x) fun x => oOpt (aiface P t x) fun v => k v m
  | .build t parts => dps (evP ev parts.toList) fun ps => oOpt (bu P t ps) fun v => k v m
  | .typeAssert x _ t ok => dv (ev x) fun x => oOpt (aassert P x t ok) fun v => k v m
  | .alloc t => match azero P t with
    | some cs => oRes (anew m 1 cs ptrTo) k
    | none => none
  | .box _ x => dv (ev x) fun x => oRes (abox m x) k
  | .buildSlice t len parts => dps (evP ev parts.toList) fun ps => oRes (bs P m t len ps) k
  | .makeSlice t l c => dv (ev l) fun l => dv (ev c) fun c => oRes (amakeSlice P m t l c) k
  | .load t x => dv (ev x) fun x => match tagg P t with
    | some false => oOpt (ld1 m x) fun v => k v m
    | some true => match tsize P t with
      | some s => oOpt (ldN m s x) fun v => k v m
      | none => none
    | none => none
  | .store t x y => dv (ev x) fun x => dv (ev y) fun y => match tsize P t with
    | some s => oRes (st1 s L m x y) k
    | none => none
  | .call c => match c.callee with
    | .builtin b => dvs (evL ev c.args.toList) fun vs => match b with
      | .append => match vs with
        | [s, x] => match c.argTypes.toList with
          | [t, t'] => match Nat.beq t t' with
            | true => oRes (aappend P L m t s x) k
            | false => none
          | _ => none
        | _ => none
      | .copy => match vs with
        | [d, s] => match lget c.argTypes.toList 0 with
          | some t => oRes (acopy P L m t d s) k
          | none => none
        | _ => none
      | .clear => match vs with
        | [x] => match lget c.argTypes.toList 0 with
          | some t => oRes (aclear P L m t x) k
          | none => none
        | _ => none
      | .len => match vs with
        | [x] => match lget c.argTypes.toList 0 with
          | some t => match P.underlying t with
            | some (.slice _) => oOpt (ln x) fun v => k v m
            | _ => oOpt (alen P t x) fun v => k v m
          | none => none
        | _ => none
      | b => oOpt (abuiltin P b c.argTypes vs) fun v => k v m
    | .value f => dvs (evL ev c.args.toList) fun vs => match f with
      | .func g => call g vs L m k
      | f => dv (ev f) fun f => oCallV call f vs L m k
    | _ => none
  | _ => none

/-! ### It reckons what the other evaluator does -/
/-- A call in either form. -/
def CallSim (callK : CallK β) (call : CallT) : Prop := ∀ f args L m k r, callK f args L m k = some r → ∃ v m', call f args L m = some (v, m') ∧ k v m' = some r

theorem dv_some {x : Option Value} {k : Value → Option β} {r : β} (h : dv x k = some r) : ∃ v, x = some v ∧ k v = some r := by
  simp only [dv, deep_eq] at h; split at h
  · rename_i v; exact ⟨v, rfl, h⟩
  · cases h
theorem dvs_some {x : Option (List Value)} {k : List Value → Option β} {r : β} (h : dvs x k = some r) : ∃ v, x = some v ∧ k v = some r := by
  simp only [dvs, deep_eq] at h; split at h
  · rename_i v; exact ⟨v, rfl, h⟩
  · cases h
theorem dps_some {x : Option (List (Nat × Value))} {k : List (Nat × Value) → Option β} {r : β} (h : dps x k = some r) : ∃ v, x = some v ∧ k v = some r := by
  simp only [dps, deep_eq] at h; split at h
  · rename_i v; exact ⟨v, rfl, h⟩
  · cases h
theorem oOpt_some {x : Option Value} {k : Value → Option β} {r : β} (h : oOpt x k = some r) : ∃ v, x = some v ∧ k v = some r := by
  unfold oOpt at h; split at h
  · rename_i v; exact ⟨v, rfl, h⟩
  · cases h
theorem oRes_some {x : Option (Value × Mem)} {k : Value → Mem → Option β} {r : β} (h : oRes x k = some r) : ∃ v m, x = some (v, m) ∧ k v m = some r := by
  unfold oRes at h; split at h
  · rename_i v m; exact ⟨v, m, rfl, h⟩
  · cases h
theorem ik_some {kd : IntKind} {x : Value} {k : Int → Option β} {r : β} (h : ik kd x k = some r) : ∃ j a, x = .int j a ∧ Nat.beq (kix j) (kix kd) = true ∧ k a = some r := by
  unfold ik at h
  split at h
  · split at h
    · rename_i a j hb; exact ⟨_, _, rfl, hb, h⟩
    · cases h
  · cases h
theorem evL_mono {ev ev' : Operand → Option Value} (he : ∀ x v, ev x = some v → ev' x = some v) : ∀ l vs, evL ev l = some vs → evL ev' l = some vs
  | [], vs, h => h
  | x :: l, vs, h => by
    simp only [evL] at h ⊢
    split at h
    · rename_i v hv
      rw [he _ _ hv]
      split at h
      · rename_i ws hws
        rw [evL_mono he l ws hws]
        exact h
      · cases h
    · cases h
theorem evP_mono {ev ev' : Operand → Option Value} (he : ∀ x v, ev x = some v → ev' x = some v) : ∀ l vs, evP ev l = some vs → evP ev' l = some vs
  | [], vs, h => h
  | (i, x) :: l, vs, h => by
    simp only [evP] at h ⊢
    split at h
    · rename_i v hv
      rw [he _ _ hv]
      split at h
      · rename_i ws hws
        rw [evP_mono he l ws hws]
        exact h
      · cases h
    · cases h
theorem dvo_some {ev ev' : Operand → Option Value} (he : ∀ x v, ev x = some v → ev' x = some v) {x : Option Operand} {k : Option Value → Option β} {r : β} (h : dvo ev x k = some r) :
    ∃ v, (∀ n d, abound ev' x d = abound (fun o => match o with | .tmp j => (if j = n then v else none) | _ => none) (v.map fun _ => .tmp n) d) ∧ v.isSome = x.isSome ∧ k v = some r := by
  simp only [dvo, deep_eq] at h
  split at h
  · exact ⟨none, fun n d => rfl, rfl, h⟩
  · split at h
    · rename_i v hv
      exact ⟨some v, fun n d => by simp [abound, he _ _ hv], rfl, h⟩
    · cases h

theorem sl_eq (P : Program) {ev' : Operand → Option Value} {t : TypeId} {x : Value} {lo hi mx : Option Operand} {vl vh vm : Option Value}
    (hl : ∀ d, abound ev' lo d = abound (tri vl vh vm) (vl.map fun _ => .tmp 0) d) (hh : ∀ d, abound ev' hi d = abound (tri vl vh vm) (vh.map fun _ => .tmp 1) d) (hm : ∀ d, abound ev' mx d = abound (tri vl vh vm) (vm.map fun _ => .tmp 2) d)
    (el : vl.isSome = lo.isSome) (eh : vh.isSome = hi.isSome) (em : vm.isSome = mx.isSome) : sl P t x vl vh vm = aslice P ev' t x lo hi mx := by
  have hb : ∀ a b, abounds (tri vl vh vm) a b (vl.map fun _ => .tmp 0) (vh.map fun _ => .tmp 1) (vm.map fun _ => .tmp 2) = abounds ev' a b lo hi mx := fun a b => by
    simp only [abounds, hl, hh, hm]
    cases vm <;> cases mx <;> cases vh <;> cases hi <;> first | (simp at em; done) | (simp at eh; done) | rfl
  have hb' : ∀ a b, abounds (tri vl vh vm) a b (vl.map fun _ => .tmp 0) (vh.map fun _ => .tmp 1) none = abounds ev' a b lo hi none := fun a b => by
    simp only [abounds, hl, hh]
    cases vh <;> cases hi <;> first | (simp at eh; done) | rfl
  unfold sl aslice
  simp only [hb, hb']
  cases vm <;> cases mx <;> first | (simp at em; done) | rfl
theorem abound_tri (ev' : Operand → Option Value) {x : Option Operand} {k : Option Value → Option β} {r : β} {ev : Operand → Option Value} (he : ∀ x v, ev x = some v → ev' x = some v) (h : dvo ev x k = some r) :
    ∃ v, v.isSome = x.isSome ∧ (∀ (f : Operand → Option Value) n, (∀ u, v = some u → f (.tmp n) = v) → ∀ d, abound ev' x d = abound f (v.map fun _ => .tmp n) d) ∧ k v = some r := by
  simp only [dvo, deep_eq] at h
  split at h
  · exact ⟨none, rfl, fun f n _ d => rfl, h⟩
  · split at h
    · rename_i v hv
      exact ⟨some v, rfl, fun f n hf d => by simp [abound, he _ _ hv, hf v rfl], h⟩
    · cases h

theorem denOp_ok {P : Program} {call : CallT} {callK : CallK β} {L : Nat} {ev ev' : Operand → Option Value} {m : Mem} {op : Op} {k : Value → Mem → Option β} {r : β}
    (he : ∀ x v, ev x = some v → ev' x = some v) (hf : ∀ g, ev' (.func g) = some (.func (.func g) #[] #[])) (hc : CallSim callK call) (h : denOp P callK L ev m op k = some r) :
    ∃ v m', exA P call L ev' m op = some (v, m') ∧ k v m' = some r := by
  cases op with
  | move x =>
    obtain ⟨v, h1, h2⟩ := dv_some h
    exact ⟨v, m, by simp [exA, acallee, aop, apure, he _ _ h1], h2⟩
  | assign x =>
    obtain ⟨v, h1, h2⟩ := dv_some h
    exact ⟨v, m, by simp [exA, acallee, aop, apure, he _ _ h1], h2⟩
  | pick c a b =>
    obtain ⟨c', h1, h⟩ := dv_some h
    obtain ⟨a', h2, h⟩ := dv_some h
    obtain ⟨b', h3, h⟩ := dv_some h
    unfold oPick at h
    split at h
    · split at h
      · exact ⟨_, m, by simp [exA, acallee, aop, apure, he _ _ h1, he _ _ h2], h⟩
      · exact ⟨_, m, by simp [exA, acallee, aop, apure, he _ _ h1, he _ _ h3], h⟩
    · cases h
  | binOp op t x y yt =>
    obtain ⟨x', h1, h⟩ := dv_some h
    obtain ⟨y', h2, h⟩ := dv_some h
    have fin : ∀ v, abin P op t x' y' = some v → k v m = some r → ∃ v m', exA P call L ev' m (.binOp op t x y yt) = some (v, m') ∧ k v m' = some r := fun v h3 h4 =>
      ⟨v, m, by simp [exA, acallee, aop, apure, he _ _ h1, he _ _ h2, h3], h4⟩
    have slow : ∀ {kk : Value → Option β}, kk = (fun v => k v m) → oOpt (abin P op t x' y') kk = some r → ∃ v m', exA P call L ev' m (.binOp op t x y yt) = some (v, m') ∧ k v m' = some r := fun e h3 => by
      subst e
      obtain ⟨v, h4, h5⟩ := oOpt_some h3
      exact fin v h4 h5
    unfold denBin at h
    split at h
    · rename_i kd hk
      split at h
      · rename_i hs
        unfold oInt at h
        obtain ⟨j, a, rfl, hj, h⟩ := ik_some h
        obtain ⟨j', b, rfl, hj', h⟩ := ik_some h
        obtain ⟨v, h3, h4⟩ := oOpt_some h
        obtain rfl := kix_inj hj
        obtain rfl := kix_inj hj'
        refine fin v ?_ h4
        cases op <;> first | (simp [isSh] at hs; done) | (simp only [abin, hj]; exact h3)
      · exact slow rfl h
    · exact slow rfl h
  | unOp op t x =>
    obtain ⟨x', h1, h⟩ := dv_some h
    obtain ⟨v, h2, h⟩ := oOpt_some h
    exact ⟨v, m, by simp [exA, acallee, aop, apure, he _ _ h1, h2], h⟩
  | convert s d x =>
    obtain ⟨x', h1, h⟩ := dv_some h
    have fin : ∀ v, aconv P s d x' = some v → k v m = some r → ∃ v m', exA P call L ev' m (.convert s d x) = some (v, m') ∧ k v m' = some r := fun v h3 h4 =>
      ⟨v, m, by simp [exA, acallee, aop, apure, he _ _ h1, h3], h4⟩
    split at h
    · rename_i ds hs
      split at h
      · rename_i kd hd
        unfold oCv at h
        split at h
        · obtain ⟨v, h2, h3⟩ := oOpt_some h
          exact fin v (by simp only [aconv, hs, hd]; exact h2) h3
        · cases h
      · obtain ⟨v, h2, h3⟩ := oOpt_some h
        exact fin v h2 h3
    · cases h
  | extract x i =>
    obtain ⟨x', h1, h⟩ := dv_some h
    obtain ⟨v, h2, h⟩ := oOpt_some h
    exact ⟨v, m, by simp [exA, acallee, aop, apure, he _ _ h1, h2], h⟩
  | nilCheck x =>
    obtain ⟨x', h1, h⟩ := dv_some h
    obtain ⟨v, h2, h⟩ := oOpt_some h
    exact ⟨v, m, by simp [exA, acallee, aop, apure, he _ _ h1, h2], h⟩
  | fieldAddr s x f =>
    obtain ⟨x', h1, h⟩ := dv_some h
    split at h
    · rename_i fields hs
      split at h
      · rename_i fd hfd
        split at h
        · rename_i n hn
          obtain ⟨v, h2, h⟩ := oOpt_some h
          refine ⟨v, m, ?_, h⟩
          have : afield P s x' f = some v := by
            unfold fa at h2
            split at h2
            · simp only [afield, hs, hfd, hn]; exact h2
            · cases h2
          simp [exA, acallee, aop, apure, he _ _ h1, this]
        · cases h
      · cases h
    · cases h
  | field t x f =>
    obtain ⟨x', h1, h⟩ := dv_some h
    obtain ⟨v, h2, h⟩ := oOpt_some h
    exact ⟨v, m, by simp [exA, acallee, aop, apure, he _ _ h1, h2], h⟩
  | indexAddr t x i =>
    obtain ⟨x', h1, h⟩ := dv_some h
    obtain ⟨i', h1', h⟩ := dv_some h
    have fin : ∀ v, aindexAddr P t x' i' = some v → k v m = some r → ∃ v m', exA P call L ev' m (.indexAddr t x i) = some (v, m') ∧ k v m' = some r := fun v h3 h4 =>
      ⟨v, m, by simp [exA, acallee, aop, apure, he _ _ h1, he _ _ h1', h3], h4⟩
    split at h
    · rename_i elem ht
      split at h
      · rename_i s hs
        obtain ⟨v, h2, h⟩ := oOpt_some h
        refine fin v ?_ h
        unfold ia at h2
        split at h2
        · split at h2
          · cases h2
          · split at h2
            · split at h2
              · rename_i hb
                simp only [aindexAddr, ht, hb, hs]; exact h2
              · cases h2
            · cases h2
        · cases h2
      · cases h
    · rename_i len elem ht
      split at h
      · rename_i s hs
        obtain ⟨v, h2, h⟩ := oOpt_some h
        refine fin v ?_ h
        unfold iaA at h2
        split at h2
        · split at h2
          · cases h2
          · split at h2
            · split at h2
              · rename_i hb
                simp only [aindexAddr, ht, hb, hs]; exact h2
              · cases h2
            · cases h2
        · cases h2
      · cases h
    · cases h
  | index t x i =>
    obtain ⟨x', h1, h⟩ := dv_some h
    obtain ⟨i', h1', h⟩ := dv_some h
    obtain ⟨v, h2, h⟩ := oOpt_some h
    exact ⟨v, m, by simp [exA, acallee, aop, apure, he _ _ h1, he _ _ h1', h2], h⟩
  | slice t x lo hi mx =>
    obtain ⟨x', h1, h⟩ := dv_some h
    obtain ⟨vl, e1, g1, h⟩ := abound_tri ev' he h
    obtain ⟨vh, e2, g2, h⟩ := abound_tri ev' he h
    obtain ⟨vm, e3, g3, h⟩ := abound_tri ev' he h
    obtain ⟨v, h2, h⟩ := oOpt_some h
    rw [sl_eq P (g1 (tri vl vh vm) 0 fun _ _ => rfl) (g2 (tri vl vh vm) 1 fun _ _ => rfl) (g3 (tri vl vh vm) 2 fun _ _ => rfl) e1 e2 e3] at h2
    exact ⟨v, m, by simp [exA, acallee, aop, apure, he _ _ h1, h2], h⟩
  | makeFunc fn first cs =>
    simp only [denOp] at h
    split at h
    · split at h
      · rename_i f hfirst
        obtain ⟨vs, h1, h⟩ := dvs_some h
        exact ⟨_, m, by simp [exA, acallee, aop, apure, hfirst, evL_mono he _ _ h1], h⟩
      · cases h
    · cases h
  | makeInterface t x =>
    obtain ⟨x', h1, h⟩ := dv_some h
    obtain ⟨v, h2, h⟩ := oOpt_some h
    exact ⟨v, m, by simp [exA, acallee, aop, apure, he _ _ h1, h2], h⟩
  | build t parts =>
    obtain ⟨ps, h1, h⟩ := dps_some h
    obtain ⟨v, h2, h⟩ := oOpt_some h
    refine ⟨v, m, ?_, h⟩
    have : abuild P ev' t parts.toList = some v := by
      rw [← h2]
      simp only [abuild, bu, evP_mono he _ _ h1]
      rfl
    simp [exA, acallee, aop, apure, this]
  | typeAssert x xt t ok =>
    obtain ⟨x', h1, h⟩ := dv_some h
    obtain ⟨v, h2, h⟩ := oOpt_some h
    exact ⟨v, m, by simp [exA, acallee, aop, apure, he _ _ h1, h2], h⟩
  | alloc t =>
    simp only [denOp] at h
    split at h
    · rename_i cs hcs
      obtain ⟨v, m', h2, h⟩ := oRes_some h
      exact ⟨v, m', by simp [exA, acallee, aop, aalloc, hcs, h2], h⟩
    · cases h
  | box t x =>
    obtain ⟨x', h1, h⟩ := dv_some h
    obtain ⟨v, m', h2, h⟩ := oRes_some h
    exact ⟨v, m', by simp [exA, acallee, aop, he _ _ h1, h2], h⟩
  | buildSlice t len parts =>
    obtain ⟨ps, h1, h⟩ := dps_some h
    obtain ⟨v, m', h2, h⟩ := oRes_some h
    refine ⟨v, m', ?_, h⟩
    have : abuildSlice P ev' m t len parts.toList = some (v, m') := by
      rw [← h2]
      simp only [abuildSlice, bs, evP_mono he _ _ h1]
      rfl
    simp [exA, acallee, aop, this]
  | makeSlice t l c =>
    obtain ⟨l', h1, h⟩ := dv_some h
    obtain ⟨c', h1', h⟩ := dv_some h
    obtain ⟨v, m', h2, h⟩ := oRes_some h
    exact ⟨v, m', by simp [exA, acallee, aop, he _ _ h1, he _ _ h1', h2], h⟩
  | load t x =>
    obtain ⟨x', h1, h⟩ := dv_some h
    have fin : ∀ v, aload P m t x' = some v → k v m = some r → ∃ v m', exA P call L ev' m (.load t x) = some (v, m') ∧ k v m' = some r := fun v h3 h4 =>
      ⟨v, m, by simp [exA, acallee, aop, he _ _ h1, h3], h4⟩
    split at h
    · rename_i ht
      obtain ⟨v, h2, h⟩ := oOpt_some h
      refine fin v ?_ h
      unfold ld1 at h2
      split at h2
      · simp only [aload, ht]; exact h2
      · cases h2
    · rename_i ht
      split at h
      · rename_i s hs
        obtain ⟨v, h2, h⟩ := oOpt_some h
        refine fin v ?_ h
        unfold ldN at h2
        split at h2
        · simp only [aload, ht, hs]; exact h2
        · cases h2
      · cases h
    · cases h
  | store t x y =>
    obtain ⟨x', h1, h⟩ := dv_some h
    obtain ⟨y', h1', h⟩ := dv_some h
    split at h
    · rename_i s hs
      obtain ⟨v, m', h2, h⟩ := oRes_some h
      refine ⟨v, m', ?_, h⟩
      have : astore P L m t x' y' = some (v, m') := by
        unfold st1 at h2
        split at h2
        · simp only [astore, hs]; exact h2
        · cases h2
      simp [exA, acallee, aop, he _ _ h1, he _ _ h1', this]
    · cases h
  | call c =>
    simp only [denOp] at h
    split at h
    · rename_i b hb
      obtain ⟨vs, h1, h⟩ := dvs_some h
      have h1' := evL_mono he _ _ h1
      have slow : ∀ {v}, abuiltin P b c.argTypes vs = some v → b ≠ .append → b ≠ .copy → b ≠ .clear → k v m = some r → ∃ v m', exA P call L ev' m (.call c) = some (v, m') ∧ k v m' = some r := fun {v} h3 n1 n2 n3 h4 => by
        refine ⟨v, m, ?_, h4⟩
        cases b <;> first | (simp [abuiltin] at h3; done) | (simp [exA, acallee, aop, apure, hb, h1', h3]; done) | contradiction
      split at h
      · split at h
        · split at h
          · split at h
            · rename_i hts _ hbt
              obtain ⟨v, m', h2, h⟩ := oRes_some h
              exact ⟨v, m', by simp [exA, acallee, aop, hb, h1', hts, hbt, h2], h⟩
            · cases h
          · cases h
        · cases h
      · split at h
        · split at h
          · rename_i hts
            obtain ⟨v, m', h2, h⟩ := oRes_some h
            exact ⟨v, m', by simp only [exA, acallee, aop, hb, h1', hts, h2], h⟩
          · cases h
        · cases h
      · split at h
        · split at h
          · rename_i hts
            obtain ⟨v, m', h2, h⟩ := oRes_some h
            exact ⟨v, m', by simp only [exA, acallee, aop, hb, h1', hts, h2], h⟩
          · cases h
        · cases h
      · split at h
        · split at h
          · rename_i t hts
            split at h
            · rename_i e hu
              obtain ⟨v, h2, h⟩ := oOpt_some h
              refine slow (v := v) ?_ (by decide) (by decide) (by decide) h
              unfold ln at h2
              split at h2
              · simp only [abuiltin, hts, alen, hu]; exact h2
              · cases h2
            · obtain ⟨v, h2, h⟩ := oOpt_some h
              exact slow (v := v) (by simp only [abuiltin, hts]; exact h2) (by decide) (by decide) (by decide) h
          · cases h
        · cases h
      · rename_i n1 n2 n3 n4
        obtain ⟨v, h2, h⟩ := oOpt_some h
        exact slow h2 (fun e => n1 e) (fun e => n2 e) (fun e => n3 e) h
    · rename_i f hf'
      obtain ⟨vs, h1, h⟩ := dvs_some h
      have h1' := evL_mono he _ _ h1
      split at h
      · rename_i g
        obtain ⟨v, m', h2, h3⟩ := hc _ _ _ _ _ _ h
        exact ⟨v, m', by simp [exA, acallee, hf', hf, atarget, h1', h2], h3⟩
      · obtain ⟨vf, h2, h⟩ := dv_some h
        unfold oCallV at h
        split at h
        · rename_i g cs hg
          obtain ⟨v, m', h3, h4⟩ := hc _ _ _ _ _ _ h
          exact ⟨v, m', by simp [exA, acallee, hf', he _ _ h2, hg, h1', h3], h4⟩
        · cases h
    · cases h
  | _ => cases h
end
end Go.Vit

/- The shallow form: regions, code, functions; and that it reckons what the evaluator does. -/
namespace Go.Vit
open Go

abbrev Frm := List (Nat × Value)
abbrev KN (β : Type) := Frm → Mem → Option β
def memN (l : List Nat) (t : Nat) : Bool := match l with
  | [] => false
  | s :: l => match Nat.beq s t with
    | true => true
    | false => memN l t
def dsts : List (Oper × Bool) → List Nat
  | [] => []
  | (o, _) :: l => match o.dst with
    | some d => d :: dsts l
    | none => dsts l
def dsts0 : List Oper → List Nat
  | [] => []
  | o :: l => match o.dst with
    | some d => d :: dsts0 l
    | none => dsts0 l
/-- What a code assigns. -/
def asg : Code → List Nat
  | .region _ ops _ => dsts0 ops.toList
  | .seq a b => asg a ++ asg b
  | .cond _ a b => asg a ++ asg b
  | .block _ b => asg b
  | .loop b => asg b
  | _ => []
def hasX (id : Nat) : Code → Nat
  | .seq a b => Nat.add (hasX id a) (hasX id b)
  | .cond _ a b => Nat.add (hasX id a) (hasX id b)
  | .block _ b => hasX id b
  | .loop b => hasX id b
  | .exit i => match Nat.beq i id with
    | true => 1
    | false => 0
  | _ => 0
def falls : Code → Bool
  | .seq a b => match falls a with
    | true => falls b
    | false => false
  | .cond _ a b => match falls a with
    | true => true
    | false => falls b
  | .block id b => match falls b with
    | true => true
    | false => Nat.ble 1 (hasX id b)
  | .loop _ => false
  | .exit _ => false
  | .ret => false
  | _ => true
def multi (id : Nat) (b : Code) : Bool := match falls b with
  | true => Nat.ble 1 (hasX id b)
  | false => Nat.ble 2 (hasX id b)
def both (a b : Code) : Bool := match falls a with
  | true => falls b
  | false => false
def rmv (ds : List Nat) : Frm → Frm
  | [] => []
  | (t, v) :: fr => match memN ds t with
    | true => rmv ds fr
    | false => (t, v) :: rmv ds fr
def sameG (a b : Option (Nat × Bool)) : Bool := match a, b with
  | none, none => true
  | some (i, true), some (j, true) => Nat.beq i j
  | some (i, false), some (j, false) => Nat.beq i j
  | _, _ => false
def segs : List (Oper × Bool) → List (Option (Nat × Bool) × List (Oper × Bool))
  | [] => []
  | x :: l => match segs l with
    | [] => [(x.1.guard, [x])]
    | (g, os) :: rest => match sameG g x.1.guard with
      | true => (g, x :: os) :: rest
      | false => (x.1.guard, [x]) :: (g, os) :: rest
/-- Which slots a join carries: by a place's number and a further one. -/
abbrev Kat := List (Nat × (Nat × List Nat))
def katOf : Kat → Nat → Nat → List Nat
  | [], _, _ => []
  | (p, (i, l)) :: r, q, j => match Nat.beq p q with
    | true => match Nat.beq i j with
      | true => l
      | false => katOf r q j
    | false => katOf r q j

section
variable {β : Type}
def bindK : List Nat → List Value → Frm → (Frm → Option β) → Option β
  | [], _, fr, k => deep c40 <| k fr
  | s :: ss, vs, fr, k => deep c40 <| uc vs fun a vs => bindK ss vs ((s, a) :: fr) k
def packK : List Nat → Frm → (List Value → Option β) → Option β
  | [], _, k => deep c40 <| k []
  | s :: ss, fr, k => deep c40 <| match look fr s with
    | some v => packK ss fr fun vs => k (v :: vs)
    | none => none
def bindA : Nat → Nat → List Value → Frm → (Frm → Option β) → Option β
  | _, 0, l, fr, k => deep c40 <| un0 l (k fr)
  | s, n + 1, l, fr, k => deep c40 <| uc l fun a l => bindA (Nat.succ s) n l ((s, a) :: fr) k
def undefK (N : Nat) : List (Oper × Bool) → Frm → (Frm → Option β) → Option β
  | [], fr, k => deep c40 <| k fr
  | (o, _) :: l, fr, k => deep c40 <| match o.dst with
    | none => undefK N l fr k
    | some d => match Nat.blt d N with
      | true => undefK N l ((d, Go.undef) :: fr) k
      | false => none
def denRun (P : Program) (G N : Nat) (call : CallK β) (L : Nat) : List (Oper × Bool) → Frm → Mem → KN β → Option β
  | [], fr, m, k => k fr m
  | (o, e) :: l, fr, m, k => denOp P call (match e with | true => L | false => m.next) (aeval G (look fr)) m o.op fun v m => match o.dst with
    | none => denRun P G N call L l fr m k
    | some d => match Nat.blt d N with
      | true => denRun P G N call L l ((d, v) :: fr) m k
      | false => none
def guardK (want : Bool) (v : Value) (a b : Option β) : Option β := deep c40 <| match want with
  | true => oGT v a b
  | false => oGF v a b
def denSegs (P : Program) (G N : Nat) (call : CallK β) (ka : Kat) (L : Nat) (ops : List Oper) (p : Nat) : List (Option (Nat × Bool) × List (Oper × Bool)) → Nat → Frm → Mem → KN β → Option β
  | [], _, fr, m, k => k fr m
  | (g, os) :: rest, i, fr, m, k => match g with
    | none => denRun P G N call L os fr m fun fr m => denSegs P G N call ka L ops p rest (Nat.succ i) fr m k
    | some (j, want) => match lget ops j with
      | none => none
      | some oj => match oj.dst with
        | none => none
        | some d => match memN (dsts os) d with
          | true => none
          | false => match look fr d with
            | none => none
            | some vb => join (fun vs m => bindK (katOf ka p i) vs (rmv (dsts os) fr) fun fr => denSegs P G N call ka L ops p rest (Nat.succ i) fr m k)
                fun jn => guardK want vb (denRun P G N call L os fr m fun fr m => packK (katOf ka p i) fr fun vs => jn vs m) (undefK N os fr fun fr => packK (katOf ka p i) fr fun vs => jn vs m)
def neK (ev : Operand → Option Value) : List (Operand × Operand) → Option β → Option β
  | [], k => k
  | (a, b) :: l, k => match ev a with
    | none => none
    | some x => match ev b with
      | none => none
      | some y => oNe x y (neK ev l k)
def denReg1 (P : Program) (G N : Nat) (call : CallK β) (ka : Kat) (L : Nat) (ops : List Oper) (p : Nat) (draw : Bool) (fr : Frm) (m : Mem) (k : KN β) : Option β := match draw with
  | false => denSegs P G N call ka L ops p (segs (pairT ops)) 0 fr m k
  | true => match needLoose ops with
    | true => match looseOk ops with
      | true => denSegs P G N call ka L ops p (segs (pairT ops)) 0 fr m fun fr m => neK (aeval G (look fr)) (loosePairs ops) (k fr m)
      | false => none
    | false => match drawOk ops with
      | true => denSegs P G N call ka L ops p (segs (flags ops)) 0 fr m k
      | false => none
def smK (ev : Operand → Option Value) (m m' : Mem) : List Operand → Option β → Option β
  | [], k => k
  | a :: l, k => match ev a with
    | none => none
    | some v => oSm m m' v (smK ev m m' l k)
def denReg (P : Program) (G N : Nat) (call : CallK β) (ka : Kat) (L : Nat) (ops : List Oper) (p : Nat) (draw : Bool) (fr : Frm) (m : Mem) (k : KN β) : Option β := match draw with
  | false => denReg1 P G N call ka L ops p false fr m k
  | true => match lateCut ops with
    | none => denReg1 P G N call ka L ops p true fr m k
    | some j => denSegs P G N call ka L ops p (segs ((lflags ops).take j)) 0 fr m fun fr1 m1 =>
        denSegs P G N call ka L ops p (segs (((lflags ops).drop j).take 1)) (segs ((lflags ops).take j)).length fr1 m1 fun fr2 m2 =>
          smK (aeval G (look fr1)) m1 m2 (lateAddrs ops j) (denSegs P G N call ka L ops p (segs ((lflags ops).drop (Nat.succ j))) (Nat.succ (segs ((lflags ops).take j)).length) fr2 m2 k)
def lookK : List (Nat × KN β) → Nat → Option (KN β)
  | [], _ => none
  | (i, k) :: l, id => match Nat.beq i id with
    | true => some k
    | false => lookK l id
def den (P : Program) (G N : Nat) (call : CallK β) (ka : Kat) (lf L : Nat) : Code → Nat → Frm → Mem → KN β → List (Nat × KN β) → KN β → Option β
  | .skip, _, fr, m, k, _, _ => k fr m
  | .region _ ops draw, p, fr, m, k, _, _ => denReg P G N call ka L ops.toList p draw fr m k
  | .seq a b, p, fr, m, k, ks, kr => den P G N call ka lf L a (Nat.add (Nat.mul 2 p) 1) fr m (fun fr m => den P G N call ka lf L b (Nat.add (Nat.mul 2 p) 2) fr m k ks kr) ks kr
  | .cond c a b, p, fr, m, k, ks, kr => match aeval G (look fr) c with
    | none => none
    | some v => match both a b with
      | true => join (fun vs m => bindK (katOf ka p 0) vs (rmv (asg a ++ asg b) fr) fun fr => k fr m)
          fun jn => oIf v (den P G N call ka lf L a (Nat.add (Nat.mul 2 p) 1) fr m (fun fr m => packK (katOf ka p 0) fr fun vs => jn vs m) ks kr)
            (den P G N call ka lf L b (Nat.add (Nat.mul 2 p) 2) fr m (fun fr m => packK (katOf ka p 0) fr fun vs => jn vs m) ks kr)
      | false => oIf v (den P G N call ka lf L a (Nat.add (Nat.mul 2 p) 1) fr m k ks kr) (den P G N call ka lf L b (Nat.add (Nat.mul 2 p) 2) fr m k ks kr)
  | .block id body, p, fr, m, k, ks, kr => match multi id body with
    | true => join (fun vs m => bindK (katOf ka p 0) vs (rmv (asg body) fr) fun fr => k fr m)
        fun jn => den P G N call ka lf L body (Nat.add (Nat.mul 2 p) 1) fr m (fun fr m => packK (katOf ka p 0) fr fun vs => jn vs m) ((Nat.mul 2 id, fun fr m => packK (katOf ka p 0) fr fun vs => jn vs m) :: ks) kr
    | false => den P G N call ka lf L body (Nat.add (Nat.mul 2 p) 1) fr m k ((Nat.mul 2 id, k) :: ks) kr
  | .loop body, p, fr, m, _, ks, kr => packK (katOf ka p 0) fr fun vs =>
      loopS (fun self vs m => bindK (katOf ka p 0) vs (rmv (asg body) fr) fun fr => den P G N call ka lf L body (Nat.add (Nat.mul 2 p) 1) fr m (fun fr m => packK (katOf ka p 0) fr fun vs => self vs m) ks kr) lf vs m
  | .goto l, _, fr, m, _, ks, _ => match lookK ks (Nat.succ (Nat.mul 2 l)) with
    | some k => k fr m
    | none => none
  | .exit id, _, fr, m, _, ks, _ => match lookK ks (Nat.mul 2 id) with
    | some k => k fr m
    | none => none
  | .ret, _, fr, m, _, _, kr => kr fr m
  | .label _, _, fr, m, k, _, _ => k fr m
  | _, _, _, _, _, _, _ => none
def labOf : Code → Option Nat
  | .seq a b => match labOf a with
    | some l => some l
    | none => labOf b
  | .label l => some l
  | _ => none
/-- A body: a scope with one label may be its last part. -/
def denB (P : Program) (G N : Nat) (call : CallK β) (ka : Kat) (lf L : Nat) : Code → Nat → Frm → Mem → KN β → KN β → Option β
  | .scope c, p, fr, m, k, kr => match labOf c with
    | none => none
    | some l => match findLabel c l with
      | none => none
      | some rest => join (fun vs m => loopS (fun self vs m => bindK (katOf ka p 0) vs (rmv (asg c ++ asg rest) fr) fun fr => den P G N call ka lf L rest (Nat.add (Nat.mul 2 p) 2) fr m k [(Nat.succ (Nat.mul 2 l), fun fr m => packK (katOf ka p 0) fr fun vs => self vs m)] kr) lf vs m)
          fun jn => den P G N call ka lf L c (Nat.add (Nat.mul 2 p) 1) fr m k [(Nat.succ (Nat.mul 2 l), fun fr m => packK (katOf ka p 0) fr fun vs => jn vs m)] kr
  | .seq a b, p, fr, m, k, kr => den P G N call ka lf L a (Nat.add (Nat.mul 2 p) 1) fr m (fun fr m => denB P G N call ka lf L b (Nat.add (Nat.mul 2 p) 2) fr m k kr) [] kr
  | c, p, fr, m, k, kr => den P G N call ka lf L c p fr m k [] kr
def denLd (P : Program) (m : Mem) (t : TypeId) (x : Value) (k : Value → Option β) : Option β := deep c40 <| match tagg P t with
  | some false => oOpt (ld1 m x) k
  | some true => match tsize P t with
    | some s => oOpt (ldN m s x) k
    | none => none
  | none => none
def denRes (P : Program) : List ResultVar → Frm → Mem → (List Value → Option β) → Option β
  | [], _, _, k => deep c40 <| k []
  | r :: l, fr, m, k => deep c40 <| match r with
    | .tmp t => match look fr t with
      | some v => denRes P l fr m fun vs => k (v :: vs)
      | none => none
    | .cell a t => match look fr a with
      | some x => denLd P m t x fun v => denRes P l fr m fun vs => k (v :: vs)
      | none => none
def denF (P : Program) (G : Nat) (ka : Kat) (lf : Nat) (call : CallK β) : CallK β := fun f args L m k => match P.funcs[f]? with
  | none => none
  | some fn => match fn.body with
    | none => none
    | some c => match Nat.ble (Nat.add fn.params.size fn.nfree) fn.ntmps with
      | false => none
      | true => bindA 0 (Nat.add fn.params.size fn.nfree) args [] fun fr => denB P G fn.ntmps call ka lf L c 1 fr m (fun fr m => denRes P fn.results.toList fr m fun vs => k (oneOr vs) m) (fun fr m => denRes P fn.results.toList fr m fun vs => k (oneOr vs) m)

/-! ### It reckons what the evaluator does -/
structure Sub (N : Nat) (fr : Frm) (fr1 : Fr) : Prop where
  len : fr1.ps.length = N
  get : ∀ t v, look fr t = some v → t < N ∧ lget fr1.ps t = some v
def Kept (ds : List Nat) (fr1 fr2 : Fr) : Prop := ∀ t, memN ds t = false → lget fr2.ps t = lget fr1.ps t

theorem pos_range : ∀ (n s t : Nat), s ≤ t → t < s + n → pos (List.range' s n) t = some (t - s)
  | 0, s, t, h1, h2 => by omega
  | n + 1, s, t, h1, h2 => by
    rw [range_cons]
    simp only [pos]
    by_cases h : s = t
    · subst h
      have hb : Nat.beq s s = true := Nat.beq_refl s
      rw [hb]
      simp
    · have hb : Nat.beq s t = false := by
        cases hh : Nat.beq s t with
        | false => rfl
        | true => exact absurd (Nat.eq_of_beq_eq_true hh) h
      rw [hb]
      simp only []
      rw [pos_range n (s + 1) t (by omega) (by omega)]
      simp only [Option.some.injEq]
      omega
theorem pos_all {N t : Nat} (h : t < N) : pos (List.range N) t = some t := by
  rw [List.range_eq_range', pos_range N 0 t (by omega) (by omega)]
  rfl
theorem Sub.fget {N : Nat} {fr : Frm} {fr1 : Fr} (h : Sub N fr fr1) {t : Nat} {v : Value} (ht : look fr t = some v) : Vit.fget (List.range N) fr1 t = some v := by
  obtain ⟨h1, h2⟩ := h.get t v ht
  unfold Vit.fget
  rw [pos_all h1]
  exact h2
theorem Sub.eval {N G : Nat} {fr : Frm} {fr1 : Fr} (h : Sub N fr fr1) (x : Operand) (v : Value) (hx : aeval G (look fr) x = some v) : aeval G (Vit.fget (List.range N) fr1) x = some v := by
  cases x with
  | tmp t => exact h.fget hx
  | _ => exact hx
/-- A slot set. -/
def put1 (fr1 : Fr) (d : Nat) (v : Value) : Fr := ⟨fr1.ps.set d v, fr1.ts⟩
theorem fsetK_all {γ : Type} {N d : Nat} (h : Nat.blt d N = true) (fr1 : Fr) (v : Value) (k : Fr → Option γ) : fsetK N (List.range N) fr1 d v k = k (put1 fr1 d v) := by
  have hd : d < N := by simpa using h
  unfold fsetK
  rw [h, pos_all hd]
  simp only [lsetK_eq]
  rfl
theorem Sub.put {N : Nat} {fr : Frm} {fr1 : Fr} (h : Sub N fr fr1) {d : Nat} (v : Value) (hd : Nat.blt d N = true) : Sub N ((d, v) :: fr) (put1 fr1 d v) := by
  have hd : d < N := by simpa using hd
  refine ⟨by simp [put1, h.len], fun t u hu => ?_⟩
  simp only [look] at hu
  split at hu
  · rename_i hb
    obtain rfl := Nat.eq_of_beq_eq_true hb
    cases hu
    exact ⟨hd, by simp [put1, lget_eq, List.getElem?_set, h.len, hd]⟩
  · rename_i hb
    obtain ⟨g1, g2⟩ := h.get t u hu
    have hne : d ≠ t := fun e => by subst e; rw [Nat.beq_refl] at hb; cases hb
    refine ⟨g1, ?_⟩
    rw [lget_eq] at g2 ⊢
    simp only [put1, List.getElem?_set, hne, if_false]
    exact g2
theorem Kept.refl (ds : List Nat) (fr1 : Fr) : Kept ds fr1 fr1 := fun _ _ => rfl
theorem memN_append : ∀ (a b : List Nat) (t : Nat), memN (a ++ b) t = false → memN a t = false ∧ memN b t = false
  | [], b, t, h => ⟨rfl, h⟩
  | s :: a, b, t, h => by
    simp only [List.cons_append, memN] at h ⊢
    split at h
    · cases h
    · rename_i hb
      simpa [hb] using memN_append a b t h
theorem Kept.trans {a b : List Nat} {fr1 fr2 fr3 : Fr} (h : Kept a fr1 fr2) (h' : Kept b fr2 fr3) : Kept (a ++ b) fr1 fr3 := fun t ht => by
  obtain ⟨h1, h2⟩ := memN_append a b t ht
  exact (h' t h2).trans (h t h1)
theorem Kept.left {a b : List Nat} {fr1 fr2 : Fr} (h : Kept a fr1 fr2) : Kept (a ++ b) fr1 fr2 := fun t ht => h t (memN_append a b t ht).1
theorem Kept.right {a b : List Nat} {fr1 fr2 : Fr} (h : Kept b fr1 fr2) : Kept (a ++ b) fr1 fr2 := fun t ht => h t (memN_append a b t ht).2
theorem Kept.put (fr1 : Fr) (d : Nat) (v : Value) : Kept [d] fr1 (put1 fr1 d v) := fun t ht => by
  simp only [memN] at ht
  split at ht
  · cases ht
  · rename_i hb
    have hne : d ≠ t := fun e => by subst e; rw [Nat.beq_refl] at hb; cases hb
    rw [lget_eq, lget_eq]
    simp only [put1, List.getElem?_set, hne, if_false]
theorem look_rmv {ds : List Nat} {t : Nat} {v : Value} : ∀ {fr : Frm}, look (rmv ds fr) t = some v → memN ds t = false ∧ look fr t = some v
  | [], h => by cases h
  | (s, u) :: fr, h => by
    simp only [rmv] at h
    split at h
    · rename_i hs
      obtain ⟨h1, h2⟩ := look_rmv h
      refine ⟨h1, ?_⟩
      simp only [look]
      split
      · rename_i hb
        obtain rfl := Nat.eq_of_beq_eq_true hb
        rw [hs] at h1; cases h1
      · exact h2
    · rename_i hs
      simp only [look] at h ⊢
      split at h
      · rename_i hb
        obtain rfl := Nat.eq_of_beq_eq_true hb
        exact ⟨hs, h⟩
      · exact look_rmv h
theorem Sub.rmv {N : Nat} {fr : Frm} {fr1 fr2 : Fr} (h : Sub N fr fr1) {ds : List Nat} (hk : Kept ds fr1 fr2) (hl : fr2.ps.length = N) : Sub N (rmv ds fr) fr2 := by
  refine ⟨hl, fun t v hv => ?_⟩
  obtain ⟨h1, h2⟩ := look_rmv hv
  obtain ⟨h3, h4⟩ := h.get t v h2
  exact ⟨h3, (hk t h1).trans h4⟩
theorem uc_some {l : List Value} {k : Value → List Value → Option β} {r : β} (h : uc l k = some r) : ∃ a l', l = a :: l' ∧ k a l' = some r := by
  unfold uc at h
  split at h
  · rename_i a l'; exact ⟨a, l', rfl, h⟩
  · cases h
theorem Sub.cons {N : Nat} {fr : Frm} {fr1 : Fr} (h : Sub N fr fr1) {s : Nat} {v : Value} (hs : s < N ∧ lget fr1.ps s = some v) : Sub N ((s, v) :: fr) fr1 := by
  refine ⟨h.len, fun t u hu => ?_⟩
  simp only [look] at hu
  split at hu
  · rename_i hb
    obtain rfl := Nat.eq_of_beq_eq_true hb
    cases hu
    exact hs
  · exact h.get t u hu
/-- What is packed is unpacked. -/
theorem pack_bind {N : Nat} {fr1 : Fr} {r : β} : ∀ (K : List Nat) {fr fr0 : Frm} {k : Frm → Option β}, Sub N fr fr1 → Sub N fr0 fr1 → packK K fr (fun vs => bindK K vs fr0 k) = some r → ∃ fr', Sub N fr' fr1 ∧ k fr' = some r
  | [], fr, fr0, k, h1, h2, h => ⟨fr0, h2, h⟩
  | s :: ss, fr, fr0, k, h1, h2, h => by
    simp only [packK, deep_eq] at h
    split at h
    · rename_i v hv
      simp only [bindK, deep_eq, uc] at h
      exact pack_bind ss h1 (h2.cons (h1.get s v hv)) h
    · cases h

section
variable {P : Program} {G N L lf : Nat} {callK : CallK β} {call : CallT} {ka : Kat}

/-- A run of operations that are all wanted. -/
theorem denRun_ok (hc : CallSim callK call) {ops : List Oper} {r : β} {k : KN β} {W : Fr → Prop} : ∀ (l : List (Oper × Bool)) (fr : Frm) (m : Mem) (fr1 : Fr),
    (∀ x, x ∈ l → ∀ fr2, W fr2 → wantA (List.range N) ops fr2 x.1 = some true) → (∀ x, x ∈ l → ∀ d, x.1.dst = some d → ∀ v fr2, W fr2 → W (put1 fr2 d v)) → W fr1 → Sub N fr fr1 →
    denRun P G N callK L l fr m k = some r → ∃ fr' fr1' m', (∀ rest, evOps P G N (List.range N) call ops L (l ++ rest) fr1 m = evOps P G N (List.range N) call ops L rest fr1' m') ∧ Sub N fr' fr1' ∧ Kept (dsts l) fr1 fr1' ∧ k fr' m' = some r
  | [], fr, m, fr1, _, _, _, hs, h => ⟨fr, fr1, m, fun rest => rfl, hs, Kept.refl _ _, h⟩
  | (o, e) :: l, fr, m, fr1, hw, hp, hW, hs, h => by
    simp only [denRun] at h
    obtain ⟨v, m1, hx, h⟩ := denOp_ok (ev' := aeval G (fget (List.range N) fr1)) (fun x v hx => hs.eval x v hx) (fun g => rfl) hc h
    have hwant := hw (o, e) (List.mem_cons_self ..) fr1 hW
    split at h
    · rename_i hd
      obtain ⟨fr', fr1', m', h1, h2, h3, h4⟩ := denRun_ok hc l fr m1 fr1 (fun x hx => hw x (List.mem_cons_of_mem _ hx)) (fun x hx => hp x (List.mem_cons_of_mem _ hx)) hW hs h
      refine ⟨fr', fr1', m', fun rest => ?_, h2, ?_, h4⟩
      · cases e <;> simp only [] at hx <;> simp only [List.cons_append, evOps, hwant, hx, hd] <;> exact h1 rest
      · simp only [dsts, hd]; exact h3
    · rename_i d hd
      split at h
      · rename_i hdN
        obtain ⟨fr', fr1', m', h1, h2, h3, h4⟩ := denRun_ok hc l ((d, v) :: fr) m1 (put1 fr1 d v) (fun x hx => hw x (List.mem_cons_of_mem _ hx)) (fun x hx => hp x (List.mem_cons_of_mem _ hx))
          (hp (o, e) (List.mem_cons_self ..) d hd v fr1 hW) (hs.put v hdN) h
        refine ⟨fr', fr1', m', fun rest => ?_, h2, ?_, h4⟩
        · cases e <;> simp only [] at hx <;> simp only [List.cons_append, evOps, hwant, hx, hd, fsetK_all hdN] <;> exact h1 rest
        · simp only [dsts, hd]
          exact Kept.trans (a := [d]) (Kept.put _ _ _) h3
      · cases h
/-- A run of operations none of which is wanted. -/
theorem undefK_ok {ops : List Oper} {r : β} {k : Frm → Option β} {W : Fr → Prop} : ∀ (l : List (Oper × Bool)) (fr : Frm) (m : Mem) (fr1 : Fr),
    (∀ x, x ∈ l → ∀ fr2, W fr2 → wantA (List.range N) ops fr2 x.1 = some false) → (∀ x, x ∈ l → ∀ d, x.1.dst = some d → ∀ v fr2, W fr2 → W (put1 fr2 d v)) → W fr1 → Sub N fr fr1 →
    undefK N l fr k = some r → ∃ fr' fr1', (∀ rest, evOps P G N (List.range N) call ops L (l ++ rest) fr1 m = evOps P G N (List.range N) call ops L rest fr1' m) ∧ Sub N fr' fr1' ∧ Kept (dsts l) fr1 fr1' ∧ k fr' = some r
  | [], fr, m, fr1, _, _, _, hs, h => ⟨fr, fr1, fun rest => rfl, hs, Kept.refl _ _, h⟩
  | (o, e) :: l, fr, m, fr1, hw, hp, hW, hs, h => by
    simp only [undefK, deep_eq] at h
    have hwant := hw (o, e) (List.mem_cons_self ..) fr1 hW
    split at h
    · rename_i hd
      obtain ⟨fr', fr1', h1, h2, h3, h4⟩ := undefK_ok l fr m fr1 (fun x hx => hw x (List.mem_cons_of_mem _ hx)) (fun x hx => hp x (List.mem_cons_of_mem _ hx)) hW hs h
      refine ⟨fr', fr1', fun rest => ?_, h2, ?_, h4⟩
      · simp only [List.cons_append, evOps, hwant, hd]
        exact h1 rest
      · simp only [dsts, hd]; exact h3
    · rename_i d hd
      split at h
      · rename_i hdN
        obtain ⟨fr', fr1', h1, h2, h3, h4⟩ := undefK_ok l ((d, Go.undef) :: fr) m (put1 fr1 d Go.undef) (fun x hx => hw x (List.mem_cons_of_mem _ hx)) (fun x hx => hp x (List.mem_cons_of_mem _ hx))
          (hp (o, e) (List.mem_cons_self ..) d hd _ fr1 hW) (hs.put _ hdN) h
        refine ⟨fr', fr1', fun rest => ?_, h2, ?_, h4⟩
        · simp only [List.cons_append, evOps, hwant, hd, fsetK_all hdN]
          exact h1 rest
        · simp only [dsts, hd]
          exact Kept.trans (a := [d]) (Kept.put _ _ _) h3
      · cases h
end
end
end Go.Vit

/- The shallow form is sound: regions, code, functions. -/
namespace Go.Vit
open Go

theorem dsts_append : ∀ a b : List (Oper × Bool), dsts (a ++ b) = dsts a ++ dsts b
  | [], b => rfl
  | (o, e) :: a, b => by
    simp only [List.cons_append, dsts]
    cases o.dst <;> simp [dsts_append a b]
theorem memN_tail {d s : Nat} {l : List Nat} (h : memN (s :: l) d = false) : s ≠ d ∧ memN l d = false := by
  simp only [memN] at h
  split at h
  · cases h
  · rename_i hb
    refine ⟨fun he => ?_, h⟩
    subst he
    rw [Nat.beq_refl] at hb
    cases hb
theorem dsts_mem {d d' : Nat} : ∀ {l : List (Oper × Bool)} {x : Oper × Bool}, memN (dsts l) d = false → x ∈ l → x.1.dst = some d' → d' ≠ d
  | [], x, _, hx, _ => absurd hx List.not_mem_nil
  | (o, e) :: l, x, h, hx, hd => by
    have hcons : dsts ((o, e) :: l) = match o.dst with | some d => d :: dsts l | none => dsts l := rfl
    rw [hcons] at h
    rcases List.mem_cons.1 hx with rfl | hx
    · have hd : o.dst = some d' := hd
      rw [hd] at h
      exact (memN_tail h).1
    · refine dsts_mem (l := l) ?_ hx hd
      cases ho : o.dst with
      | none => rw [ho] at h; exact h
      | some d2 => rw [ho] at h; exact (memN_tail h).2
theorem sameG_eq {a b : Option (Nat × Bool)} (h : sameG a b = true) : a = b := by
  unfold sameG at h
  split at h
  · rfl
  · obtain rfl := Nat.eq_of_beq_eq_true h; rfl
  · obtain rfl := Nat.eq_of_beq_eq_true h; rfl
  · cases h
def flat (sg : List (Option (Nat × Bool) × List (Oper × Bool))) : List (Oper × Bool) := sg.flatMap (·.2)
theorem segs_ok : ∀ l, flat (segs l) = l ∧ ∀ g os, (g, os) ∈ segs l → ∀ x, x ∈ os → x.1.guard = g
  | [] => ⟨rfl, fun g os h => by cases h⟩
  | x :: l => by
    obtain ⟨h1, h2⟩ := segs_ok l
    simp only [segs]
    split
    · rename_i hs
      rw [hs] at h1
      refine ⟨by rw [← h1]; rfl, fun g os h y hy => ?_⟩
      simp only [List.mem_singleton, Prod.mk.injEq] at h
      obtain ⟨rfl, rfl⟩ := h
      simp only [List.mem_singleton] at hy
      subst hy
      rfl
    · rename_i g os rest hs
      rw [hs] at h1 h2
      split
      · rename_i hg
        have hg := sameG_eq hg
        refine ⟨by rw [← h1]; rfl, fun g' os' h y hy => ?_⟩
        cases h with
        | head =>
          cases hy with
          | head => exact hg.symm
          | tail _ hy => exact h2 g os (List.mem_cons_self ..) y hy
        | tail _ h => exact h2 g' os' (List.mem_cons_of_mem _ h) y hy
      · refine ⟨by rw [← h1]; rfl, fun g' os' h y hy => ?_⟩
        cases h with
        | head =>
          simp only [List.mem_singleton] at hy
          subst hy
          rfl
        | tail _ h => exact h2 g' os' h y hy

section
variable {β : Type} {P : Program} {G N L lf : Nat} {callK : CallK β} {call : CallT} {ka : Kat}

theorem guardK_some {want : Bool} {v : Value} {a b : Option β} {r : β} (h : guardK want v a b = some r) : (v = .bool want ∧ a = some r) ∨ ((v = .bool (!want) ∨ ∃ vs, v = .tuple vs) ∧ b = some r) := by
  simp only [guardK, deep_eq] at h
  split at h
  · unfold oGT at h
    split at h
    · split at h
      · exact .inl ⟨rfl, h⟩
      · exact .inr ⟨.inl rfl, h⟩
    · rename_i vs; exact .inr ⟨.inr ⟨_, rfl⟩, h⟩
    · cases h
  · unfold oGF at h
    split at h
    · split at h
      · exact .inr ⟨.inl rfl, h⟩
      · exact .inl ⟨rfl, h⟩
    · rename_i vs; exact .inr ⟨.inr ⟨_, rfl⟩, h⟩
    · cases h

theorem Kept.len {ds : List Nat} {fr1 fr2 : Fr} {N : Nat} {fr : Frm} (h : Sub N fr fr2) : fr2.ps.length = N := h.len

theorem denSegs_ok (hc : CallSim callK call) {ops : List Oper} {p : Nat} {r : β} {k : KN β} : ∀ (sg : List (Option (Nat × Bool) × List (Oper × Bool))) (i : Nat) (fr : Frm) (m : Mem) (fr1 : Fr),
    (∀ g os, (g, os) ∈ sg → ∀ x, x ∈ os → x.1.guard = g) → Sub N fr fr1 → denSegs P G N callK ka L ops p sg i fr m k = some r →
    ∃ fr' fr1' m', evOps P G N (List.range N) call ops L (flat sg) fr1 m = some (fr1', m') ∧ Sub N fr' fr1' ∧ Kept (dsts (flat sg)) fr1 fr1' ∧ k fr' m' = some r
  | [], i, fr, m, fr1, _, hs, h => ⟨fr, fr1, m, rfl, hs, Kept.refl _ _, h⟩
  | (g, os) :: rest, i, fr, m, fr1, hg, hs, h => by
    have hgo := hg g os (List.mem_cons_self ..)
    have hgr : ∀ g os, (g, os) ∈ rest → ∀ x, x ∈ os → x.1.guard = g := fun g os hm => hg g os (List.mem_cons_of_mem _ hm)
    have hfl : flat ((g, os) :: rest) = os ++ flat rest := rfl
    simp only [denSegs] at h
    split at h
    · obtain ⟨fr', fr1', m', h1, h2, h3, h4⟩ := denRun_ok (W := fun _ => True) (ops := ops) hc os fr m fr1 (fun x hx fr2 _ => by simp only [wantA, hgo x hx]) (fun _ _ _ _ _ _ _ => trivial) trivial hs h
      obtain ⟨fr2, fr3, m2, g1, g2, g3, g4⟩ := denSegs_ok hc rest (Nat.succ i) fr' m' fr1' hgr h2 h4
      refine ⟨fr2, fr3, m2, ?_, g2, ?_, g4⟩
      · rw [hfl, h1, g1]
      · rw [hfl, dsts_append]; exact h3.trans g3
    · rename_i j want
      split at h
      · cases h
      · rename_i oj hoj
        split at h
        · cases h
        · rename_i d hd
          split at h
          · cases h
          · rename_i hmem
            split at h
            · cases h
            · rename_i vb hvb
              obtain ⟨hdN, hlg⟩ := hs.get d vb hvb
              have hfg : ∀ fr2 : Fr, lget fr2.ps d = some vb → fget (List.range N) fr2 d = some vb := fun fr2 h2 => by
                unfold fget; rw [pos_all hdN]; exact h2
              have pres : ∀ x, x ∈ os → ∀ d', x.1.dst = some d' → ∀ v fr2, lget fr2.ps d = some vb → lget (put1 fr2 d' v).ps d = some vb := fun x hx d' hd' v fr2 h2 => by
                have hne := dsts_mem hmem hx hd'
                rw [lget_eq] at h2 ⊢
                simp only [put1, List.getElem?_set, hne, if_false]
                exact h2
              -- behind the join
              have fin : ∀ fr' fr1' m', (∀ rest, evOps P G N (List.range N) call ops L (os ++ rest) fr1 m = evOps P G N (List.range N) call ops L rest fr1' m') → Sub N fr' fr1' → Kept (dsts os) fr1 fr1' →
                  packK (katOf ka p i) fr' (fun vs => bindK (katOf ka p i) vs (rmv (dsts os) fr) fun fr => denSegs P G N callK ka L ops p rest (Nat.succ i) fr m' k) = some r →
                  ∃ fr' fr1' m', evOps P G N (List.range N) call ops L (flat ((some (j, want), os) :: rest)) fr1 m = some (fr1', m') ∧ Sub N fr' fr1' ∧ Kept (dsts (flat ((some (j, want), os) :: rest))) fr1 fr1' ∧ k fr' m' = some r := by
                intro fr' fr1' m' h1 h2 h3 h4
                obtain ⟨fr4, h5, h6⟩ := pack_bind _ h2 (hs.rmv h3 h2.len) h4
                obtain ⟨fr2, fr3, m2, g1, g2, g3, g4⟩ := denSegs_ok hc rest (Nat.succ i) fr4 m' fr1' hgr h5 h6
                refine ⟨fr2, fr3, m2, ?_, g2, ?_, g4⟩
                · rw [hfl, h1, g1]
                · rw [hfl, dsts_append]; exact h3.trans g3
              simp only [join] at h
              have hh := guardK_some h
              clear h
              rcases hh with ⟨rfl, h⟩ | ⟨hv, h⟩
              · obtain ⟨fr', fr1', m', h1, h2, h3, h4⟩ := denRun_ok (W := fun fr2 => lget fr2.ps d = some (.bool want)) (ops := ops) hc os fr m fr1
                  (fun x hx fr2 hW => by simp only [wantA, hgo x hx, hoj, hd, hfg fr2 hW]; cases want <;> rfl) pres hlg hs h
                exact fin fr' fr1' m' h1 h2 h3 h4
              · obtain ⟨fr', fr1', h1, h2, h3, h4⟩ := undefK_ok (P := P) (G := G) (L := L) (call := call) (W := fun fr2 => lget fr2.ps d = some vb) (ops := ops) os fr m fr1
                  (fun x hx fr2 hW => by
                    simp only [wantA, hgo x hx, hoj, hd, hfg fr2 hW]
                    rcases hv with rfl | ⟨vs, rfl⟩
                    · cases want <;> rfl
                    · rfl) pres hlg hs h
                exact fin fr' fr1' m h1 h2 h3 h4

theorem dsts_pairT : ∀ ops, dsts (pairT ops) = dsts0 ops
  | [] => rfl
  | o :: l => by
    have := dsts_pairT l
    simp only [pairT, List.map_cons, dsts, dsts0] at this ⊢
    cases o.dst <;> simp [this]
theorem dsts_fst : ∀ (a : List (Oper × Bool)), dsts a = dsts0 (a.map (·.1))
  | [] => rfl
  | (o, e) :: a => by
    simp only [dsts, List.map_cons, dsts0, dsts_fst a]
theorem dsts_flags (ops : List Oper) : dsts (flags ops) = dsts0 ops := by
  rw [dsts_fst, flags, flagsGo_fst]

theorem Sub.ts {fr : Frm} {fr1 : Fr} (h : Sub N fr fr1) (l : List (Nat × Value)) : Sub N fr ⟨fr1.ps, l⟩ := ⟨h.len, h.get⟩

theorem oNe_some {x y : Value} {k : Option β} {r : β} (h : oNe x y k = some r) : neB x y = true ∧ k = some r := by
  unfold oNe at h
  unfold neB
  split at h
  · split at h
    · split at h
      · cases h
      · rename_i hb
        simp only [hb]
        exact ⟨trivial, h⟩
    · cases h
  · cases h
theorem neK_some {ev ev' : Operand → Option Value} (he : ∀ x v, ev x = some v → ev' x = some v) {k : Option β} {r : β} : ∀ {l : List (Operand × Operand)}, neK ev l k = some r → neAll ev' l = true ∧ k = some r
  | [], h => ⟨rfl, h⟩
  | (a, b) :: l, h => by
    simp only [neK] at h
    split at h
    · cases h
    · rename_i x hx
      split at h
      · cases h
      · rename_i y hy
        obtain ⟨h1, h2⟩ := oNe_some h
        obtain ⟨h3, h4⟩ := neK_some he h2
        exact ⟨by simp only [neAll, he _ _ hx, he _ _ hy, h1, h3], h4⟩
theorem denReg1_ok (hc : CallSim callK call) {ops : List Oper} {p : Nat} {r : β} {k : KN β} {draw : Bool} {fr : Frm} {m : Mem} {fr1 : Fr} (hs : Sub N fr fr1)
    (h : denReg1 P G N callK ka L ops p draw fr m k = some r) :
    ∃ fr' fr1' m', evRegion1 P G N (List.range N) call L ops draw fr1 m = some (0, (fr1', m')) ∧ Sub N fr' fr1' ∧ Kept (dsts0 ops) fr1 fr1' ∧ k fr' m' = some r := by
  have core : ∀ (k : KN β) l, dsts l = dsts0 ops → denSegs P G N callK ka L ops p (segs l) 0 fr m k = some r →
      ∃ fr' fr1' m', evOps P G N (List.range N) call ops L l ⟨fr1.ps, []⟩ m = some (fr1', m') ∧ Sub N fr' fr1' ∧ Kept (dsts0 ops) fr1 fr1' ∧ k fr' m' = some r := fun k l hl h => by
    obtain ⟨h1, h2⟩ := segs_ok l
    obtain ⟨fr', fr1', m', g1, g2, g3, g4⟩ := denSegs_ok hc (segs l) 0 fr m ⟨fr1.ps, []⟩ h2 (hs.ts []) h
    rw [h1] at g1 g3
    rw [hl] at g3
    exact ⟨fr', fr1', m', g1, g2, g3, g4⟩
  unfold denReg1 at h
  unfold evRegion1
  cases draw with
  | false =>
    unfold evRegion0
    obtain ⟨fr', fr1', m', g1, g2, g3, g4⟩ := core _ _ (dsts_pairT ops) h
    exact ⟨fr', fr1', m', by simp only [g1], g2, g3, g4⟩
  | true =>
    simp only [] at h
    split at h
    · rename_i hnl
      split at h
      · rename_i hlo
        obtain ⟨fr', fr1', m', g1, g2, g3, g4⟩ := core _ _ (dsts_pairT ops) h
        obtain ⟨h5, h6⟩ := neK_some (ev' := aeval G (fget (List.range N) fr1')) (fun x v hx => g2.eval x v hx) g4
        exact ⟨fr', fr1', m', by simp only [hnl, hlo, g1, h5], g2, g3, h6⟩
      · cases h
    · rename_i hnl
      split at h
      · rename_i hdr
        unfold evRegion0
        obtain ⟨fr', fr1', m', g1, g2, g3, g4⟩ := core _ _ (dsts_flags ops) h
        exact ⟨fr', fr1', m', by simp only [hnl, hdr, g1], g2, g3, g4⟩
      · cases h

theorem dsts_lflags (ops : List Oper) : dsts (lflags ops) = dsts0 ops := by
  rw [dsts_fst, lflags, lflagsGo_fst]
theorem smK_some {ev ev' : Operand → Option Value} {m m' : Mem} (he : ∀ x v, ev x = some v → ev' x = some v) {k : Option β} {r : β} : ∀ {l : List Operand}, smK ev m m' l k = some r → smAll m m' ev' l = true ∧ k = some r
  | [], h => ⟨rfl, h⟩
  | a :: l, h => by
    simp only [smK] at h
    split at h
    · cases h
    · rename_i v hv
      unfold oSm at h
      split at h
      · rename_i hs
        obtain ⟨h1, h2⟩ := smK_some he h
        exact ⟨by simp only [smAll, he _ _ hv, hs, h1], h2⟩
      · cases h
theorem denReg_ok (hc : CallSim callK call) {ops : List Oper} {p : Nat} {r : β} {k : KN β} {draw : Bool} {fr : Frm} {m : Mem} {fr1 : Fr} (hs : Sub N fr fr1)
    (h : denReg P G N callK ka L ops p draw fr m k = some r) :
    ∃ fr' fr1' m', evRegion P G N (List.range N) call L ops draw fr1 m = some (0, (fr1', m')) ∧ Sub N fr' fr1' ∧ Kept (dsts0 ops) fr1 fr1' ∧ k fr' m' = some r := by
  unfold denReg at h
  unfold evRegion
  cases draw with
  | false => exact denReg1_ok hc hs h
  | true =>
    simp only [] at h ⊢
    split at h
    · exact denReg1_ok hc hs h
    · rename_i j hcut
      obtain ⟨a1, a2⟩ := segs_ok ((lflags ops).take j)
      obtain ⟨b1, b2⟩ := segs_ok (((lflags ops).drop j).take 1)
      obtain ⟨c1, c2⟩ := segs_ok ((lflags ops).drop (Nat.succ j))
      obtain ⟨frA, fA, mA, g1, g2, g3, g4⟩ := denSegs_ok hc _ _ fr m ⟨fr1.ps, []⟩ a2 (hs.ts []) h
      obtain ⟨frB, fB, mB, i1, i2, i3, i4⟩ := denSegs_ok hc _ _ frA mA fA b2 g2 g4
      obtain ⟨h5, h6⟩ := smK_some (ev' := aeval G (fget (List.range N) fA)) (fun x v hx => g2.eval x v hx) i4
      obtain ⟨frC, fC, mC, j1, j2, j3, j4⟩ := denSegs_ok hc _ _ frB mB fB c2 i2 h6
      rw [a1] at g1 g3
      rw [b1] at i1 i3
      rw [c1] at j1 j3
      have hk := g3.trans (i3.trans j3)
      rw [← dsts_append, ← dsts_append, show (lflags ops).drop (Nat.succ j) = ((lflags ops).drop j).drop 1 by rw [List.drop_drop], List.take_append_drop, List.take_append_drop, dsts_lflags] at hk
      refine ⟨frC, fC, mC, ?_, j2, hk, j4⟩
      unfold evLate
      simp only [g1, i1, h5, j1]

/-- Where a code ends, the one continuation or the other goes on. -/
def Cont (k : KN β) (ks : List (Nat × KN β)) (kr : KN β) (e : Nat) (fr : Frm) (m : Mem) (r : β) : Prop :=
  (e = 0 ∧ k fr m = some r) ∨ (e = 1 ∧ kr fr m = some r) ∨ ∃ i kk, e = i + 2 ∧ lookK ks i = some kk ∧ kk fr m = some r
theorem oIf_some {v : Value} {a b : Option β} {r : β} (h : oIf v a b = some r) : (v = .bool true ∧ a = some r) ∨ (v = .bool false ∧ b = some r) := by
  unfold oIf at h
  split at h
  · split at h
    · exact .inl ⟨rfl, h⟩
    · exact .inr ⟨rfl, h⟩
  · cases h

theorem den_ok (hc : CallSim callK call) {r : β} : ∀ (c : Code) (p : Nat) (fr : Frm) (m : Mem) (k : KN β) (ks : List (Nat × KN β)) (kr : KN β) (fr1 : Fr), Sub N fr fr1 →
    den P G N callK ka lf L c p fr m k ks kr = some r →
    ∃ e fr' fr1' m', ev P G N (List.range N) call lf L c fr1 m = some (e, (fr1', m')) ∧ Sub N fr' fr1' ∧ Kept (asg c) fr1 fr1' ∧ Cont k ks kr e fr' m' r := by
  intro c
  induction c with
  | skip => intro p fr m k ks kr fr1 hs h; exact ⟨0, fr, fr1, m, rfl, hs, Kept.refl _ _, .inl ⟨rfl, h⟩⟩
  | region id ops draw =>
    intro p fr m k ks kr fr1 hs h
    obtain ⟨fr', fr1', m', g1, g2, g3, g4⟩ := denReg_ok hc hs h
    exact ⟨0, fr', fr1', m', g1, g2, g3, .inl ⟨rfl, g4⟩⟩
  | seq a b iha ihb =>
    intro p fr m k ks kr fr1 hs h
    simp only [den] at h
    obtain ⟨e, fr2, fr3, m2, g1, g2, g3, g4⟩ := iha _ _ _ _ _ _ _ hs h
    rcases g4 with ⟨rfl, h4⟩ | ⟨rfl, h4⟩ | ⟨i, kk, rfl, h5, h4⟩
    · obtain ⟨e', fr4, fr5, m3, f1, f2, f3, f4⟩ := ihb _ _ _ _ _ _ _ g2 h4
      exact ⟨e', fr4, fr5, m3, by simp only [ev, g1]; exact f1, f2, g3.trans f3, f4⟩
    · exact ⟨1, fr2, fr3, m2, by simp only [ev, g1], g2, g3.left, .inr (.inl ⟨rfl, h4⟩)⟩
    · exact ⟨i + 2, fr2, fr3, m2, by simp only [ev, g1], g2, g3.left, .inr (.inr ⟨i, kk, rfl, h5, h4⟩)⟩
  | cond c a b iha ihb =>
    intro p fr m k ks kr fr1 hs h
    simp only [den] at h
    split at h
    · cases h
    · rename_i v hv
      have hv1 := hs.eval _ _ hv
      have goT : v = .bool true → ∀ e fr3 m2, ev P G N (List.range N) call lf L a fr1 m = some (e, (fr3, m2)) → ev P G N (List.range N) call lf L (.cond c a b) fr1 m = some (e, (fr3, m2)) := fun hv e fr3 m2 hq => by
        rw [hv] at hv1; simp only [ev, hv1]; exact hq
      have goF : v = .bool false → ∀ e fr3 m2, ev P G N (List.range N) call lf L b fr1 m = some (e, (fr3, m2)) → ev P G N (List.range N) call lf L (.cond c a b) fr1 m = some (e, (fr3, m2)) := fun hv e fr3 m2 hq => by
        rw [hv] at hv1; simp only [ev, hv1]; exact hq
      split at h
      · simp only [join] at h
        have fin : ∀ e fr2 fr3 m2, Sub N fr2 fr3 → Kept (asg a ++ asg b) fr1 fr3 → Cont (fun fr' m => packK (katOf ka p 0) fr' fun vs => bindK (katOf ka p 0) vs (rmv (asg a ++ asg b) fr) fun fr => k fr m) ks kr e fr2 m2 r → ∃ fr4, Sub N fr4 fr3 ∧ Cont k ks kr e fr4 m2 r := by
          intro e fr2 fr3 m2 g2 g3 g4
          rcases g4 with ⟨rfl, h4⟩ | ⟨rfl, h4⟩ | h4
          · obtain ⟨fr4, h5, h6⟩ := pack_bind _ g2 (hs.rmv g3 g2.len) h4
            exact ⟨fr4, h5, .inl ⟨rfl, h6⟩⟩
          · exact ⟨fr2, g2, .inr (.inl ⟨rfl, h4⟩)⟩
          · exact ⟨fr2, g2, .inr (.inr h4)⟩
        rcases oIf_some h with ⟨hv', h⟩ | ⟨hv', h⟩
        · obtain ⟨e, fr2, fr3, m2, g1, g2, g3, g4⟩ := iha _ _ _ _ _ _ _ hs h
          obtain ⟨fr4, h5, h6⟩ := fin e fr2 fr3 m2 g2 g3.left g4
          exact ⟨e, fr4, fr3, m2, goT hv' _ _ _ g1, h5, g3.left, h6⟩
        · obtain ⟨e, fr2, fr3, m2, g1, g2, g3, g4⟩ := ihb _ _ _ _ _ _ _ hs h
          obtain ⟨fr4, h5, h6⟩ := fin e fr2 fr3 m2 g2 g3.right g4
          exact ⟨e, fr4, fr3, m2, goF hv' _ _ _ g1, h5, g3.right, h6⟩
      · rcases oIf_some h with ⟨hv', h⟩ | ⟨hv', h⟩
        · obtain ⟨e, fr2, fr3, m2, g1, g2, g3, g4⟩ := iha _ _ _ _ _ _ _ hs h
          exact ⟨e, fr2, fr3, m2, goT hv' _ _ _ g1, g2, g3.left, g4⟩
        · obtain ⟨e, fr2, fr3, m2, g1, g2, g3, g4⟩ := ihb _ _ _ _ _ _ _ hs h
          exact ⟨e, fr2, fr3, m2, goF hv' _ _ _ g1, g2, g3.right, g4⟩
  | block id body ih =>
    intro p fr m k ks kr fr1 hs h
    have goX : ∀ fr3 m2, ev P G N (List.range N) call lf L body fr1 m = some (2 * id + 2, (fr3, m2)) → ev P G N (List.range N) call lf L (.block id body) fr1 m = some (0, (fr3, m2)) := fun fr3 m2 h => by
      have hb : Nat.beq (2 * id + 2) (Nat.succ (Nat.succ (Nat.mul 2 id))) = true := Nat.beq_refl _
      simp only [ev, h, hb]
    have goN : ∀ e fr3 m2, e ≠ 2 * id + 2 → ev P G N (List.range N) call lf L body fr1 m = some (e, (fr3, m2)) → ev P G N (List.range N) call lf L (.block id body) fr1 m = some (e, (fr3, m2)) := fun e fr3 m2 hne h => by
      have hb : Nat.beq e (Nat.succ (Nat.succ (Nat.mul 2 id))) = false := by
        cases hh : Nat.beq e (Nat.succ (Nat.succ (Nat.mul 2 id))) with
        | false => rfl
        | true => exact absurd (Nat.eq_of_beq_eq_true hh) hne
      simp only [ev, h, hb]
    -- one way out or several
    have fin : ∀ kx : KN β, (∀ fr2 fr3 m2, Sub N fr2 fr3 → Kept (asg body) fr1 fr3 → kx fr2 m2 = some r → ∃ fr4, Sub N fr4 fr3 ∧ k fr4 m2 = some r) → den P G N callK ka lf L body (Nat.add (Nat.mul 2 p) 1) fr m kx ((Nat.mul 2 id, kx) :: ks) kr = some r →
        ∃ e fr' fr1' m', ev P G N (List.range N) call lf L (.block id body) fr1 m = some (e, (fr1', m')) ∧ Sub N fr' fr1' ∧ Kept (asg body) fr1 fr1' ∧ Cont k ks kr e fr' m' r := by
      intro kx hkx h
      obtain ⟨e, fr2, fr3, m2, g1, g2, g3, g4⟩ := ih _ _ _ _ _ _ _ hs h
      rcases g4 with ⟨rfl, h4⟩ | ⟨rfl, h4⟩ | ⟨i, kk, rfl, h5, h4⟩
      · obtain ⟨fr4, h6, h7⟩ := hkx _ _ _ g2 g3 h4
        exact ⟨0, fr4, fr3, m2, goN _ _ _ (by omega) g1, h6, g3, .inl ⟨rfl, h7⟩⟩
      · exact ⟨1, fr2, fr3, m2, goN _ _ _ (by omega) g1, g2, g3, .inr (.inl ⟨rfl, h4⟩)⟩
      · simp only [lookK] at h5
        split at h5
        · rename_i hb
          obtain rfl := Nat.eq_of_beq_eq_true hb
          cases h5
          obtain ⟨fr4, h6, h7⟩ := hkx _ _ _ g2 g3 h4
          exact ⟨0, fr4, fr3, m2, goX _ _ g1, h6, g3, .inl ⟨rfl, h7⟩⟩
        · rename_i hb
          have hne : 2 * id ≠ i := fun e => by
            have e : Nat.mul 2 id = i := e
            subst e; rw [Nat.beq_refl] at hb; cases hb
          exact ⟨i + 2, fr2, fr3, m2, goN _ _ _ (by omega) g1, g2, g3, .inr (.inr ⟨i, kk, rfl, h5, h4⟩)⟩
    simp only [den] at h
    split at h
    · simp only [join] at h
      exact fin _ (fun fr2 fr3 m2 g2 g3 h4 => pack_bind _ g2 (hs.rmv g3 g2.len) h4) h
    · exact fin k (fun fr2 fr3 m2 g2 g3 h4 => ⟨fr2, g2, h4⟩) h
  | loop body ih =>
    intro p fr m k ks kr fr1 hs h
    simp only [den] at h
    have key : ∀ n fr2 m fr3, Sub N fr2 fr3 → Kept (asg body) fr1 fr3 → packK (katOf ka p 0) fr2 (fun vs =>
        loopS (fun self vs m => bindK (katOf ka p 0) vs (rmv (asg body) fr) fun fr => den P G N callK ka lf L body (Nat.add (Nat.mul 2 p) 1) fr m (fun fr m => packK (katOf ka p 0) fr fun vs => self vs m) ks kr) n vs m) = some r →
        ∃ e fr' fr1' m', loopN (ev P G N (List.range N) call lf L body) n fr3 m = some (e, (fr1', m')) ∧ Sub N fr' fr1' ∧ Kept (asg body) fr1 fr1' ∧ Cont k ks kr e fr' m' r := by
      intro n
      induction n with
      | zero =>
        intro fr2 m fr3 g2 g3 h
        exfalso
        have : ∀ (K : List Nat) (f : Frm) (kk : List Value → Option β), (∀ vs, kk vs = none) → packK K f kk = none := by
          intro K
          induction K with
          | nil => intro f kk hk; exact hk []
          | cons s ss ihs =>
            intro f kk hk
            simp only [packK, deep_eq]
            split
            · exact ihs _ _ fun vs => hk _
            · rfl
        simp only [loopS] at h
        rw [this _ _ _ fun vs => rfl] at h
        cases h
      | succ n ihn =>
        intro fr2 m fr3 g2 g3 h
        simp only [loopS] at h
        obtain ⟨fr4, h5, h6⟩ := pack_bind (k := fun fr => den P G N callK ka lf L body (Nat.add (Nat.mul 2 p) 1) fr m (fun fr' m => packK (katOf ka p 0) fr' fun vs =>
          loopS (fun self vs m => bindK (katOf ka p 0) vs (rmv (asg body) _) fun fr => den P G N callK ka lf L body (Nat.add (Nat.mul 2 p) 1) fr m (fun fr m => packK (katOf ka p 0) fr fun vs => self vs m) ks kr) n vs m) ks kr) _ g2 (hs.rmv g3 g2.len) h
        obtain ⟨e, fr5, fr6, m2, f1, f2, f3, f4⟩ := ih _ _ _ _ _ _ _ h5 h6
        have hk6 : Kept (asg body) fr1 fr6 := fun t ht => (f3 t ht).trans (g3 t ht)
        rcases f4 with ⟨rfl, h4⟩ | ⟨rfl, h4⟩ | ⟨i, kk, rfl, h7, h4⟩
        · obtain ⟨e', fr7, fr8, m3, q1, q2, q3, q4⟩ := ihn _ _ _ f2 hk6 h4
          exact ⟨e', fr7, fr8, m3, by simp only [loopN, f1]; exact q1, q2, q3, q4⟩
        · exact ⟨1, fr5, fr6, m2, by simp only [loopN, f1], f2, hk6, .inr (.inl ⟨rfl, h4⟩)⟩
        · exact ⟨i + 2, fr5, fr6, m2, by simp only [loopN, f1], f2, hk6, .inr (.inr ⟨i, kk, rfl, h7, h4⟩)⟩
    obtain ⟨e, fr', fr1', m', q1, q2, q3, q4⟩ := key lf fr m fr1 hs (Kept.refl _ _) h
    exact ⟨e, fr', fr1', m', q1, q2, q3, q4⟩
  | exit id =>
    intro p fr m k ks kr fr1 hs h
    simp only [den] at h
    split at h
    · rename_i kk hk
      exact ⟨2 * id + 2, fr, fr1, m, rfl, hs, Kept.refl _ _, .inr (.inr ⟨2 * id, kk, rfl, hk, h⟩)⟩
    · cases h
  | goto l =>
    intro p fr m k ks kr fr1 hs h
    simp only [den] at h
    split at h
    · rename_i kk hk
      exact ⟨2 * l + 1 + 2, fr, fr1, m, rfl, hs, Kept.refl _ _, .inr (.inr ⟨2 * l + 1, kk, rfl, hk, h⟩)⟩
    · cases h
  | ret => intro p fr m k ks kr fr1 hs h; exact ⟨1, fr, fr1, m, rfl, hs, Kept.refl _ _, .inr (.inl ⟨rfl, h⟩)⟩
  | label l => intro p fr m k ks kr fr1 hs h; exact ⟨0, fr, fr1, m, rfl, hs, Kept.refl _ _, .inl ⟨rfl, h⟩⟩
  | _ => intro p fr m k ks kr fr1 hs h; cases h

theorem packK_none {r : β} : ∀ (K : List Nat) (f : Frm) (kk : List Value → Option β), (∀ vs, kk vs = none) → packK K f kk ≠ some r := by
  intro K
  induction K with
  | nil =>
    intro f kk hk h
    simp only [packK, deep_eq] at h
    rw [hk] at h; cases h
  | cons s ss ihs =>
    intro f kk hk h
    simp only [packK, deep_eq] at h
    split at h
    · exact ihs _ _ (fun vs => hk _) h
    · cases h
theorem gotoOf_key (l : Nat) : gotoOf (2 * l + 1 + 2) = some l := by
  simp only [gotoOf]
  rw [if_neg (by omega)]
  congr 1; omega
theorem denB_ok (hc : CallSim callK call) {r : β} : ∀ (c : Code) (p : Nat) (fr : Frm) (m : Mem) (k kr : KN β) (fr1 : Fr), Sub N fr fr1 →
    denB P G N callK ka lf L c p fr m k kr = some r →
    ∃ e fr' fr1' m', evB P G N (List.range N) call lf L c fr1 m = some (e, (fr1', m')) ∧ Sub N fr' fr1' ∧ Cont k [] kr e fr' m' r := by
  intro c
  induction c with
  | seq a b _ ihb =>
    intro p fr m k kr fr1 hs h
    simp only [denB] at h
    obtain ⟨e, fr2, fr3, m2, g1, g2, g3, g4⟩ := den_ok hc _ _ _ _ _ _ _ _ hs h
    rcases g4 with ⟨rfl, h4⟩ | ⟨rfl, h4⟩ | ⟨i, kk, rfl, h5, h4⟩
    · obtain ⟨e', fr4, fr5, m3, f1, f2, f4⟩ := ihb _ _ _ _ _ _ g2 h4
      exact ⟨e', fr4, fr5, m3, by simp only [evB, g1]; exact f1, f2, f4⟩
    · exact ⟨1, fr2, fr3, m2, by simp only [evB, g1], g2, .inr (.inl ⟨rfl, h4⟩)⟩
    · cases h5
  | scope c _ =>
    intro p fr m k kr fr1 hs h
    simp only [denB] at h
    split at h
    · cases h
    · rename_i l hl
      split at h
      · cases h
      · rename_i rest hrest
        simp only [join] at h
        have key : ∀ n fr2 m fr3, Sub N fr2 fr3 → Kept (asg c ++ asg rest) fr1 fr3 → packK (katOf ka p 0) fr2 (fun vs =>
            loopS (fun self vs m => bindK (katOf ka p 0) vs (rmv (asg c ++ asg rest) fr) fun fr => den P G N callK ka lf L rest (Nat.add (Nat.mul 2 p) 2) fr m k [(Nat.succ (Nat.mul 2 l), fun fr m => packK (katOf ka p 0) fr fun vs => self vs m)] kr) n vs m) = some r →
            ∃ e fr' fr1' m', scopeN P G N (List.range N) call lf L c n rest fr3 m = some (e, (fr1', m')) ∧ Sub N fr' fr1' ∧ Cont k [] kr e fr' m' r := by
          intro n
          induction n with
          | zero => intro fr2 m fr3 g2 g3 h; exact absurd h (packK_none _ _ _ fun vs => rfl)
          | succ n ihn =>
            intro fr2 m fr3 g2 g3 h
            simp only [loopS] at h
            obtain ⟨fr4, h5, h6⟩ := pack_bind (k := fun fr => den P G N callK ka lf L rest (Nat.add (Nat.mul 2 p) 2) fr m k [(Nat.succ (Nat.mul 2 l), fun fr' m => packK (katOf ka p 0) fr' fun vs =>
              loopS (fun self vs m => bindK (katOf ka p 0) vs (rmv (asg c ++ asg rest) _) fun fr => den P G N callK ka lf L rest (Nat.add (Nat.mul 2 p) 2) fr m k [(Nat.succ (Nat.mul 2 l), fun fr m => packK (katOf ka p 0) fr fun vs => self vs m)] kr) n vs m)] kr) _ g2 (hs.rmv g3 g2.len) h
            obtain ⟨e, fr5, fr6, m2, f1, f2, f3, f4⟩ := den_ok hc _ _ _ _ _ _ _ _ h5 h6
            have hk6 : Kept (asg c ++ asg rest) fr1 fr6 := fun t ht => (f3 t (memN_append _ _ _ ht).2).trans (g3 t ht)
            rcases f4 with ⟨rfl, h4⟩ | ⟨rfl, h4⟩ | ⟨i, kk, rfl, h7, h4⟩
            · exact ⟨0, fr5, fr6, m2, by simp only [scopeN, f1]; rfl, f2, .inl ⟨rfl, h4⟩⟩
            · exact ⟨1, fr5, fr6, m2, by simp only [scopeN, f1]; rfl, f2, .inr (.inl ⟨rfl, h4⟩)⟩
            · simp only [lookK] at h7
              split at h7
              · rename_i hb
                obtain rfl := Nat.eq_of_beq_eq_true hb
                cases h7
                obtain ⟨e', fr7, fr8, m3, q1, q2, q4⟩ := ihn _ _ _ f2 hk6 h4
                exact ⟨e', fr7, fr8, m3, by simp only [scopeN, f1]; rw [show Nat.succ (Nat.mul 2 l) + 2 = 2 * l + 1 + 2 from rfl, gotoOf_key]; simp only [hrest]; exact q1, q2, q4⟩
              · cases h7
        obtain ⟨e, fr2, fr3, m2, g1, g2, g3, g4⟩ := den_ok hc _ _ _ _ _ _ _ _ hs h
        rcases g4 with ⟨rfl, h4⟩ | ⟨rfl, h4⟩ | ⟨i, kk, rfl, h5, h4⟩
        · exact ⟨0, fr2, fr3, m2, by simp only [evB, scopeN, g1]; rfl, g2, .inl ⟨rfl, h4⟩⟩
        · exact ⟨1, fr2, fr3, m2, by simp only [evB, scopeN, g1]; rfl, g2, .inr (.inl ⟨rfl, h4⟩)⟩
        · simp only [lookK] at h5
          split at h5
          · rename_i hb
            obtain rfl := Nat.eq_of_beq_eq_true hb
            cases h5
            obtain ⟨e', fr7, fr8, m3, q1, q2, q4⟩ := key lf _ _ _ g2 g3.left h4
            exact ⟨e', fr7, fr8, m3, by simp only [evB, scopeN, g1]; rw [show Nat.succ (Nat.mul 2 l) + 2 = 2 * l + 1 + 2 from rfl, gotoOf_key]; simp only [hrest]; exact q1, q2, q4⟩
          · cases h5
  | _ =>
    intro p fr m k kr fr1 hs h
    obtain ⟨e, fr2, fr3, m2, g1, g2, g3, g4⟩ := den_ok hc _ _ _ _ _ _ _ _ hs h
    exact ⟨e, fr2, fr3, m2, g1, g2, g4⟩
end
end Go.Vit

/- The shallow form: whole functions, a table of them, and what a run of it says. -/
namespace Go.Vit
open Go

def kAll (P : Program) (f : FuncId) : List Nat := match P.funcs[f]? with
  | some fn => List.range fn.ntmps
  | none => []

theorem initPs_range (args : List Value) : ∀ (n a i : Nat), i < n → lget (initPs args (List.range' a n)) i = some ((args[a + i]?).getD Go.undef)
  | 0, a, i, h => by omega
  | n + 1, a, i, h => by
    rw [range_cons]
    simp only [initPs]
    cases i with
    | zero =>
      simp only [lget, lget_eq, Nat.add_zero]
      cases args[a]? <;> rfl
    | succ i =>
      simp only [lget]
      rw [initPs_range args n (a + 1) i (by omega)]
      rw [show a + 1 + i = a + (i + 1) by omega]
theorem initPs_len (args : List Value) : ∀ (l : List Nat), (initPs args l).length = l.length
  | [] => rfl
  | t :: l => by simp [initPs, initPs_len args l]
theorem un0_some {β : Type} {l : List Value} {k : Option β} {r : β} (h : un0 l k = some r) : l = [] ∧ k = some r := by
  unfold un0 at h
  split at h
  · exact ⟨rfl, h⟩
  · cases h

section
variable {β : Type} {P : Program} {G lf : Nat} {callK : CallK β} {call : CallT}

theorem bindA_ok {N : Nat} {args : List Value} {r : β} {k : Frm → Option β} : ∀ (n s : Nat) (l : List Value) (fr : Frm), l = args.drop s → s + n ≤ N → s ≤ args.length → Sub N fr ⟨initPs args (List.range N), []⟩ → bindA s n l fr k = some r →
    args.length = s + n ∧ ∃ fr', Sub N fr' ⟨initPs args (List.range N), []⟩ ∧ k fr' = some r
  | 0, s, l, fr, hl, hn, hsl, hs, h => by
    simp only [bindA, deep_eq] at h
    obtain ⟨h1, h2⟩ := un0_some h
    rw [h1] at hl
    have := List.drop_eq_nil_iff.1 hl.symm
    exact ⟨by omega, fr, hs, h2⟩
  | n + 1, s, l, fr, hl, hn, hsl, hs, h => by
    simp only [bindA, deep_eq] at h
    obtain ⟨a, l', rfl, h⟩ := uc_some h
    have ha : args[s]? = some a := by
      have := congrArg (·[0]?) hl
      simpa using this.symm
    have hlt : s < args.length := (List.getElem?_eq_some_iff.1 ha).1
    have hl' : l' = args.drop (s + 1) := by
      have := congrArg List.tail hl
      simpa using this
    have hget : lget (initPs args (List.range N)) s = some a := by
      rw [List.range_eq_range', initPs_range args N 0 s (by omega)]
      simp [ha]
    obtain ⟨h1, h2⟩ := bindA_ok n (s + 1) l' ((s, a) :: fr) hl' (by omega) (by omega) (hs.cons ⟨by omega, hget⟩) h
    exact ⟨by omega, h2⟩

theorem denLd_some {m : Mem} {t : TypeId} {x : Value} {k : Value → Option β} {r : β} (h : denLd P m t x k = some r) : ∃ v, aload P m t x = some v ∧ k v = some r := by
  simp only [denLd, deep_eq] at h
  split at h
  · rename_i ht
    obtain ⟨v, h2, h⟩ := oOpt_some h
    refine ⟨v, ?_, h⟩
    unfold ld1 at h2
    split at h2
    · simp only [aload, ht]; exact h2
    · cases h2
  · rename_i ht
    split at h
    · rename_i s hs
      obtain ⟨v, h2, h⟩ := oOpt_some h
      refine ⟨v, ?_, h⟩
      unfold ldN at h2
      split at h2
      · simp only [aload, ht, hs]; exact h2
      · cases h2
    · cases h
  · cases h

theorem denRes_ok {N : Nat} {fr : Frm} {fr1 : Fr} (hs : Sub N fr fr1) {m : Mem} {r : β} : ∀ (l : List ResultVar) (k : List Value → Option β), denRes P l fr m k = some r → ∃ vs, resA P (List.range N) fr1 m l = some vs ∧ k vs = some r
  | [], k, h => ⟨[], rfl, h⟩
  | .tmp t :: l, k, h => by
    simp only [denRes, deep_eq] at h
    split at h
    · rename_i v hv
      obtain ⟨vs, h1, h2⟩ := denRes_ok hs l _ h
      exact ⟨v :: vs, by simp only [resA, hs.fget hv, h1], h2⟩
    · cases h
  | .cell a t :: l, k, h => by
    simp only [denRes, deep_eq] at h
    split at h
    · rename_i x hx
      obtain ⟨v, h0, h⟩ := denLd_some h
      obtain ⟨vs, h1, h2⟩ := denRes_ok hs l _ h
      exact ⟨v :: vs, by simp only [resA, hs.fget hx, h0, h1], h2⟩
    · cases h

theorem denF_ok (hc : CallSim callK call) {ka : Kat} {f : FuncId} {args : List Value} {L : Nat} {m : Mem} {k : Value → Mem → Option β} {r : β} (h : denF P G ka lf callK f args L m k = some r) :
    ∃ v m', evF P G (kAll P) lf call f args L m = some (v, m') ∧ k v m' = some r := by
  unfold denF at h
  split at h
  · cases h
  · rename_i fn hfn
    split at h
    · cases h
    · rename_i c hb
      split at h
      · cases h
      · rename_i hN
        have hN := Nat.le_of_ble_eq_true hN
        obtain ⟨h1, fr, h2, h3⟩ := bindA_ok (N := fn.ntmps) (args := args) _ 0 args [] rfl (by simpa using hN) (Nat.zero_le _) ⟨by simp [initPs_len], fun t v hv => by cases hv⟩ h
        obtain ⟨e, fr', fr1', m', g1, g2, g4⟩ := denB_ok hc _ _ _ _ _ _ _ h2 h3
        have hK : kAll P f = List.range fn.ntmps := by simp only [kAll, hfn]
        have hlen : Nat.ble args.length fn.ntmps = true := by
          rw [Nat.ble_eq]
          rw [h1]
          simpa using hN
        have fin : e ≤ 1 → (denRes P fn.results.toList fr' m' fun vs => k (oneOr vs) m') = some r → ∃ v m', evF P G (kAll P) lf call f args L m = some (v, m') ∧ k v m' = some r := fun he h4 => by
          obtain ⟨vs, h5, h6⟩ := denRes_ok g2 _ _ h4
          refine ⟨oneOr vs, m', ?_, h6⟩
          have hle : Nat.ble e 1 = true := by rw [Nat.ble_eq]; exact he
          simp only [evF, hfn, hb, hlen, hK, g1, hle, h5]
        rcases g4 with ⟨rfl, h4⟩ | ⟨rfl, h4⟩ | ⟨id, kk, _, h5, _⟩
        · exact fin (by omega) h4
        · exact fin (by omega) h4
        · cases h5
end

/-! ### A table of functions -/
def callM (sp : FuncId → Bool) (S : CallT) (P : Program) (G lf : Nat) : Nat → CallT
  | 0 => noCalls
  | n + 1 => fun f args L m => match sp f with
    | true => S f args L m
    | false => evF P G (kAll P) lf (callM sp S P G lf n) f args L m
theorem callM_ok {P : Program} {G R lf : Nat} {B : World} {sp : FuncId → Bool} {S : CallT} (hS : CallOk P G R B S) (hP : Prog P) : ∀ n, CallOk P G R B (callM sp S P G lf n) := by
  intro n
  induction n with
  | zero => exact noCalls_ok
  | succ n ih =>
    have hF := evF_ok hP (kAll P) lf ih
    have opn : ∀ f args L m v m', callM sp S P G lf (n + 1) f args L m = some (v, m') → S f args L m = some (v, m') ∨ evF P G (kAll P) lf (callM sp S P G lf n) f args L m = some (v, m') := by
      intro f args L m v m' h
      simp only [callM] at h
      split at h
      · exact .inl h
      · exact .inr h
    refine ⟨fun f args L m v m' hm hL h => ?_, fun f args L m v m' h => ?_, fun f args L m v m' h => ?_⟩ <;> rcases opn _ _ _ _ _ _ h with h | h
    · exact hS.ext _ _ _ _ _ _ hm hL h
    · exact hF.ext _ _ _ _ _ _ hm hL h
    · exact hS.fn _ _ _ _ _ _ h
    · exact hF.fn _ _ _ _ _ _ h
    · exact hS.ok _ _ _ _ _ _ h
    · exact hF.ok _ _ _ _ _ _ h

abbrev FnK (β : Type) := CallK β → List Value → Nat → Mem → (Value → Mem → Option β) → Option β
inductive Bt (β : Type) where
  | e
  | n (key : Nat) (x : FnK β) (l r : Bt β)
def Bt.find {β : Type} (t : Bt β) (f : Nat) : Option (FnK β) := match t with
  | .e => none
  | .n key x l r => match Nat.beq key f with
    | true => some x
    | false => match Nat.blt f key with
      | true => Bt.find l f
      | false => Bt.find r f
def Bt.All {β : Type} (good : Nat → FnK β → Prop) : Bt β → Prop
  | .e => True
  | .n key x l r => good key x ∧ Bt.All good l ∧ Bt.All good r
theorem Bt.find_all {β : Type} {good : Nat → FnK β → Prop} {f : Nat} {x : FnK β} : ∀ {t : Bt β}, t.All good → t.find f = some x → good f x
  | .e, _, h => by cases h
  | .n key y l r, ha, h => by
    obtain ⟨h1, h2, h3⟩ := ha
    simp only [Bt.find] at h
    split at h
    · rename_i hb
      obtain rfl := Nat.eq_of_beq_eq_true hb
      cases h
      exact h1
    · split at h
      · exact Bt.find_all h2 h
      · exact Bt.find_all h3 h
/-- A text is a function's: its body in the shallow form, or what is known of it. -/
def Good {β : Type} (P : Program) (G lf : Nat) (sp : FuncId → Bool) (S : CallT) (f : Nat) (x : FnK β) : Prop :=
  (sp f = true ∧ ∀ cK args L m k r, x cK args L m k = some r → ∃ v m', S f args L m = some (v, m') ∧ k v m' = some r) ∨
  (sp f = false ∧ ∃ ka, ∀ cK args L m k, x cK args L m k = denF P G ka lf cK f args L m k)
def runT {β : Type} (t : Bt β) : Nat → CallK β
  | 0 => fun _ _ _ _ _ => none
  | n + 1 => fun f args L m k => match t.find f with
    | some x => x (runT t n) args L m k
    | none => none
theorem runT_sim {β : Type} {P : Program} {G lf : Nat} {sp : FuncId → Bool} {S : CallT} {t : Bt β} (ht : t.All (Good P G lf sp S)) : ∀ n, CallSim (runT t n) (callM sp S P G lf n)
  | 0 => fun f args L m k r h => by cases h
  | n + 1 => fun f args L m k r h => by
    simp only [runT] at h
    split at h
    · rename_i x hx
      rcases Bt.find_all ht hx with ⟨h1, h2⟩ | ⟨h1, ka, h2⟩
      · obtain ⟨v, m', h3, h4⟩ := h2 _ _ _ _ _ _ h
        exact ⟨v, m', by simp only [callM, h1]; exact h3, h4⟩
      · rw [h2] at h
        obtain ⟨v, m', h3, h4⟩ := denF_ok (runT_sim ht n) h
        exact ⟨v, m', by simp only [callM, h1]; exact h3, h4⟩
    · cases h
def isTrue (v : Value) (_ : Mem) : Option Unit := match v with
  | .bool true => some ()
  | _ => none
theorem calls_of_runT {P : Program} {G lf : Nat} {sp : FuncId → Bool} {S : CallT} {t : Bt Unit} (ht : t.All (Good P G lf sp S)) {m : Mem} {W : World} {ι : Inj} (hP : Prog P) (hS : CallOk P G m.next W S) {n : Nat} {f : FuncId} {args : List Value} {cargs : Array Value}
    (hrel : ∀ U, Rel G m.next W U ι m W) (hargs : VL ι args cargs.toList) (h : runT t n f args m.next m isTrue = some ()) :
    Calls P f cargs W fun e W' => e = .returned (.bool true) ∧ Stays W W' := by
  obtain ⟨v, m', h1, h2⟩ := runT_sim ht n _ _ _ _ _ _ h
  have hc := callM_ok (G := G) (R := m.next) (B := W) (sp := sp) (lf := lf) hS hP n
  have hext := hc.ext _ _ _ _ _ _ (hrel 0).ok (Nat.le_refl _) h1
  refine (hc.ok _ _ _ _ _ _ h1 m'.next ι W cargs (hrel _) (Nat.le_refl _) (Nat.le_refl _) (Nat.le_refl _) hargs).mono fun e W' ⟨u, κ, he, g1, g2, g3⟩ => ?_
  unfold isTrue at h2
  split at h2
  · cases g1
    exact ⟨he, g3.stays (Nat.le_refl _)⟩
  · cases h2
end Go.Vit

