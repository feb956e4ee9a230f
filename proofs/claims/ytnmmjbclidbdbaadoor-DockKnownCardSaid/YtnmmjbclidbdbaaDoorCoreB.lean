/- The core of the runs: CoreB. -/
import Derived.Test.YtnmmjbclidbdbaaDoorCoreA
set_option linter.unusedSimpArgs false
set_option linter.unusedVariables false
/- The evaluator: frames, regions, code, calls. -/
namespace Go.Vit
open Go

/-- A frame: the values of the slots on a list K, and of others, the last first. -/
structure Fr where
  ps : List (Option Value)
  ts : List (Nat × Value)

def pos : List Nat → Nat → Option Nat
  | [], _ => none
  | k :: l, t => match Nat.beq k t with
    | true => some 0
    | false => match pos l t with
      | some j => some (Nat.succ j)
      | none => none
def look : List (Nat × Value) → Nat → Option Value
  | [], _ => none
  | (s, v) :: l, t => match Nat.beq s t with
    | true => some v
    | false => look l t
def oJ (x : Option (Option Value)) : Option Value := match x with
  | some v => v
  | none => none
def fget (K : List Nat) (fr : Fr) (t : Nat) : Option Value := match pos K t with
  | some j => oJ (lget fr.ps j)
  | none => look fr.ts t
def lsetK {α β : Type} : List α → Nat → α → (List α → β) → β
  | [], _, _, k => k []
  | a :: l, n, v, k => match n with
    | 0 => k (v :: l)
    | Nat.succ n => lsetK l n v fun l' => k (a :: l')
theorem lsetK_eq {α β : Type} : ∀ (l : List α) (n : Nat) (v : α) (k : List α → β), lsetK l n v k = k (l.set n v)
  | [], n, v, k => by simp [lsetK]
  | a :: l, 0, v, k => rfl
  | a :: l, n + 1, v, k => by simp only [lsetK, List.set_cons_succ]; exact lsetK_eq l n v _
def fset (K : List Nat) (fr : Fr) (t : Nat) (v : Value) : Fr := match pos K t with
  | some j => ⟨fr.ps.set j (some v), fr.ts⟩
  | none => ⟨fr.ps, (t, v) :: fr.ts⟩
def fsetK {β : Type} (N : Nat) (K : List Nat) (fr : Fr) (t : Nat) (v : Value) (k : Fr → Option β) : Option β := match Nat.blt t N with
  | true => match pos K t with
    | some j => match fr with
      | ⟨ps, ts⟩ => lsetK ps j (some v) fun ps => k ⟨ps, ts⟩
    | none => match fr with
      | ⟨ps, ts⟩ => k ⟨ps, (t, v) :: ts⟩
  | false => none
theorem fsetK_eq {β : Type} {N : Nat} {K : List Nat} {fr : Fr} {t : Nat} {v : Value} {k : Fr → Option β} {r : β} (h : fsetK N K fr t v k = some r) : t < N ∧ k (fset K fr t v) = some r := by
  unfold fsetK at h
  split at h
  · rename_i ht
    refine ⟨by simpa using ht, ?_⟩
    unfold fset
    split at h
    · rename_i j hj; simp only [lsetK_eq] at h; exact h
    · exact h
  · cases h

theorem pos_inj : ∀ {K : List Nat} {s t j : Nat}, pos K s = some j → pos K t = some j → s = t
  | [], s, t, j, h, _ => by cases h
  | k :: l, s, t, j, h, h' => by
    simp only [pos] at h h'
    split at h
    · rename_i hs
      split at h'
      · rename_i ht
        rw [← Nat.eq_of_beq_eq_true hs, ← Nat.eq_of_beq_eq_true ht]
      · split at h'
        · cases h; cases h'
        · cases h'
    · split at h
      · rename_i i hi
        cases h
        split at h'
        · cases h'
        · split at h'
          · rename_i i' hi'
            cases h'
            exact pos_inj hi hi'
          · cases h'
      · cases h
theorem fget_fset_same {K : List Nat} {fr : Fr} {t : Nat} {v u : Value} (h : fget K (fset K fr t v) t = some u) : u = v := by
  unfold fget fset at h
  split at h
  · rename_i j hj
    simp only [hj, lget_eq] at h
    rw [List.getElem?_set] at h
    simp only [if_true] at h
    split at h
    · exact (Option.some.inj h).symm
    · cases h
  · rename_i hj
    have hb : Nat.beq t t = true := Nat.beq_refl t
    simp only [hj, look, hb, Option.some.injEq] at h
    exact h.symm
theorem fget_fset_ne {K : List Nat} {fr : Fr} {t s : Nat} {v : Value} (hn : s ≠ t) : fget K (fset K fr t v) s = fget K fr s := by
  unfold fget fset
  cases hs : pos K s with
  | some j =>
    cases ht : pos K t with
    | some i =>
      have : i ≠ j := fun h => by subst h; exact hn (pos_inj hs ht)
      simp only [lget_eq, List.getElem?_set, this, if_false]
    | none => rfl
  | none =>
    cases ht : pos K t with
    | some i => rfl
    | none =>
      have hb : Nat.beq t s = false := by
        cases hbb : Nat.beq t s with
        | true => exact absurd (Nat.eq_of_beq_eq_true hbb).symm hn
        | false => rfl
      simp only [look, hb]

theorem FR.put {ι : Inj} {K : List Nat} {fr : Fr} {a : Act} {d : Nat} {v u : Value} (h : FR ι (fget K fr) a) (hd : d < a.tmps.size) (hv : VR ι v u) : FR ι (fget K (fset K fr d v)) (a.put (some d) u) := by
  intro t x hx
  by_cases ht : t = d
  · subst ht
    obtain rfl := fget_fset_same hx
    simp [Act.put, hd, hv]
  · rw [fget_fset_ne ht] at hx
    have := h t x hx
    have hne : d ≠ t := fun e => ht e.symm
    simpa [Act.put, Array.getElem?_setIfInBounds_ne hne] using this

/-! ### Operations of a region -/
def acallee (op : Op) : Option (Operand × List Operand) := match op with
  | .call c => match c.callee with
    | .value f => some (f, c.args.toList)
    | _ => none
  | _ => none
/-- What a function value is called with. -/
def RB : Nat := 1000000
def atarget (f : Value) : Option (FuncId × List Value) := match f with
  | .func fn first cs => match fn with
    | .func g => match first.toList with
      | [] => match Nat.blt g RB with
        | true => some (g, cs.toList)
        | false => none
      | _ => none
    | _ => none
  | _ => none
/-- A method value: the first argument is bound. -/
def abnd (f : Value) (vs : List Value) : Option (FuncId × List Value) := match f with
  | .func fn first cs => match fn with
    | .func g => match first.toList with
      | [x] => match cs.toList with
        | [] => match Nat.blt g RB with
          | true => some (g, x :: vs)
          | false => none
        | _ => none
      | _ => none
    | _ => none
  | _ => none
/-- A round of a loop over a function is wanted: by its number behind RB, and with the block, the slots' values and yield's arguments. -/
def ayield (m : Mem) (f : Value) (vs : List Value) : Option (FuncId × List Value) := match f with
  | .func fn _ _ => match fn with
    | .yield y => match m.rd y with
      | some k => match k.ents with
        | some _ => match k.esz with
          | 0 => none
          | Nat.succ s => match Nat.beq (Nat.mod s 2) 0 with
            | true => some (Nat.add RB (Nat.div s 2), f :: (k.cells ++ vs))
            | false => none
        | none => none
      | none => none
    | _ => none
  | _ => none
abbrev CallT := FuncId → List Value → Nat → Mem → Option (Value × Mem)
/-! Methods called through interfaces -/
/-- A method that a type has by itself. -/
def ameth (P : Program) (t : TypeId) (name : String) : Option FuncId := match P.info? t with
  | none => none
  | some i => match i.methods.toList.find? (·.name == name) with
    | none => none
    | some md => match md.path.toList with
      | [] => match md.func with
        | some (f, pr) => match P.underlying t with
          | some (.pointer _) => match pr with
            | true => some f
            | false => none
          | some _ => match pr with
            | true => none
            | false => some f
          | none => none
        | none => none
      | _ :: _ => none
def amethsGo (P : Program) (name : String) : Nat → List (Nat × Nat)
  | 0 => []
  | n + 1 => match ameth P n name with
    | some f => (n, f) :: amethsGo P name n
    | none => amethsGo P name n
def ameths (P : Program) (name : String) : List (Nat × Nat) := amethsGo P name P.types.size
def alook : List (Nat × Nat) → Nat → Option Nat
  | [], _ => none
  | (a, b) :: l, t => match Nat.beq a t with
    | true => some b
    | false => alook l t
def acallI (ms : List (Nat × Nat)) (v : Value) : Option (FuncId × Value) := match v with
  | .iface t x => match alook ms t with
    | some g => match Nat.blt g RB with
      | true => some (g, x)
      | false => none
    | none => none
  | _ => none
/-- A method called through an interface; any other operation. -/
def exI (P : Program) (call : CallT) (L : Nat) (ev : Operand → Option Value) (m : Mem) (op : Op) : Option (Value × Mem) := match op with
  | .call c => match c.callee with
    | .invoke r name => match ev r with
      | some vr => match evL ev c.args.toList with
        | some vs => match acallI (ameths P name) vr with
          | some (g, x) => call g (x :: vs) L m
          | none => none
        | none => none
      | none => none
    | _ => aop P L ev m op
  | op => aop P L ev m op
def exA (P : Program) (call : CallT) (L : Nat) (ev : Operand → Option Value) (m : Mem) (op : Op) : Option (Value × Mem) := match acallee op with
  | some (f, args) => match ev f with
    | some vf => match atarget vf with
      | some (g, cs) => match evL ev args with
        | some vs => call g (vs ++ cs) L m
        | none => none
      | none => match evL ev args with
        | some vs => match ayield m vf vs with
          | some (g, as) => call g as L m
          | none => match abnd vf vs with
            | some (g, as) => call g as L m
            | none => none
        | none => none
    | none => none
  | none => exI P call L ev m op

def wantA (K : List Nat) (ops : List Oper) (fr : Fr) (o : Oper) : Option Bool := match o.guard with
  | none => some true
  | some (j, want) => match lget ops j with
    | some oj => match oj.dst with
      | some d => match fget K fr d with
        | some (.bool b) => some (b == want)
        | some (.tuple _) => some false
        | _ => none
      | none => none
    | none => none

def evOps (P : Program) (G N : Nat) (K : List Nat) (call : CallT) (ops : List Oper) (L : Nat) : List (Oper × Bool) → Fr → Mem → Option (Fr × Mem)
  | [], fr, m => some (fr, m)
  | (o, eff) :: rest, fr, m => match wantA K ops fr o with
    | none => none
    | some false => match o.dst with
      | none => evOps P G N K call ops L rest fr m
      | some d => fsetK N K fr d Go.undef fun fr => evOps P G N K call ops L rest fr m
    | some true => match exA P call (match eff with | true => L | false => m.next) (aeval G (fget K fr)) m o.op with
      | none => none
      | some (v, m') => match o.dst with
        | none => evOps P G N K call ops L rest fr m'
        | some d => fsetK N K fr d v fun fr => evOps P G N K call ops L rest fr m'

/-- All calls that an evaluator makes are sound. -/
structure CallOk (P : Program) (G R : Nat) (B : Base) (call : CallT) : Prop where
  ext : ∀ f args L m v m', m.ok → L ≤ m.next → call f args L m = some (v, m') → Ext L m m'
  fn : ∀ f args L m v m', f < RB → call f args L m = some (v, m') → ∃ fn, P.funcs[f]? = some fn ∧ fn.body.isNone = false
  rnd : ∀ f y cells vs L m v m' es, call (Nat.add RB f) (.func (.yield y) #[] #[] :: (cells ++ vs)) L m = some (v, m') → m.rd y = some ⟨Nat.succ (2 * f), cells, some es⟩ →
    ∀ U ι w (cvs : Array Value), Rel G R B U ι m w → R ≤ L → L ≤ m.next → m'.next ≤ U → VL ι vs cvs.toList → ∀ e r, ι y = some e → w.heap[e.cb]? = some (.loop r) →
      cvs.size = r.params.size ∧ RoundIn Fence.wide 0 P e.cb r.fn ((r.params.zip cvs).foldl (fun tmps (t, a) => tmps.setIfInBounds t a) r.tmps) r.assign r.body w
        fun e w' => ∃ u κ, e = .returned u ∧ VR κ v u ∧ Rel G R B U κ m' w' ∧ Step L ι m w κ m' w'
  ok : ∀ f args L m v m', f < RB → call f args L m = some (v, m') → ∀ U ι w (cargs : Array Value), Rel G R B U ι m w → R ≤ L → L ≤ m.next → m'.next ≤ U → VL ι args cargs.toList →
      Calls P f cargs w fun e w' => ∃ u κ, e = .returned u ∧ VR κ v u ∧ Rel G R B U κ m' w' ∧ Step L ι m w κ m' w'

structure Prog (P : Program) : Prop where
  noCount : ∀ (f : Nat) fn, P.funcs[f]? = some fn → (fn.name == "runtime.NumGoroutine") = false
  mixed : P.follows .mixedOrders = true

section
variable {P : Program} {G R U L : Nat} {B : Base} {ι : Inj} {m : Mem} {w : World} {call : CallT}

theorem acallee_some {op : Op} {f : Operand} {args : List Operand} (h : acallee op = some (f, args)) : ∃ c, op = .call c ∧ c.callee = .value f ∧ c.args.toList = args := by
  unfold acallee at h
  split at h
  · rename_i c
    split at h
    · rename_i hc; cases h; exact ⟨c, rfl, hc, rfl⟩
    · cases h
  · cases h
theorem exec_call {ρ : Operand → Value} {o : Oper} {c : Call} {f : Operand} {g : FuncId} {cs : Array Value} (hp : ∀ fn, P.funcs[g]? = some fn → (fn.name == "runtime.NumGoroutine") = false ∧ fn.body.isNone = false) {fn : Func} (hfn : P.funcs[g]? = some fn)
    (ho : o.op = .call c) (hc : c.callee = .value f) (hf : ρ f = .func (.func g) #[] cs) (w : World) :
    (execOp ρ o).run P w = .ok (.enter g (c.args.map ρ ++ cs)) w := by
  obtain ⟨h1, h2⟩ := hp fn hfn
  have hprog : Sem.run P program w = .ok P w := rfl
  have h1' : ¬ fn.name = "runtime.NumGoroutine" := by simpa using h1
  have h2' : ¬ fn.body = none := fun e => by rw [e] at h2; cases h2
  simp [execOp, ho, resolve, hc, hf, Deferred.ofValue, invoke, callFunc, hprog, hfn, h1', h2']

theorem exec_callB {ρ : Operand → Value} {o : Oper} {c : Call} {f : Operand} {g : FuncId} {x : Value} (hp : ∀ fn, P.funcs[g]? = some fn → (fn.name == "runtime.NumGoroutine") = false ∧ fn.body.isNone = false) {fn : Func} (hfn : P.funcs[g]? = some fn)
    (ho : o.op = .call c) (hc : c.callee = .value f) (hf : ρ f = .func (.func g) #[x] #[]) (w : World) :
    (execOp ρ o).run P w = .ok (.enter g (#[x] ++ c.args.map ρ)) w := by
  obtain ⟨h1, h2⟩ := hp fn hfn
  have hprog : Sem.run P program w = .ok P w := rfl
  have h1' : ¬ fn.name = "runtime.NumGoroutine" := by simpa using h1
  have h2' : ¬ fn.body = none := fun e => by rw [e] at h2; cases h2
  simp [execOp, ho, resolve, hc, hf, Deferred.ofValue, invoke, callFunc, hprog, hfn, h1', h2']
theorem abnd_some {vf : Value} {vs as : List Value} {g : FuncId} (h : abnd vf vs = some (g, as)) : ∃ x, vf = .func (.func g) #[x] #[] ∧ as = x :: vs ∧ g < RB := by
  unfold abnd at h
  split at h
  · rename_i fn first cs
    split at h
    · split at h
      · rename_i x hf
        split at h
        · rename_i hc
          split at h
          · rename_i hglt
            cases h
            have hf' : first = #[x] := by apply Array.ext'; simpa using hf
            have hc' : cs = #[] := by apply Array.ext'; simpa using hc
            subst hf'; subst hc'
            exact ⟨x, rfl, rfl, by simpa using hglt⟩
          · cases h
        · cases h
      · cases h
    · cases h
  · cases h
theorem atarget_some {vf : Value} {g : FuncId} {cs : List Value} (h : atarget vf = some (g, cs)) : ∃ first ds, vf = .func (.func g) first ds ∧ cs = ds.toList ∧ g < RB := by
  unfold atarget at h
  split at h
  · split at h
    · split at h
      · split at h
        · rename_i hglt
          cases h
          exact ⟨_, _, rfl, rfl, by simpa using hglt⟩
        · cases h
      · cases h
    · cases h
  · cases h
/-- Fences that hold nothing back. -/
def fen (ro : Option Nat) : Fence := { Fence.wide with round := ro }
theorem callsIn_fen {ro : Option Nat} {P : Program} {f : FuncId} {args : Array Value} {w : World} {R : Ending → World → Prop} (h : Calls P f args w R) : CallsIn (fen ro) 0 P f args w R := callsIn_wide.2 h
theorem about_fen {ro : Option Nat} (o : Oper) (w : World) (ρ : Operand → Value) : ∀ f, o.about P w ρ = some f → (fen ro).fn f := fun _ _ => trivial
theorem exec_yield {ρ : Operand → Value} {o : Oper} {c : Call} {f : Operand} {l : Nat} {r : Loop} (ho : o.op = .call c) (hc : c.callee = .value f) (hf : ρ f = .func (.yield l) #[] #[]) {w : World}
    (hr : w.heap[l]? = some (.loop r)) (hs : c.args.size = r.params.size) :
    (execOp ρ o).run P w = .ok (.round l r.fn ((r.params.zip (c.args.map ρ)).foldl (fun tmps (t, a) => tmps.setIfInBounds t a) r.tmps) r.assign r.body) w := by
  have hy := run_yield (P := P) (l := l) (r := r) (args := c.args.map ρ) hr (by simpa using hs)
  simp [execOp, ho, resolve, hc, hf, Deferred.ofValue, invoke, hy]

theorem alook_meth {name : String} : ∀ (n t f : Nat), alook (amethsGo P name n) t = some f → ameth P t name = some f
  | 0, t, f, h => by cases h
  | n + 1, t, f, h => by
    simp only [amethsGo] at h
    split at h
    · rename_i g hg
      simp only [alook] at h
      split at h
      · rename_i hb
        obtain rfl := Nat.eq_of_beq_eq_true hb
        cases h
        exact hg
      · exact alook_meth n t f h
    · exact alook_meth n t f h
theorem run_meth {t f : Nat} {name : String} (h : ameth P t name = some f) (v : Value) (n : Nat) (w : World) : (method (n + 1) t v name).run P w = .ok (f, v) w := by
  unfold ameth at h
  split at h
  · cases h
  · rename_i i hi
    split at h
    · cases h
    · rename_i md hmd
      split at h
      · rename_i hp
        have hp' : md.path = #[] := by apply Array.ext'; simpa using hp
        split at h
        · rename_i g pr hf
          have hfind : i.methods.find? (fun x => x.name == name) = some md := by rw [← Array.find?_toList]; exact hmd
          split at h
          · rename_i e hu
            split at h
            · cases h
              simp [method, typeInfo, hi, hfind, hp', follow, hf, receiverAt, run_underlying hu, Place.get]
            · cases h
          · rename_i d hd hu
            split at h
            · cases h
            · cases h
              cases d <;> first | exact absurd rfl (hd _) | simp [method, typeInfo, hi, hfind, hp', follow, hf, receiverAt, run_underlying hu, Place.get]
          · cases h
        · cases h
      · cases h
theorem exec_invoke {ρ : Operand → Value} {o : Oper} {c : Call} {r : Operand} {name : String} {g t : Nat} {x : Value} (hp : ∀ fn, P.funcs[g]? = some fn → (fn.name == "runtime.NumGoroutine") = false ∧ fn.body.isNone = false) {fn : Func} (hfn : P.funcs[g]? = some fn)
    (ho : o.op = .call c) (hc : c.callee = .invoke r name) (hr : ρ r = .iface t x) (hm : ameth P t name = some g) (w : World) :
    (execOp ρ o).run P w = .ok (.enter g (#[x] ++ c.args.map ρ)) w := by
  obtain ⟨h1, h2⟩ := hp fn hfn
  have hprog : Sem.run P program w = .ok P w := rfl
  have h1' : ¬ fn.name = "runtime.NumGoroutine" := by simpa using h1
  have h2' : ¬ fn.body = none := fun e => by rw [e] at h2; cases h2
  have hz : ∃ k, P.types.size + Made.depth = k + 1 := by
    have h0 : 0 < Made.depth := by decide
    exact ⟨P.types.size + Made.depth - 1, by omega⟩
  obtain ⟨k, hk⟩ := hz
  have hy : ∀ (a : Value) (l : Array Value), (#[a] ++ l)[0]? = some a := fun a l => by rw [Array.getElem?_append_left (by simp)]; rfl
  have hq : (c.args.map ρ).extract 0 c.args.size = c.args.map ρ := by
    have := Array.extract_size (xs := c.args.map ρ)
    rwa [Array.size_map] at this
  simp [execOp, ho, resolve, hc, invoke, hr, hy, hq, callMethod, hprog, hk, run_meth hm, callFunc, hfn, h1', h2']
theorem acallee_none {c : Call} {r : Operand} {name : String} (hc : c.callee = .invoke r name) : acallee (.call c) = none := by simp [acallee, hc]
theorem exI_inv {L : Nat} {ev : Operand → Option Value} {m : Mem} {op : Op} {v : Value} {m' : Mem} (h : exI P call L ev m op = some (v, m')) :
    aop P L ev m op = some (v, m') ∨ ∃ c r name t x vs g, op = .call c ∧ c.callee = .invoke r name ∧ ev r = some (.iface t x) ∧ evL ev c.args.toList = some vs ∧ ameth P t name = some g ∧ g < RB ∧ call g (x :: vs) L m = some (v, m') := by
  unfold exI at h
  split at h
  · rename_i c
    split at h
    · rename_i r name hc
      split at h
      · rename_i vr hvr
        split at h
        · rename_i vs hvs
          split at h
          · rename_i g x hg
            unfold acallI at hg
            split at hg
            · rename_i t y
              split at hg
              · rename_i g2 hl
                split at hg
                · rename_i hb
                  cases hg
                  exact .inr ⟨c, r, name, t, _, vs, g, rfl, hc, hvr, hvs, alook_meth _ _ _ hl, by simpa using hb, h⟩
                · cases hg
              · cases hg
            · cases hg
          · cases h
        · cases h
      · cases h
    · exact .inl h
  · exact .inl h

/-- One operation. -/
theorem exA_ok (hP : Prog P) (hc : CallOk P G R B call) (h : Rel G R B U ι m w) (hR : R ≤ L) (hL : L ≤ m.next) {ev : Operand → Option Value} {a : Act} {o : Oper}
    (hev : ∀ x v, ev x = some v → VR ι v (a.eval x)) {v : Value} {m' : Mem} (hx : exA P call L ev m o.op = some (v, m')) (hU : m'.next ≤ U)
    {ro : Option Nat} {next : Act → World → Prop} {Q : Exit → Act → World → Prop} (hn : ∀ u κ w', VR κ v u → Rel G R B U κ m' w' → Step L ι m w κ m' w' → next (a.put o.dst u) w') : o.wpIn (fen ro) 0 P a w next Q := by
  unfold exA at hx
  split at hx
  · rename_i f args hcal
    obtain ⟨c, ho, hcc, hargs⟩ := acallee_some hcal
    split at hx
    · rename_i vf hvf
      split at hx
      · rename_i g cs htg
        split at hx
        · rename_i vs hvs
          have hr := hev _ _ hvf
          unfold atarget at htg
          split at htg
          · rename_i fn first cs'
            split at htg
            · rename_i g'
              split at htg
              · rename_i hfirst
                split at htg
                case h_2 => cases htg
                rename_i hglt
                have hglt : g' < RB := by simpa using hglt
                cases htg
                have : ∃ ds, a.eval f = .func (.func g) #[] ds ∧ VL ι cs'.toList ds.toList := by
                  generalize a.eval f = y at hr
                  cases hr with
                  | func _ _ ds hs hh => exact ⟨ds, rfl, by simpa using hs, fun i v u h1 h2 => hh i v u (by simpa using h1) (by simpa using h2)⟩
                  | funcB _ v u hu => exact absurd hfirst (by simp)
                obtain ⟨ds, hf, hds⟩ := this
                obtain ⟨fn, hfn, hbod⟩ := hc.fn _ _ _ _ _ _ hglt hx
                have hrun := exec_call (P := P) (ρ := a.eval) (o := o) (g := g) (cs := ds) (fun fn' h' => ⟨hP.noCount _ _ h', by rw [hfn] at h'; cases h'; exact hbod⟩) hfn ho hcc hf w
                have hvl := evL_ok hev _ _ hvs
                have := hc.ok _ _ _ _ _ _ hglt hx U ι w (c.args.map a.eval ++ ds) h hR hL hU (by rw [Array.toList_append, Array.toList_map, hargs]; exact hvl.append hds)
                refine ⟨about_fen o w a.eval, ?_⟩
                rw [Oper.semAt_eq _ _ _ (fun c' hd => by rw [ho] at hd; cases hd), hrun]
                rw [Oper.uponIn_enter]
                refine ⟨fun hd => (by cases hd), callsIn_fen (this.mono fun e w' ⟨u, κ, he, g1, g2, g3⟩ => ?_)⟩
                subst he
                exact hn u κ w' g1 g2 g3
              · cases htg
            · cases htg
          · cases htg
        · cases hx
      · split at hx
        · rename_i vs hvs
          split at hx
          · rename_i g as hay
            have hr := hev _ _ hvf
            unfold ayield at hay
            split at hay
            · rename_i fn first cs _
              split at hay
              · rename_i y _
                split at hay
                · rename_i k hk
                  split at hay
                  · rename_i es hes
                    split at hay
                    · cases hay
                    · rename_i s hs
                      split at hay
                      · rename_i hm2
                        have hm2 : s % 2 = 0 := Nat.eq_of_beq_eq_true hm2
                        simp only [Option.some.injEq, Prod.mk.injEq] at hay
                        obtain ⟨rfl, rfl⟩ := hay
                        have : ∃ e, a.eval f = .func (.yield e.cb) #[] #[] ∧ ι y = some e ∧ first = #[] ∧ cs = #[] := by
                          generalize a.eval f = z at hr
                          cases hr with
                          | yield _ e he => exact ⟨e, rfl, he, rfl, rfl⟩
                        obtain ⟨e, hf, he, rfl, rfl⟩ := this
                        have hobj := h.maps y e k es he hk hes
                        unfold ObjRel at hobj
                        rw [hs] at hobj
                        obtain ⟨r, i, h1, h2⟩ := hobj
                        have hvl := evL_ok hev _ _ hvs
                        have hk' : m.rd y = some ⟨Nat.succ (2 * Nat.div s 2), k.cells, some es⟩ := by
                          rw [hk, show Nat.succ (2 * Nat.div s 2) = k.esz by rw [hs]; show 2 * (s / 2) + 1 = s + 1; omega, ← hes]
                        obtain ⟨hsz, hround⟩ := hc.rnd _ y k.cells vs L m v m' es hx hk' U ι w (c.args.map a.eval) h hR hL hU (by rw [Array.toList_map, hargs]; exact hvl) e r he h1
                        refine ⟨about_fen o w a.eval, ?_⟩
                        rw [Oper.semAt_eq _ _ _ (fun c' hd => by rw [ho] at hd; cases hd), exec_yield ho hcc hf h1 (by simpa using hsz)]
                        rw [Oper.uponIn_round]
                        refine ⟨fun hd => (by cases hd), RoundIn.mono hround fun e w' ⟨u, κ, he, g1, g2, g3⟩ => ?_⟩
                        subst he
                        exact hn u κ w' g1 g2 g3
                      · cases hay
                  · cases hay
                · cases hay
              · cases hay
            · cases hay
          · split at hx
            · rename_i g as hab
              obtain ⟨x, rfl, rfl, hglt⟩ := abnd_some hab
              have hr := hev _ _ hvf
              have : ∃ x', a.eval f = .func (.func g) #[x'] #[] ∧ VR ι x x' := by
                generalize a.eval f = z at hr
                cases hr with
                | funcB _ _ u hu => exact ⟨u, rfl, hu⟩
              obtain ⟨x', hf, hxx⟩ := this
              obtain ⟨fn, hfn, hbod⟩ := hc.fn _ _ _ _ _ _ hglt hx
              have hrun := exec_callB (P := P) (ρ := a.eval) (o := o) (g := g) (x := x') (fun fn' h' => ⟨hP.noCount _ _ h', by rw [hfn] at h'; cases h'; exact hbod⟩) hfn ho hcc hf w
              have hvl := evL_ok hev _ _ hvs
              have := hc.ok _ _ _ _ _ _ hglt hx U ι w (#[x'] ++ c.args.map a.eval) h hR hL hU (by rw [Array.toList_append, Array.toList_map, hargs]; exact VL.cons hxx hvl)
              refine ⟨about_fen o w a.eval, ?_⟩
              rw [Oper.semAt_eq _ _ _ (fun c' hd => by rw [ho] at hd; cases hd), hrun]
              rw [Oper.uponIn_enter]
              refine ⟨fun hd => (by cases hd), callsIn_fen (this.mono fun e w' ⟨u, κ, he, g1, g2, g3⟩ => ?_)⟩
              subst he
              exact hn u κ w' g1 g2 g3
            · cases hx
        · cases hx
    · cases hx
  · rcases exI_inv hx with hx | ⟨c, r, name, t, x, vs, g, hop, hcc, hvr, hvs, hm, hglt, hx⟩
    · obtain ⟨r, u, κ, w', hrun, hru, g1, g2, g3⟩ := aop_ok (P := P) h hR hL hev hx hU
      refine ⟨about_fen o w a.eval, ?_⟩
      rw [Oper.semAt_eq _ _ _ (fun c' hd => by rw [hd] at hx; simp [aop, apure] at hx), hrun]
      rcases hru with rfl | ⟨rfl, rfl⟩
      · exact hn u κ w' g1 g2 g3
      · exact hn _ κ w' g1 g2 g3
    · have hr := hev _ _ hvr
      have : ∃ x', a.eval r = .iface t x' ∧ VR ι x x' := by
        generalize a.eval r = y at hr
        cases hr with
        | iface _ _ u hu => exact ⟨u, rfl, hu⟩
      obtain ⟨x', hf, hxx⟩ := this
      obtain ⟨fn, hfn, hbod⟩ := hc.fn _ _ _ _ _ _ hglt hx
      have hrun := exec_invoke (P := P) (ρ := a.eval) (o := o) (fun fn' h' => ⟨hP.noCount _ _ h', by rw [hfn] at h'; cases h'; exact hbod⟩) hfn hop hcc hf hm w
      have hvl := evL_ok hev _ _ hvs
      have := hc.ok _ _ _ _ _ _ hglt hx U ι w (#[x'] ++ c.args.map a.eval) h hR hL hU (by rw [Array.toList_append, Array.toList_map]; exact VL.cons hxx hvl)
      refine ⟨about_fen o w a.eval, ?_⟩
      rw [Oper.semAt_eq _ _ _ (fun c' hd => by rw [hop] at hd; cases hd), hrun]
      rw [Oper.uponIn_enter]
      refine ⟨fun hd => (by cases hd), callsIn_fen (this.mono fun e w' ⟨u, κ, he, g1, g2, g3⟩ => ?_)⟩
      subst he
      exact hn u κ w' g1 g2 g3

theorem exA_ext (hc : CallOk P G R B call) (hm : m.ok) (hL : L ≤ m.next) {ev : Operand → Option Value} {op : Op} {v : Value} {m' : Mem} (hx : exA P call L ev m op = some (v, m')) : Ext L m m' := by
  unfold exA exI at hx
  (repeat' split at hx) <;> first | exact hc.ext _ _ _ _ _ _ hm hL hx | exact aop_ext hm hx | cases hx

theorem wantA_ok {K : List Nat} {ops : Array Oper} {fr : Fr} {o : Oper} {b : Bool} {a : Act} (h : wantA K ops.toList fr o = some b)
    (hf : ∀ t v, fget K fr t = some v → (∃ j oj, o.guard.map (·.1) = some j ∧ ops[j]? = some oj ∧ oj.dst = some t) → VR ι v (a.tmps.getD t Go.undef)) : Region.wanted o (yielded ops a.tmps) = b := by
  unfold wantA at h
  unfold Region.wanted
  split at h
  · rename_i hg; cases h; rw [hg]
  · rename_i j want hg
    rw [hg]
    simp only []
    split at h
    · rename_i oj hoj
      have hoj' : ops[j]? = some oj := by rw [lget_eq] at hoj; simpa using hoj
      split at h
      · rename_i d hd
        have hy : yielded ops a.tmps j = match a.tmps[d]? with | some (.bool b) => some b | _ => none := by
          unfold yielded; rw [hoj']; simp only [Option.bind_some, hd]; rfl
        rw [hy]
        split at h
        · rename_i x hx
          cases h
          have hr := hf d _ hx ⟨j, oj, by rw [hg]; rfl, hoj', hd⟩
          cases ht : a.tmps[d]? with
          | none => rw [Array.getD_eq_getD_getElem?, ht] at hr; cases hr
          | some y =>
            rw [Array.getD_eq_getD_getElem?, ht] at hr
            cases hr
            simp only []
            cases x <;> cases want <;> rfl
        · rename_i vs hx
          cases h
          have hr := hf d _ hx ⟨j, oj, by rw [hg]; rfl, hoj', hd⟩
          cases ht : a.tmps[d]? with
          | none => rfl
          | some y =>
            rw [Array.getD_eq_getD_getElem?, ht] at hr
            cases hr
            rfl
        · cases h
      · cases h
    · cases h

/-! ### A region in the text's order -/
theorem range_cons (k n : Nat) : List.range' k (n + 1) = k :: List.range' (k + 1) n := rfl
theorem evOps_ext (hc : CallOk P G R B call) {N : Nat} {K : List Nat} {ops : List Oper} : ∀ (l : List (Oper × Bool)) (fr : Fr) (m : Mem) (fr' : Fr) (m' : Mem), m.ok → L ≤ m.next →
    evOps P G N K call ops L l fr m = some (fr', m') → Ext L m m'
  | [], fr, m, fr', m', hm, hL, h => by cases h; exact Ext.refl hm
  | (o, eff) :: l, fr, m, fr', m', hm, hL, h => by
    simp only [evOps] at h
    split at h
    · cases h
    · split at h
      · exact evOps_ext hc l _ _ _ _ hm hL h
      · exact evOps_ext hc l _ _ _ _ hm hL (fsetK_eq h).2
    · split at h
      · cases h
      · rename_i v m1 hx
        have h1 : Ext L m m1 := by
          have := exA_ext hc hm (by cases eff <;> simp <;> omega) hx
          cases eff
          · exact this.mono hL
          · exact this
        have hL1 := Nat.le_trans hL h1.next
        split at h
        · exact h1.trans (evOps_ext hc l _ _ _ _ h1.ok hL1 h)
        · exact h1.trans (evOps_ext hc l _ _ _ _ h1.ok hL1 (fsetK_eq h).2)

theorem evOps_okT (hP : Prog P) (hc : CallOk P G R B call) {N : Nat} {K : List Nat} {ops : Array Oper} (hR : R ≤ L) {ro : Option Nat} {Q : Exit → Act → World → Prop} {rest : List Nat} :
    ∀ (l : List Oper) (k : Nat) (fr : Fr) (m : Mem) (ι : Inj) (a : Act) (w : World) (fr' : Fr) (m' : Mem),
      evOps P G N K call ops.toList L (l.map fun o => (o, true)) fr m = some (fr', m') → (∀ j o, l[j]? = some o → ops[k + j]? = some o) → Rel G R B U ι m w → L ≤ m.next → m'.next ≤ U →
      FR ι (fget K fr) a → N ≤ a.tmps.size →
      (∀ κ a' w', Rel G R B U κ m' w' → FR κ (fget K fr') a' → a'.tmps.size = a.tmps.size → a'.defers = a.defers → Step L ι m w κ m' w' → wpOpsIn (fen ro) 0 P ops Q rest a' w') → wpOpsIn (fen ro) 0 P ops Q (List.range' k l.length ++ rest) a w
  | [], k, fr, m, ι, a, w, fr', m', h, _, hr, hL, hU, hf, hN, hq => by
    cases h
    exact hq ι a w hr hf rfl rfl (Step.refl' _ _ _ _)
  | o :: l, k, fr, m, ι, a, w, fr', m', h, hl, hr, hL, hU, hf, hN, hq => by
    have ho : ops[k]? = some o := by simpa using hl 0 o rfl
    have hl' : ∀ j o, l[j]? = some o → ops[k + 1 + j]? = some o := fun j o' ho' => by
      have := hl (j + 1) o' (by simpa using ho')
      rw [show k + (j + 1) = k + 1 + j by omega] at this
      simpa using this
    simp only [List.map_cons, evOps] at h
    rw [List.length_cons, range_cons, List.cons_append]
    simp only [wpOpsIn, ho]
    -- the rest, once the operation is done
    have fin : ∀ (v : Value) (m1 : Mem), Ext L m m1 →
        (match o.dst with | none => evOps P G N K call ops.toList L (l.map fun o => (o, true)) fr m1 | some d => fsetK N K fr d v fun fr => evOps P G N K call ops.toList L (l.map fun o => (o, true)) fr m1) = some (fr', m') →
        m1.next ≤ m'.next ∧ ∀ u κ w1, VR κ v u → Rel G R B U κ m1 w1 → Step L ι m w κ m1 w1 → wpOpsIn (fen ro) 0 P ops Q (List.range' (k + 1) l.length ++ rest) (a.put o.dst u) w1 := by
      intro v m1 hm1 hh
      cases hd : o.dst with
      | none =>
        rw [hd] at hh
        have hn1 := hm1.next
        exact ⟨(evOps_ext hc _ _ _ _ _ hm1.ok (by omega) hh).next, fun u κ w1 hvu hr1 hs1 => evOps_okT hP hc hR l (k + 1) fr m1 κ a w1 fr' m' hh hl' hr1 (by omega) hU (hf.mono hs1.le) hN
          fun κ' a' w' g1 g2 g3 g4 g5 => hq κ' a' w' g1 g2 g3 g4 (hs1.trans g5)⟩
      | some d =>
        rw [hd] at hh
        obtain ⟨hdN, hh⟩ := fsetK_eq hh
        have hn1 := hm1.next
        refine ⟨(evOps_ext hc _ _ _ _ _ hm1.ok (by omega) hh).next, fun u κ w1 hvu hr1 hs1 => evOps_okT hP hc hR l (k + 1) _ m1 κ (a.put (some d) u) w1 fr' m' hh hl' hr1 (by omega) hU ((hf.mono hs1.le).put (by omega) hvu) (by simpa [Act.put] using hN)
          fun κ' a' w' g1 g2 g3 g4 g5 => hq κ' a' w' g1 g2 (by simpa [Act.put] using g3) (by simpa [Act.put] using g4) (hs1.trans g5)⟩
    split at h
    · cases h
    · rename_i hw
      have hwant := wantA_ok (a := a) hw fun t v hv _ => hf t v hv
      simp only [hwant, Bool.false_eq_true, if_false]
      exact ⟨about_fen o w a.eval, (fin Go.undef m (Ext.refl hr.ok) h).2 Go.undef ι w (VR.undef ι) hr (Step.refl' _ _ _ _)⟩
    · rename_i hw
      have hwant := wantA_ok (a := a) hw fun t v hv _ => hf t v hv
      simp only [hwant, if_true]
      split at h
      · cases h
      · rename_i v m1 hx
        have h1 : Ext L m m1 := exA_ext hc hr.ok hL hx
        obtain ⟨h2, h3⟩ := fin v m1 h1 h
        exact exA_ok hP hc hr hR hL (fun x v hv => aeval_ok hr.gl hf hv) hx (Nat.le_trans h2 hU) h3
theorem evOps_ok (hP : Prog P) (hc : CallOk P G R B call) {N : Nat} {K : List Nat} {ops : Array Oper} (hR : R ≤ L) {ro : Option Nat} {Q : Exit → Act → World → Prop}
    (l : List Oper) (k : Nat) (fr : Fr) (m : Mem) (ι : Inj) (a : Act) (w : World) (fr' : Fr) (m' : Mem)
    (h : evOps P G N K call ops.toList L (l.map fun o => (o, true)) fr m = some (fr', m')) (hl : ∀ j, l[j]? = ops[k + j]?) (hr : Rel G R B U ι m w) (hL : L ≤ m.next) (hU : m'.next ≤ U)
    (hf : FR ι (fget K fr) a) (hN : N ≤ a.tmps.size)
    (hq : ∀ κ a' w', Rel G R B U κ m' w' → FR κ (fget K fr') a' → a'.tmps.size = a.tmps.size → a'.defers = a.defers → Step L ι m w κ m' w' → Q .normal a' w') : wpOpsIn (fen ro) 0 P ops Q (List.range' k l.length) a w := by
  have := evOps_okT (ro := ro) (Q := Q) (rest := []) hP hc hR l k fr m ι a w fr' m' h (fun j o ho => by rw [← hl j]; exact ho) hr hL hU hf hN hq
  rwa [List.append_nil] at this
/-! ### An append whose result is only lent to the next call -/
theorem Rel.revive (h : Rel G R B U ι m w) {b : Nat} {e : Ent} {kb : Blk} (hb : b < m.next) (hRb : R ≤ b) (he : ι b = some e) (hn : kb.ents = none)
    (hc : ∀ (i : Nat) (v : Value), kb.cells[i]? = some v → ∃ u, VR ι v u ∧ w.cell? ⟨e.cb, e.base + i, none⟩ = some u)
    (ho : ∃ c t, w.heap[e.cb]? = some (.cells c t (0, 0)) ∧ c.size = e.base + kb.cells.length + e.extra * kb.esz)
    (hd : ∀ d ed kd, d ≠ b → ι d = some ed → m.rd d = some kd → e.cb ≠ ed.cb) : Rel G R B U ι (m.put b (some kb)) w := by
  have key : ∀ d kd, (m.put b (some kb)).rd d = some kd → (d = b ∧ kd = kb) ∨ (d ≠ b ∧ m.rd d = some kd) := fun d kd hkd => by
    by_cases hdb : b = d
    · subst hdb; rw [Mem.rd_put_same _ hb] at hkd; cases hkd; exact .inl ⟨rfl, rfl⟩
    · rw [Mem.rd_put_ne h.ok _ hb hdb] at hkd; exact .inr ⟨fun e => hdb e.symm, hkd⟩
  refine ⟨h.ok, h.rlt, h.old, h.gl, h.dom, h.size, h.ge, ?_, ?_, ?_, ?_⟩
  · intro d ed kd h1 h2 h3 i v hv
    rcases key d kd h2 with ⟨rfl, rfl⟩ | ⟨_, h2⟩
    · rw [he] at h1; cases h1; exact hc i v hv
    · exact h.cells d ed kd h1 h2 h3 i v hv
  · intro d ed kd h0 h1 h2 h3
    rcases key d kd h2 with ⟨rfl, rfl⟩ | ⟨_, h2⟩
    · rw [he] at h1; cases h1; exact ho
    · exact h.own d ed kd h0 h1 h2 h3
  · intro d d' ed ed' kd kd' h0 hne h1 h1' h2 h2'
    rcases key d kd h2 with ⟨rfl, rfl⟩ | ⟨hdb, k2⟩
    · rw [he] at h1; cases h1
      rcases key d' kd' h2' with ⟨rfl, _⟩ | ⟨hdb', k2'⟩
      · exact absurd rfl hne
      · exact hd d' ed' kd' hdb' h1' k2'
    · rcases key d' kd' h2' with ⟨rfl, rfl⟩ | ⟨hdb', k2'⟩
      · rw [he] at h1'; cases h1'
        exact (hd d ed kd hdb h1 k2).symm
      · exact h.disj d d' ed ed' kd kd' h0 hne h1 h1' k2 k2'
  · intro d ed kd es h1 h2 h3
    rcases key d kd h2 with ⟨rfl, rfl⟩ | ⟨_, h2⟩
    · rw [hn] at h3; cases h3
    · exact h.maps d ed kd es h1 h2 h3
theorem Step.mem {κ : Inj} {m' m2 : Mem} {w' : World} (h : Step L ι m w κ m' w') (hn : m2.next = m'.next) (hk : ∀ b, b < L → b < m.next → m2.rd b = m'.rd b) : Step L ι m w κ m2 w' :=
  ⟨h.le, fun b e hb => by rw [hn]; exact h.foreign b e hb, fun b e h1 h2 => by rw [hn]; exact h.fresh b e h1 h2, by rw [hn]; exact h.next, fun b h1 h2 => (hk b h1 h2).trans (h.kept b h1 h2), h.os, h.tape, h.output, h.size, h.block⟩
/-- The row that an append took is given back, and the longer one given up. -/
def lendBack (L : Nat) (m0 m1 m2 : Mem) (s : Value) : Mem := match s with
  | .slice (some ⟨b, _, _⟩) n c => match Nat.beq n c with
    | true => match Nat.ble L b with
      | true => match Nat.blt m0.next m1.next with
        | true => match m1.rd b with
          | some _ => m2
          | none => match m0.rd b with
            | some kb => (m2.put m0.next none).put b (some kb)
            | none => m2
        | false => m2
      | false => m2
    | false => m2
  | _ => m2
theorem lendBack_ext {L : Nat} {m0 m1 m2 : Mem} {s : Value} (hL : L ≤ m0.next) (h1 : m0.next ≤ m1.next) (h2 : Ext L m0 m2) : Ext L m0 (lendBack L m0 m1 m2 s) := by
  unfold lendBack
  split
  · split
    · split
      · rename_i hb
        split
        · split
          · exact h2
          · split
            · rename_i kb hkb
              have hb' := Nat.le_of_ble_eq_true hb
              have hlt := Mem.rd_lt hkb
              refine ⟨h2.next, h2.ok, fun d hd hdn => ?_⟩
              have hn2 := h2.next
              rw [Mem.rd_put_ne trivial _ (by show _ < m2.next; omega) (by omega)]
              by_cases hg : m0.next < m2.next
              · rw [Mem.rd_put_ne trivial _ hg (by omega)]
                exact h2.kept d hd hdn
              · rw [show (m2.put m0.next none).rd d = m2.rd d from by unfold Mem.rd Mem.put; simp only []; rw [Tr.get_set_ne _ depth _ _ _ (by omega)]]
                exact h2.kept d hd hdn
            · exact h2
        · exact h2
      · exact h2
    · exact h2
  · exact h2
theorem lendBack_ok {κ κ2 : Inj} {m1 m2 : Mem} {w1 w2 : World} {s : Value} (hR : R ≤ L) (hL : L ≤ m.next) (h0 : Rel G R B U ι m w) (h1 : Rel G R B U κ m1 w1) (s1 : Step L ι m w κ m1 w1) (hl : Lent L ι κ m m1 w1 s)
    (h2 : Rel G R B U κ2 m2 w2) (s2 : Step m1.next κ m1 w1 κ2 m2 w2) (hU : m2.next ≤ U) : Rel G R B U κ2 (lendBack L m m1 m2 s) w2 ∧ Step L ι m w κ2 (lendBack L m m1 m2 s) w2 := by
  have hn1 := s1.next
  have hn2 := s2.next
  have st : Step L ι m w κ2 m2 w2 := s1.trans (s2.mono (by omega))
  have triv : Rel G R B U κ2 m2 w2 ∧ Step L ι m w κ2 m2 w2 := ⟨h2, st⟩
  unfold lendBack
  split
  · rename_i b o sp n c
    split
    · rename_i hnc
      obtain rfl := Nat.eq_of_beq_eq_true hnc
      split
      · rename_i hb
        split
        · rename_i hlt
          have hlt : m.next < m1.next := by simpa using hlt
          split
          · exact triv
          · rename_i hdead
            split
            · rename_i kb hkb
              obtain ⟨hLb, e, he, hents, hc, ⟨ca, t, hh, hsz⟩, hdj⟩ := hl b o sp n kb rfl hkb hdead
              have hbm : b < m.next := Mem.rd_lt hkb
              have he1 := s1.le _ _ he
              have he2 := s2.le _ _ he1
              have hblk : w2.heap[e.cb]? = w1.heap[e.cb]? := s2.block _ (h1.size b e he1) fun b0 e0 g1 g2 => by omega
              refine ⟨?_, ?_⟩
              · refine (h2.kill (b := m.next) (by omega)).revive (e := e) (by show b < m2.next; omega) (by omega) he2 hents (fun i v hv => ?_) ⟨ca, t, by rw [hblk]; exact hh, hsz⟩ (fun d ed kd hdb hd hk => ?_)
                · obtain ⟨u, g1, g2⟩ := hc i v hv
                  exact ⟨u, (g1.mono s1.le).mono s2.le, by simp only [World.cell?, hblk] at g2 ⊢; exact g2⟩
                · by_cases hdg : d = m.next
                  · subst hdg; rw [Mem.rd_put_same _ (by omega)] at hk; cases hk
                  · rw [Mem.rd_put_ne h2.ok _ (by omega) (Ne.symm hdg)] at hk
                    have hd2 : d < m2.next := Mem.rd_lt hk
                    cases hi : κ d with
                    | none =>
                      obtain ⟨g1, g2, g3⟩ := s2.fresh d ed hd hi
                      rcases g3 with g3 | ⟨b0, e0, g3, g4, _⟩
                      · have := h1.size b e he1; omega
                      · omega
                    | some ed' =>
                      have := s2.le _ _ hi
                      rw [hd] at this
                      cases this
                      rcases h1.dom _ _ hi with g1 | g1
                      · rw [s2.kept d g1 g1] at hk
                        exact hdj d ed kd hdg hi hk
                      · omega
              · refine st.mem rfl fun d hd hdn => ?_
                rw [Mem.rd_put_ne trivial _ (by show b < m2.next; omega) (by omega), Mem.rd_put_ne trivial _ (by omega) (by omega)]
            · exact triv
        · exact triv
      · exact triv
    · exact triv
  · exact triv
/-- What an append is called with. -/
def appOf (ev : Operand → Option Value) (o : Oper) : Option (TypeId × (Value × Value)) := match o.op with
  | .call c => match c.callee with
    | .builtin b => match b with
      | .append => match evL ev c.args.toList with
        | some vs => match vs with
          | [s, x] => match c.argTypes.toList with
            | [t, t'] => match Nat.beq t t' with
              | true => some (t, (s, x))
              | false => none
            | _ => none
          | _ => none
        | none => none
      | _ => none
    | _ => none
  | _ => none
theorem appOf_some {ev : Operand → Option Value} {o : Oper} {t : TypeId} {s x : Value} (h : appOf ev o = some (t, (s, x))) : ∃ c, o.op = .call c ∧ c.callee = .builtin .append ∧ evL ev c.args.toList = some [s, x] ∧ c.argTypes.toList = [t, t] := by
  unfold appOf at h
  split at h
  · rename_i c hop
    split at h
    · rename_i b hb
      split at h
      · split at h
        · rename_i vs hvs
          split at h
          · split at h
            · rename_i t1 t2 hts
              split at h
              · rename_i hbt
                obtain rfl := Nat.eq_of_beq_eq_true hbt
                cases h
                exact ⟨c, hop, hb, hvs, hts⟩
              · cases h
            · cases h
          · cases h
        · cases h
      · cases h
    · cases h
  · cases h
def evLend (P : Program) (G N : Nat) (K : List Nat) (call : CallT) (L : Nat) (ops : List Oper) (j : Nat) (fr : Fr) (m : Mem) : Option (Fr × Mem) := match lget ops j with
  | none => none
  | some o1 => match lget ops (Nat.succ j) with
    | none => none
    | some o2 => match o1.guard with
      | some _ => none
      | none => match o2.guard with
        | some _ => none
        | none => match appOf (aeval G (fget K fr)) o1 with
          | none => none
          | some (t, (s, x)) => match o1.dst with
            | none => none
            | some d1 => match aappend P L m t s x with
              | none => none
              | some (v, m1) => fsetK N K fr d1 v fun fr1 => match exA P call m1.next (aeval G (fget K fr1)) m1 o2.op with
                | none => none
                | some (u, m2) => match o2.dst with
                  | none => some (fr1, lendBack L m m1 m2 s)
                  | some d2 => fsetK N K fr1 d2 u fun fr2 => some (fr2, lendBack L m m1 m2 s)
theorem evLend_inv {N : Nat} {K : List Nat} {ops : List Oper} {j : Nat} {fr fr' : Fr} {m m' : Mem} (h : evLend P G N K call L ops j fr m = some (fr', m')) :
    ∃ o1 o2 t s x d1 v m1 u m2, ops[j]? = some o1 ∧ ops[j + 1]? = some o2 ∧ o1.guard = none ∧ o2.guard = none ∧ appOf (aeval G (fget K fr)) o1 = some (t, (s, x)) ∧ o1.dst = some d1 ∧ aappend P L m t s x = some (v, m1) ∧
      d1 < N ∧ exA P call m1.next (aeval G (fget K (fset K fr d1 v))) m1 o2.op = some (u, m2) ∧ m' = lendBack L m m1 m2 s ∧
      ((o2.dst = none ∧ fr' = fset K fr d1 v) ∨ ∃ d2, o2.dst = some d2 ∧ d2 < N ∧ fr' = fset K (fset K fr d1 v) d2 u) := by
  unfold evLend at h
  split at h
  · cases h
  · rename_i o1 ho1
    split at h
    · cases h
    · rename_i o2 ho2
      split at h
      · cases h
      · rename_i hg1
        split at h
        · cases h
        · rename_i hg2
          split at h
          · cases h
          · rename_i t s x hap
            split at h
            · cases h
            · rename_i d1 hd1
              split at h
              · cases h
              · rename_i v m1 ha
                obtain ⟨hdN, h⟩ := fsetK_eq h
                split at h
                · cases h
                · rename_i u m2 hx
                  rw [lget_eq] at ho1 ho2
                  split at h
                  · rename_i hd2
                    cases h
                    exact ⟨o1, o2, t, s, x, d1, v, m1, u, m2, ho1, ho2, hg1, hg2, hap, hd1, ha, hdN, hx, rfl, .inl ⟨hd2, rfl⟩⟩
                  · rename_i d2 hd2
                    obtain ⟨hdN2, h⟩ := fsetK_eq h
                    cases h
                    exact ⟨o1, o2, t, s, x, d1, v, m1, u, m2, ho1, ho2, hg1, hg2, hap, hd1, ha, hdN, hx, rfl, .inr ⟨d2, hd2, hdN2, rfl⟩⟩
theorem app_exA {ev : Operand → Option Value} {o : Oper} {t : TypeId} {s x v : Value} {m1 : Mem} (h : appOf ev o = some (t, (s, x))) (ha : aappend P L m t s x = some (v, m1)) : exA P call L ev m o.op = some (v, m1) := by
  obtain ⟨c, hop, hb, hvs, hts⟩ := appOf_some h
  rw [hop]
  simp [exA, acallee, exI, aop, hb, hvs, hts, ha]
theorem evLend_ext (hc : CallOk P G R B call) {N : Nat} {K : List Nat} {ops : List Oper} {j : Nat} {fr fr' : Fr} {m m' : Mem} (hm : m.ok) (hL : L ≤ m.next) (h : evLend P G N K call L ops j fr m = some (fr', m')) : Ext L m m' := by
  obtain ⟨o1, o2, t, s, x, d1, v, m1, u, m2, _, _, _, _, hap, _, ha, _, hx, rfl, _⟩ := evLend_inv h
  have e1 : Ext L m m1 := exA_ext hc hm hL (app_exA (call := call) hap ha)
  have e2 : Ext m1.next m1 m2 := exA_ext hc e1.ok (Nat.le_refl _) hx
  exact lendBack_ext hL e1.next (e1.trans (e2.mono (by have := e1.next; omega)))
theorem evLend_ok (hP : Prog P) (hc : CallOk P G R B call) {N : Nat} {K : List Nat} {ops : Array Oper} (hR : R ≤ L) {ro : Option Nat} {Q : Exit → Act → World → Prop} {rest : List Nat} {j : Nat} {fr fr' : Fr} {m m' : Mem} {ι : Inj} {a : Act} {w : World}
    (h : evLend P G N K call L ops.toList j fr m = some (fr', m')) (hr : Rel G R B U ι m w) (hL : L ≤ m.next) (hU : m'.next ≤ U) (hf : FR ι (fget K fr) a) (hN : N ≤ a.tmps.size)
    (hq : ∀ κ a' w', Rel G R B U κ m' w' → FR κ (fget K fr') a' → a'.tmps.size = a.tmps.size → a'.defers = a.defers → Step L ι m w κ m' w' → wpOpsIn (fen ro) 0 P ops Q rest a' w') :
    wpOpsIn (fen ro) 0 P ops Q (j :: (j + 1) :: rest) a w := by
  obtain ⟨o1, o2, t, s, x, d1, v, m1, u, m2, ho1, ho2, hg1, hg2, hap, hd1, ha, hdN, hx, rfl, hfr⟩ := evLend_inv h
  have ho1 : ops[j]? = some o1 := by simpa using ho1
  have ho2 : ops[j + 1]? = some o2 := by simpa using ho2
  have e1 : Ext L m m1 := exA_ext hc hr.ok hL (app_exA (call := call) hap ha)
  have e2 : Ext m1.next m1 m2 := exA_ext hc e1.ok (Nat.le_refl _) hx
  have hn1 := e1.next
  have hn2 := e2.next
  have hback : (lendBack L m m1 m2 s).next = m2.next := by
    unfold lendBack
    (repeat' split) <;> rfl
  have hU2 : m2.next ≤ U := by rw [← hback]; exact hU
  have w1 : ∀ (o : Oper) (k : Nat) (fr : Fr) (a : Act), o.guard = none → Region.wanted o (yielded ops a.tmps) = true := fun o k fr a hg => by unfold Region.wanted; rw [hg]
  obtain ⟨c, hop, hb, hvs, hts⟩ := appOf_some hap
  have hl := evL_ok (fun x v hv => aeval_ok hr.gl hf hv) _ _ hvs
  obtain ⟨s', l1, g1, hs, hl1⟩ := hl.inv_cons
  obtain ⟨x', l2, g2, hxx, hl2⟩ := hl1.inv_cons
  obtain rfl := hl2.inv_nil
  subst g2
  obtain ⟨ks, hrun⟩ := exec_builtin (P := P) (ρ := a.eval) (o := o1) hop hb w
  have hargs : c.args.map a.eval = #[s', x'] := by apply Array.ext'; simpa using g1
  have hats : c.argTypes = #[t, t] := by apply Array.ext'; simpa using hts
  obtain ⟨y, κ, w', k1, k2, k3, k4, k5⟩ := aappend_ok (P := P) (ty := o1.type) hr hR hL ha (Nat.le_trans hn2 hU2) hs hxx
  have hrun : (execOp a.eval o1).run P w = .ok (.value y) w' := by
    rw [hrun, hargs, hats]
    simp [builtin, k1]
  have hf1 : FR κ (fget K (fset K fr d1 v)) (a.put o1.dst y) := by rw [hd1]; exact (hf.mono k4.le).put (Nat.lt_of_lt_of_le hdN hN) k2
  have hN1 : N ≤ (a.put o1.dst y).tmps.size := by rw [hd1]; simpa [Act.put] using hN
  have step2 : wpOpsIn (fen ro) 0 P ops Q ((j + 1) :: rest) (a.put o1.dst y) w' := by
    simp only [wpOpsIn, ho2, w1 o2 0 fr (a.put o1.dst y) hg2, if_true]
    refine exA_ok hP hc k3 (by omega) (Nat.le_refl _) (fun x v hv => aeval_ok k3.gl hf1 hv) hx hU2 fun u' κ2 w2 q1 q2 q3 => ?_
    obtain ⟨r1, r2⟩ := lendBack_ok hR hL hr k3 k4 k5 q2 q3 hU2
    refine hq κ2 _ w2 r1 ?_ ?_ ?_ r2
    · rcases hfr with ⟨hd2, rfl⟩ | ⟨d2, hd2, hdN2, rfl⟩
      · rw [hd2]; exact hf1.mono q3.le
      · rw [hd2]; exact (hf1.mono q3.le).put (Nat.lt_of_lt_of_le hdN2 hN1) q1
    · rcases hfr with ⟨hd2, rfl⟩ | ⟨d2, hd2, hdN2, rfl⟩ <;> rw [hd1, hd2] <;> simp [Act.put]
    · rcases hfr with ⟨hd2, rfl⟩ | ⟨d2, hd2, hdN2, rfl⟩ <;> rw [hd1, hd2] <;> simp [Act.put]
  simp only [wpOpsIn, ho1, ho2, w1 o1 0 fr a hg1, if_true]
  simp only [wpOpsIn, ho2] at step2
  refine ⟨about_fen o1 w a.eval, ?_⟩
  rw [Oper.semAt_eq _ _ _ (fun c' hd => by rw [hop] at hd; cases hd), hrun]
  exact step2
end
end Go.Vit

/- A region whose order is open: the text's order, reckoned once, tells all orders. -/
namespace Go.Vit
open Go

/-- Operations that touch no memory. -/
def pureKind (op : Op) : Bool := match op with
  | .move _ | .assign _ | .pick .. | .binOp .. | .unOp .. | .convert .. | .extract .. | .nilCheck _ | .fieldAddr .. | .field .. | .indexAddr .. | .index .. | .slice .. | .makeFunc .. | .makeInterface .. | .build .. | .typeAssert .. => true
  | .call c => match c.callee with
    | .builtin .len | .builtin .cap | .builtin .min | .builtin .max => true
    | _ => false
  | _ => false
theorem exA_pure {P : Program} {call : CallT} {L : Nat} {ev : Operand → Option Value} {m : Mem} {op : Op} (h : pureKind op = true) :
    exA P call L ev m op = match apure P ev op with | some v => some (v, m) | none => none := by
  cases op <;> first | rfl | (cases h; done) | skip
  rename_i c
  obtain ⟨callee, args, tys⟩ := c
  cases callee with
  | builtin b => cases b <;> first | rfl | (cases h; done)
  | value f => cases h
  | invoke r m => cases h

/-! ### What stands before what -/
def maskOf (acc : List Nat) (o : Oper) : Nat := o.after.toList.foldl (fun s e => match Region.binds .any e with
  | true => Nat.lor s (Nat.lor (Nat.shiftLeft 1 e.on) (match lget acc e.on with
    | some k => k
    | none => 0))
  | false => s) 0
def masks : List Oper → List Nat → List Nat
  | [], acc => acc
  | o :: l, acc => masks l (acc ++ [maskOf acc o])
def bit (ms : List Nat) (i j : Nat) : Bool := match lget ms i with
  | some k => Nat.testBit k j
  | none => false

theorem maskOf_bit {acc : List Nat} {o : Oper} {j : Nat} (h : (maskOf acc o).testBit j = true) : ∃ e ∈ o.after, Region.binds .any e = true ∧ (e.on = j ∨ ∃ k, acc[e.on]? = some k ∧ k.testBit j = true) := by
  have key : ∀ (l : List Edge) (s : Nat), (l.foldl (fun s e => match Region.binds .any e with
      | true => Nat.lor s (Nat.lor (Nat.shiftLeft 1 e.on) (match lget acc e.on with | some k => k | none => 0))
      | false => s) s).testBit j = true → s.testBit j = true ∨ ∃ e ∈ l, Region.binds .any e = true ∧ (e.on = j ∨ ∃ k, acc[e.on]? = some k ∧ k.testBit j = true) := by
    intro l
    induction l with
    | nil => intro s hs; exact .inl hs
    | cons e l ih =>
      intro s hs
      simp only [List.foldl_cons] at hs
      rcases ih _ hs with h1 | ⟨e', he', h1⟩
      · cases hb : Region.binds .any e with
        | false => rw [hb] at h1; exact .inl h1
        | true =>
          rw [hb] at h1
          simp only [] at h1
          have h2 : (s ||| (1 <<< e.on ||| (match lget acc e.on with | some k => k | none => 0))).testBit j = true := h1
          rw [Nat.testBit_or, Nat.testBit_or, Bool.or_eq_true, Bool.or_eq_true] at h2
          rcases h2 with h2 | h2 | h2
          · exact .inl h2
          · refine .inr ⟨e, by simp, hb, .inl ?_⟩
            rw [Nat.testBit_shiftLeft] at h2
            simp only [Bool.and_eq_true, decide_eq_true_eq, ge_iff_le] at h2
            obtain ⟨h3, h4⟩ := h2
            have : j - e.on = 0 := by
              have h5 : (2 ^ 0).testBit (j - e.on) = true := h4
              rw [Nat.testBit_two_pow] at h5
              have := of_decide_eq_true h5
              omega
            omega
          · refine .inr ⟨e, by simp, hb, .inr ?_⟩
            rw [lget_eq] at h2
            split at h2
            · rename_i k hk; exact ⟨k, hk, h2⟩
            · simp at h2
      · exact .inr ⟨e', by simp [he'], h1⟩
  rcases key _ 0 h with h1 | ⟨e, he, h1⟩
  · simp at h1
  · exact ⟨e, by simpa using he, h1⟩

theorem masks_len : ∀ (l : List Oper) (acc : List Nat), (masks l acc).length = acc.length + l.length
  | [], acc => by simp [masks]
  | o :: l, acc => by simp [masks, masks_len l]; omega
theorem masks_get : ∀ (l : List Oper) (acc : List Nat) (i : Nat) (k : Nat), acc[i]? = some k → (masks l acc)[i]? = some k
  | [], acc, i, k, h => h
  | o :: l, acc, i, k, h => masks_get l _ i k (by rw [List.getElem?_append_left (List.getElem?_eq_some_iff.1 h).1]; exact h)
/-- Whatever holds with an operation and all that it waits for holds of all before it. -/
theorem masks_down {ops : List Oper} {D : Nat → Prop} (hD : ∀ i o, ops[i]? = some o → D i → ∀ e ∈ o.after, Region.binds .any e = true → D e.on) :
    ∀ (l : List Oper) (acc : List Nat), (∀ j, l[j]? = ops[acc.length + j]?) → (∀ i k, acc[i]? = some k → ∀ j, k.testBit j = true → D i → D j) → ∀ i k, (masks l acc)[i]? = some k → ∀ j, k.testBit j = true → D i → D j
  | [], acc, _, ha, i, k, h => ha i k h
  | o :: l, acc, hl, ha, i, k, h => by
    refine masks_down hD l (acc ++ [maskOf acc o]) (fun j => ?_) (fun i k hik j hj hDi => ?_) i k h
    · have := hl (j + 1)
      simp only [List.getElem?_cons_succ] at this
      rw [this]
      congr 1
      simp; omega
    · by_cases hlt : i < acc.length
      · rw [List.getElem?_append_left hlt] at hik
        exact ha i k hik j hj hDi
      · rw [List.getElem?_append_right (by omega)] at hik
        have hi : i = acc.length := by
          have := (List.getElem?_eq_some_iff.1 hik).1
          simp at this; omega
        subst hi
        simp at hik
        subst hik
        obtain ⟨e, he, hb, h1⟩ := maskOf_bit hj
        have ho : ops[acc.length]? = some o := by have := hl 0; simpa using this.symm
        have hDe := hD _ o ho hDi e he hb
        rcases h1 with rfl | ⟨k, hk, hkj⟩
        · exact hDe
        · exact ha _ k hk j hkj hDe
theorem bit_down {ops : List Oper} {D : Nat → Prop} (hD : ∀ i o, ops[i]? = some o → D i → ∀ e ∈ o.after, Region.binds .any e = true → D e.on) {i j : Nat} (h : bit (masks ops []) i j = true) (hi : D i) : D j := by
  unfold bit at h
  rw [lget_eq] at h
  split at h
  · rename_i k hk
    exact masks_down hD ops [] (by simp) (by simp) i k hk j h hi
  · cases h

/-! ### The look at a region -/
def looks (ops : List Oper) (o : Oper) : List Nat :=
  (o.op.operands.toList.filterMap fun | .tmp t => some t | _ => none) ++ (match o.guard with
    | some (g, _) => match lget ops g with
      | some og => og.dst.toList
      | none => []
    | none => [])
def memb : List Nat → Nat → Bool
  | [], _ => false
  | a :: l, t => match Nat.beq a t with
    | true => true
    | false => memb l t
theorem memb_iff : ∀ (l : List Nat) (t : Nat), memb l t = true ↔ t ∈ l
  | [], t => by simp [memb]
  | a :: l, t => by
    simp only [memb]
    split
    · rename_i h; rw [Nat.eq_of_beq_eq_true h]; simp
    · rename_i h
      have : t ≠ a := fun e => Nat.ne_of_beq_eq_false h e.symm
      rw [memb_iff l t]; simp [this]
/-- Two operations meet at a slot that one of them writes. -/
def clash (ops : List Oper) (x y : Oper) : Bool :=
  (match x.dst with
    | some d => memb (looks ops y) d || (match y.dst with
      | some d' => Nat.beq d d'
      | none => false)
    | none => false) ||
  (match y.dst with
    | some d => memb (looks ops x) d
    | none => false)
def edgesOk (i : Nat) : List Edge → Bool
  | [] => true
  | e :: l => (match Region.binds .any e with
    | true => Nat.blt e.on i
    | false => true) && edgesOk i l
/-- One operation against those before it. -/
def rowOk (ops : List Oper) (k : Nat) (o : Oper) (f : Bool) : List (Oper × Bool) → Nat → Bool
  | [], _ => true
  | (x, g) :: l, i => (match clash ops x o || ((f || g) && (!(pureKind x.op) && !(pureKind o.op))) with
    | true => Nat.testBit k i
    | false => true) && rowOk ops k o f l (Nat.succ i)
def allRows (ops : List Oper) (ms : List Nat) (all : List (Oper × Bool)) : List (Oper × Bool) → Nat → Bool
  | [], _ => true
  | (o, f) :: l, j => (match lget ms j with
    | some k => rowOk ops k o f (all.take j) 0
    | none => false) && (edgesOk j o.after.toList && allRows ops ms all l (Nat.succ j))
/-- Flags: an operation on memory that stands, before or behind, in a fixed order to all others on memory. -/
def flagOne (ms : List Nat) (k i : Nat) : List Oper → Nat → Bool
  | [], _ => true
  | x :: l, j => (match pureKind x.op with
    | true => true
    | false => match Nat.beq i j with
      | true => true
      | false => match Nat.blt j i with
        | true => Nat.testBit k j
        | false => bit ms j i) && flagOne ms k i l (Nat.succ j)
def flagsGo (ops : List Oper) (ms : List Nat) : List Oper → Nat → List (Oper × Bool)
  | [], _ => []
  | o :: l, i => (o, match pureKind o.op with
    | true => true
    | false => match lget ms i with
      | some k => flagOne ms k i ops 0
      | none => false) :: flagsGo ops ms l (Nat.succ i)
def flags (ops : List Oper) : List (Oper × Bool) := flagsGo ops (masks ops []) ops 0
def drawOk (ops : List Oper) : Bool := allRows ops (masks ops []) (flags ops) (flags ops) 0

theorem flagsGo_fst (ops : List Oper) (ms : List Nat) : ∀ (l : List Oper) (i : Nat), (flagsGo ops ms l i).map (·.1) = l
  | [], _ => rfl
  | o :: l, i => by simp [flagsGo, flagsGo_fst ops ms l]
theorem flags_fst (ops : List Oper) : (flags ops).map (·.1) = ops := flagsGo_fst _ _ _ _

theorem edgesOk_iff {i : Nat} : ∀ {l : List Edge}, edgesOk i l = true → ∀ e ∈ l, Region.binds .any e = true → e.on < i
  | [], _, e, he, _ => by cases he
  | x :: l, h, e, he, hb => by
    simp only [edgesOk, Bool.and_eq_true] at h
    rcases List.mem_cons.1 he with rfl | he
    · have := h.1; rw [hb] at this; simpa using this
    · exact edgesOk_iff h.2 e he hb
theorem rowOk_iff {ops : List Oper} {k : Nat} {o : Oper} {f : Bool} : ∀ {l : List (Oper × Bool)} {b : Nat}, rowOk ops k o f l b = true → ∀ i x g, l[i]? = some (x, g) →
    (clash ops x o || ((f || g) && (!(pureKind x.op) && !(pureKind o.op)))) = true → k.testBit (b + i) = true
  | [], _, _, i, x, g, hi, _ => by cases hi
  | (x', g') :: l, b, h, i, x, g, hi, hc => by
    simp only [rowOk, Bool.and_eq_true] at h
    cases i with
    | zero =>
      simp at hi
      obtain ⟨rfl, rfl⟩ := hi
      have := h.1
      rw [hc] at this
      exact this
    | succ i =>
      have := rowOk_iff h.2 i x g (by simpa using hi) hc
      rw [Nat.succ_add] at this
      exact this
theorem allRows_iff {ops : List Oper} {ms : List Nat} {all : List (Oper × Bool)} : ∀ {l : List (Oper × Bool)} {b : Nat}, allRows ops ms all l b = true → ∀ j o f, l[j]? = some (o, f) →
    (∃ k, ms[b + j]? = some k ∧ rowOk ops k o f (all.take (b + j)) 0 = true) ∧ edgesOk (b + j) o.after.toList = true
  | [], _, _, j, o, f, hj => by cases hj
  | (o', f') :: l, b, h, j, o, f, hj => by
    simp only [allRows, Bool.and_eq_true] at h
    cases j with
    | zero =>
      simp at hj
      obtain ⟨rfl, rfl⟩ := hj
      refine ⟨?_, h.2.1⟩
      have h1 := h.1
      rw [lget_eq] at h1
      split at h1
      · rename_i k hk; exact ⟨k, hk, h1⟩
      · cases h1
    | succ j =>
      have := allRows_iff h.2.2 j o f (by simpa using hj)
      rw [Nat.succ_add] at this
      exact this

/-- What the look tells. -/
structure DrawFacts (ops : List Oper) : Prop where
  edge : ∀ i o, ops[i]? = some o → ∀ e ∈ o.after, Region.binds .any e = true → e.on < i
  pair : ∀ i j x f o g, i < j → (flags ops)[i]? = some (x, f) → (flags ops)[j]? = some (o, g) → (clash ops x o || ((g || f) && (!(pureKind x.op) && !(pureKind o.op)))) = true → bit (masks ops []) j i = true
theorem drawOk_facts {ops : List Oper} (h : drawOk ops = true) : DrawFacts ops where
  edge := fun i o ho e he hb => by
    have hl : (flags ops)[i]?.map (·.1) = some o := by rw [← List.getElem?_map, flags_fst]; exact ho
    obtain ⟨⟨o', f⟩, h1, rfl⟩ := Option.map_eq_some_iff.1 hl
    have := (allRows_iff h i o' f h1).2
    rw [Nat.zero_add] at this
    exact edgesOk_iff this e (by simpa using he) hb
  pair := fun i j x f o g hij hi hj hc => by
    obtain ⟨⟨k, hk, hr⟩, _⟩ := allRows_iff h j o g hj
    rw [Nat.zero_add] at hk hr
    have := rowOk_iff hr i x f (by rw [List.getElem?_take, if_pos hij]; exact hi) hc
    rw [Nat.zero_add] at this
    simp [bit, hk, this]

/-! ### Loads that may be late: a load that stands ahead of a writer in the text, in no fixed order to it -/
def freeL (o : Oper) : Option Operand := match o.guard with
  | some _ => none
  | none => match o.op with
    | .load _ x => some x
    | _ => none
def isFree (o : Oper) : Bool := match freeL o with
  | some _ => true
  | none => false
def flagTwo (ms : List Nat) (k i : Nat) : List Oper → Nat → Bool
  | [], _ => true
  | x :: l, j => (match pureKind x.op with
    | true => true
    | false => match Nat.beq i j with
      | true => true
      | false => match Nat.blt j i with
        | true => Nat.testBit k j || isFree x
        | false => bit ms j i) && flagTwo ms k i l (Nat.succ j)
def lflagsGo (ops : List Oper) (ms : List Nat) : List Oper → Nat → List (Oper × Bool)
  | [], _ => []
  | o :: l, i => (o, match pureKind o.op with
    | true => true
    | false => match isFree o with
      | true => false
      | false => match lget ms i with
        | some k => flagTwo ms k i ops 0
        | none => false) :: lflagsGo ops ms l (Nat.succ i)
def lflags (ops : List Oper) : List (Oper × Bool) := lflagsGo ops (masks ops []) ops 0
theorem lflagsGo_fst (ops : List Oper) (ms : List Nat) : ∀ (l : List Oper) (i : Nat), (lflagsGo ops ms l i).map (·.1) = l
  | [], _ => rfl
  | o :: l, i => by simp [lflagsGo, lflagsGo_fst ops ms l]
theorem lflags_fst (ops : List Oper) : (lflags ops).map (·.1) = ops := lflagsGo_fst _ _ _ _
/-- One operation against those before it; a free load ahead of a writer counts where cut says so. -/
def rowTwo (ops : List Oper) (k : Nat) (o : Oper) (f cut : Bool) : List (Oper × Bool) → Nat → Bool
  | [], _ => true
  | (x, g) :: l, i => (match clash ops x o || (((f && !(cut && isFree x)) || g) && (!(pureKind x.op) && !(pureKind o.op))) with
    | true => Nat.testBit k i
    | false => true) && rowTwo ops k o f cut l (Nat.succ i)
def allTwo (ops : List Oper) (ms : List Nat) (cut : Nat) (all : List (Oper × Bool)) : List (Oper × Bool) → Nat → Bool
  | [], _ => true
  | (o, f) :: l, j => (match lget ms j with
    | some k => rowTwo ops k o f (Nat.beq j cut) (all.take j) 0
    | none => false) && (edgesOk j o.after.toList && allTwo ops ms cut all l (Nat.succ j))
/-- The addresses of the free loads ahead of a writer, in no order to it. -/
def lateRow (k : Nat) : List Oper → Nat → List Operand
  | [], _ => []
  | x :: l, i => match Nat.testBit k i with
    | true => lateRow k l (Nat.succ i)
    | false => match freeL x with
      | some a => a :: lateRow k l (Nat.succ i)
      | none => lateRow k l (Nat.succ i)
def lateAddrs (ops : List Oper) (j : Nat) : List Operand := match lget (masks ops []) j with
  | some k => lateRow k (ops.take j) 0
  | none => []
def cutsGo (ops : List Oper) : List (Oper × Bool) → Nat → List Nat
  | [], _ => []
  | (o, f) :: l, j => match f && !(pureKind o.op) with
    | true => match lateAddrs ops j with
      | [] => cutsGo ops l (Nat.succ j)
      | _ :: _ => j :: cutsGo ops l (Nat.succ j)
    | false => cutsGo ops l (Nat.succ j)
/-- The address of a free load is not turned behind it. -/
def noDst2 (t : Nat) : List Oper → Bool
  | [] => true
  | o :: l => match (match o.dst with
      | some d => Nat.beq d t
      | none => false) with
    | true => false
    | false => noDst2 t l
def stab2 : List Oper → Bool
  | [] => true
  | o :: l => match (match freeL o with
      | some (.tmp t) => noDst2 t (o :: l)
      | _ => true) with
    | true => stab2 l
    | false => false
/-- The one writer that free loads stand ahead of, in no order to it. -/
def lateCut (ops : List Oper) : Option Nat := match cutsGo ops (lflags ops) 0 with
  | [j] => match allTwo ops (masks ops []) j (lflags ops) (lflags ops) 0 && stab2 ops with
    | true => some j
    | false => none
  | _ => none

theorem rowTwo_iff {ops : List Oper} {k : Nat} {o : Oper} {f cut : Bool} : ∀ {l : List (Oper × Bool)} {b : Nat}, rowTwo ops k o f cut l b = true → ∀ i x g, l[i]? = some (x, g) →
    (clash ops x o || (((f && !(cut && isFree x)) || g) && (!(pureKind x.op) && !(pureKind o.op)))) = true → k.testBit (b + i) = true
  | [], _, _, i, x, g, hi, _ => by cases hi
  | (x', g') :: l, b, h, i, x, g, hi, hc => by
    simp only [rowTwo, Bool.and_eq_true] at h
    cases i with
    | zero =>
      simp at hi
      obtain ⟨rfl, rfl⟩ := hi
      have := h.1
      rw [hc] at this
      exact this
    | succ i =>
      have := rowTwo_iff h.2 i x g (by simpa using hi) hc
      rw [Nat.succ_add] at this
      exact this
theorem allTwo_iff {ops : List Oper} {ms : List Nat} {cut : Nat} {all : List (Oper × Bool)} : ∀ {l : List (Oper × Bool)} {b : Nat}, allTwo ops ms cut all l b = true → ∀ j o f, l[j]? = some (o, f) →
    (∃ k, ms[b + j]? = some k ∧ rowTwo ops k o f (Nat.beq (b + j) cut) (all.take (b + j)) 0 = true) ∧ edgesOk (b + j) o.after.toList = true
  | [], _, _, j, o, f, hj => by cases hj
  | (o', f') :: l, b, h, j, o, f, hj => by
    simp only [allTwo, Bool.and_eq_true] at h
    cases j with
    | zero =>
      simp at hj
      obtain ⟨rfl, rfl⟩ := hj
      refine ⟨?_, h.2.1⟩
      have h1 := h.1
      rw [lget_eq] at h1
      split at h1
      · rename_i k hk; exact ⟨k, hk, h1⟩
      · cases h1
    | succ j =>
      have := allTwo_iff h.2.2 j o f (by simpa using hj)
      rw [Nat.succ_add] at this
      exact this
theorem lateRow_mem {k : Nat} {x : Oper} {a : Operand} (hf : freeL x = some a) : ∀ {l : List Oper} {b i : Nat}, l[i]? = some x → Nat.testBit k (b + i) = false → a ∈ lateRow k l b
  | [], b, i, h, _ => by cases h
  | y :: l, b, 0, h, hk => by
    simp at h
    subst h
    rw [Nat.add_zero] at hk
    simp only [lateRow, hk, hf]
    exact List.mem_cons_self ..
  | y :: l, b, i + 1, h, hk => by
    have h1 := lateRow_mem (k := k) hf (l := l) (b := Nat.succ b) (i := i) (by simpa using h) (by rw [Nat.succ_add]; exact hk)
    simp only [lateRow]
    split
    · exact h1
    · split
      · exact List.mem_cons_of_mem _ h1
      · exact h1
theorem noDst2_get : ∀ {l : List Oper} {t j : Nat} {x : Oper}, noDst2 t l = true → l[j]? = some x → x.dst ≠ some t
  | [], t, j, x, _, hx => by cases hx
  | y :: l, t, j, x, h, hx => by
    simp only [noDst2] at h
    split at h
    · cases h
    · rename_i hb
      cases j with
      | zero =>
        simp at hx
        subst hx
        intro e
        rw [e] at hb
        simp at hb
      | succ j => exact noDst2_get h (by simpa using hx)
theorem stab2_get : ∀ {l : List Oper} {i j : Nat} {o x : Oper} {t : Nat}, stab2 l = true → l[i]? = some o → freeL o = some (.tmp t) → i ≤ j → l[j]? = some x → x.dst ≠ some t
  | [], i, j, o, x, t, _, ho, _, _, _ => by cases ho
  | y :: l, i, j, o, x, t, h, ho, hf, hij, hx => by
    simp only [stab2] at h
    split at h
    · rename_i hy
      cases i with
      | zero =>
        simp at ho
        subst ho
        rw [hf] at hy
        exact noDst2_get hy hx
      | succ i =>
        cases j with
        | zero => omega
        | succ j => exact stab2_get (i := i) (j := j) h (by simpa using ho) hf (by omega) (by simpa using hx)
    · cases h
/-! ### Blocks that are the same -/
def aEq (a b : Option Addr) : Bool := match a with
  | none => match b with
    | none => true
    | some _ => false
  | some ⟨b1, o1, s1⟩ => match b with
    | none => false
    | some ⟨b2, o2, s2⟩ => Nat.beq b1 b2 && (Nat.beq o1 o2 && (match s1 with
      | none => match s2 with
        | none => true
        | some _ => false
      | some x => match s2 with
        | none => false
        | some y => Nat.beq x y))
def bEqB (a b : Bool) : Bool := match a with
  | true => b
  | false => !b
theorem bEqB_ok {a b : Bool} (h : bEqB a b = true) : a = b := by
  cases a <;> cases b <;> simp_all [bEqB]
def nEq (a b : Option Nat) : Bool := match a with
  | none => match b with
    | none => true
    | some _ => false
  | some x => match b with
    | none => false
    | some y => Nat.beq x y
theorem nEq_ok {a b : Option Nat} (h : nEq a b = true) : a = b := by
  cases a <;> cases b <;> simp_all [nEq]
/-- Pointers captured. -/
def pEq (v w : Value) : Bool := match v with
  | .pointer p => match w with
    | .pointer p' => aEq p p'
    | _ => false
  | _ => false
def pEqL : List Value → List Value → Bool
  | [], [] => true
  | v :: l, w :: l' => pEq v w && pEqL l l'
  | _, _ => false
def veq (v w : Value) : Bool := match v with
  | .int k a => match w with
    | .int k' b => decide (k = k') && ieq a b
    | _ => false
  | .bool a => match w with
    | .bool b => bEqB a b
    | _ => false
  | .slice p n c => match w with
    | .slice p' n' c' => aEq p p' && (Nat.beq n n' && Nat.beq c c')
    | _ => false
  | .pointer p => match w with
    | .pointer p' => aEq p p'
    | _ => false
  | .map p => match w with
    | .map p' => nEq p p'
    | _ => false
  | .func f a b => match w with
    | .func f' a' b' => match f with
      | .func g => match f' with
        | .func g' => match a.toList with
          | [] => match a'.toList with
            | [] => Nat.beq g g' && pEqL b.toList b'.toList
            | _ => false
          | _ => false
        | _ => false
      | _ => false
    | _ => false
  | _ => false
theorem aEq_ok {a b : Option Addr} (h : aEq a b = true) : a = b := by
  unfold aEq at h
  split at h
  · split at h
    · rfl
    · cases h
  · split at h
    · cases h
    · simp only [Bool.and_eq_true, Nat.beq_eq] at h
      obtain ⟨rfl, rfl, h⟩ := h
      split at h
      · split at h
        · rfl
        · cases h
      · split at h
        · cases h
        · rw [Nat.eq_of_beq_eq_true h]
theorem aEq_refl (a : Option Addr) : aEq a a = true := by
  unfold aEq
  split
  · rfl
  · rename_i b o s
    cases s <;> simp
theorem pEqL_ok : ∀ {l l' : List Value}, pEqL l l' = true → l = l'
  | [], [], _ => rfl
  | v :: l, w :: l', h => by
    simp only [pEqL, Bool.and_eq_true] at h
    have h1 := h.1
    unfold pEq at h1
    rw [pEqL_ok h.2]
    split at h1
    · split at h1
      · rw [aEq_ok h1]
      · cases h1
    · cases h1
  | [], _ :: _, h => by cases h
  | _ :: _, [], h => by cases h
theorem ieq_ok {a b : Int} (h : ieq a b = true) : a = b := by
  unfold ieq at h
  split at h
  · rw [Nat.eq_of_beq_eq_true h]
  · rw [Nat.eq_of_beq_eq_true h]
  · cases h
theorem ieq_refl (a : Int) : ieq a a = true := by cases a <;> simp [ieq]
theorem veq_ok {v w : Value} (h : veq v w = true) : v = w := by
  unfold veq at h
  split at h
  · split at h
    · rw [Bool.and_eq_true] at h
      rw [of_decide_eq_true h.1, ieq_ok h.2]
    · cases h
  · split at h
    · rw [bEqB_ok h]
    · cases h
  · split at h
    · simp only [Bool.and_eq_true, Nat.beq_eq] at h
      obtain ⟨h1, rfl, rfl⟩ := h
      rw [aEq_ok h1]
    · cases h
  · split at h
    · rw [aEq_ok h]
    · cases h
  · split at h
    · rw [nEq_ok h]
    · cases h
  · split at h
    · rename_i f a b _ f' a' b'
      split at h
      · split at h
        · split at h
          · rename_i ha
            split at h
            · rename_i ha'
              rw [Bool.and_eq_true, Nat.beq_eq] at h
              obtain ⟨rfl, h⟩ := h
              have e1 : a = a' := by rw [← Array.toList_inj, ha, ha']
              have e2 : b = b' := by rw [← Array.toList_inj]; exact pEqL_ok h
              rw [e1, e2]
            · cases h
          · cases h
        · cases h
      · cases h
    · cases h
  · cases h
def veqL : List Value → List Value → Bool
  | [], [] => true
  | v :: l, w :: l' => veq v w && veqL l l'
  | _, _ => false
theorem veqL_ok : ∀ {l l' : List Value}, veqL l l' = true → l = l'
  | [], [], _ => rfl
  | v :: l, w :: l', h => by
    simp only [veqL, Bool.and_eq_true] at h
    rw [veq_ok h.1, veqL_ok h.2]
  | [], _ :: _, h => by cases h
  | _ :: _, [], h => by cases h
def bEq (a b : Option Blk) : Bool := match a with
  | none => false
  | some k => match b with
    | none => false
    | some k' => match k.ents with
      | some _ => false
      | none => match k'.ents with
        | some _ => false
        | none => Nat.beq k.esz k'.esz && veqL k.cells k'.cells
theorem bEq_ok {a b : Option Blk} (h : bEq a b = true) : a = b := by
  cases a with
  | none => cases h
  | some k => cases b with
    | none => cases h
    | some k' =>
      obtain ⟨s, c, e⟩ := k
      obtain ⟨s', c', e'⟩ := k'
      cases e with
      | some _ => cases h
      | none => cases e' with
        | some _ => cases h
        | none =>
          have h1 : (Nat.beq s s' && veqL c c') = true := h
          simp only [Bool.and_eq_true, Nat.beq_eq] at h1
          rw [h1.1, veqL_ok h1.2]
def smB (m m' : Mem) (v : Value) : Bool := match v with
  | .pointer (some ⟨b, _, none⟩) => bEq (m.rd b) (m'.rd b)
  | _ => false
def smAll (m m' : Mem) (ev : Operand → Option Value) : List Operand → Bool
  | [] => true
  | a :: l => match ev a with
    | some v => match smB m m' v with
      | true => smAll m m' ev l
      | false => false
    | none => false
theorem smAll_mem {m m' : Mem} {ev : Operand → Option Value} : ∀ {l : List Operand} {a : Operand}, smAll m m' ev l = true → a ∈ l → ∃ b o, ev a = some (.pointer (some ⟨b, o, none⟩)) ∧ m.rd b = m'.rd b
  | x :: l, a, h, ha => by
    simp only [smAll] at h
    split at h
    · rename_i v hv
      split at h
      · rename_i hs
        rcases List.mem_cons.1 ha with rfl | ha
        · unfold smB at hs
          split at hs
          · rename_i b o
            exact ⟨b, o, hv, bEq_ok hs⟩
          · cases hs
        · exact smAll_mem h ha
      · cases h
    · cases h
end Go.Vit

/- All orders of a region. -/
namespace Go.Vit
open Go

section
variable {P : Program} {G R U L : Nat} {B : Base} {call : CallT}

def putA (K : List Nat) (fr : Fr) (dst : Option Nat) (v : Value) : Fr := match dst with
  | some d => fset K fr d v
  | none => fr

/-- One operation in the text's order. -/
def Stp (P : Program) (G N : Nat) (K : List Nat) (call : CallT) (ops : List Oper) (L : Nat) (o : Oper) (eff : Bool) (s s' : Fr × Mem) : Prop :=
  (∀ d, o.dst = some d → d < N) ∧
  ((wantA K ops s.1 o = some false ∧ s'.2 = s.2 ∧ s'.1 = putA K s.1 o.dst Go.undef) ∨
   (∃ v, wantA K ops s.1 o = some true ∧ exA P call (match eff with | true => L | false => s.2.next) (aeval G (fget K s.1)) s.2 o.op = some (v, s'.2) ∧ s'.1 = putA K s.1 o.dst v))

theorem evOps_trace {N : Nat} {K : List Nat} {ops : List Oper} : ∀ (l : List (Oper × Bool)) (fr : Fr) (m : Mem) (fr' : Fr) (m' : Mem), evOps P G N K call ops L l fr m = some (fr', m') →
    ∃ tr : Nat → Fr × Mem, tr 0 = (fr, m) ∧ tr l.length = (fr', m') ∧ ∀ i o f, l[i]? = some (o, f) → Stp P G N K call ops L o f (tr i) (tr (i + 1))
  | [], fr, m, fr', m', h => by cases h; exact ⟨fun _ => (fr, m), rfl, rfl, fun i o f hi => by cases hi⟩
  | (o, f) :: l, fr, m, fr', m', h => by
    simp only [evOps] at h
    have fin : ∀ (v : Value) (m1 : Mem),
        (match o.dst with | none => evOps P G N K call ops L l fr m1 | some d => fsetK N K fr d v fun fr => evOps P G N K call ops L l fr m1) = some (fr', m') →
        ((∀ d, o.dst = some d → d < N) → Stp P G N K call ops L o f (fr, m) (putA K fr o.dst v, m1)) →
        ∃ tr : Nat → Fr × Mem, tr 0 = (fr, m) ∧ tr (l.length + 1) = (fr', m') ∧ ∀ i o' f', ((o, f) :: l)[i]? = some (o', f') → Stp P G N K call ops L o' f' (tr i) (tr (i + 1)) := by
      intro v m1 hh hst
      have : (∀ d, o.dst = some d → d < N) ∧ evOps P G N K call ops L l (putA K fr o.dst v) m1 = some (fr', m') := by
        cases hd : o.dst with
        | none => rw [hd] at hh; exact ⟨(fun d h => by cases h), hh⟩
        | some d => rw [hd] at hh; obtain ⟨h1, h2⟩ := fsetK_eq hh; exact ⟨(fun d' h => by cases h; exact h1), h2⟩
      obtain ⟨hdN, hh⟩ := this
      obtain ⟨tr, h0, h1, h2⟩ := evOps_trace l _ _ _ _ hh
      refine ⟨fun i => match i with | 0 => (fr, m) | i + 1 => tr i, rfl, h1, fun i o' f' hi => ?_⟩
      cases i with
      | zero =>
        simp at hi
        obtain ⟨rfl, rfl⟩ := hi
        simp only [h0]
        exact hst hdN
      | succ i => exact h2 i o' f' (by simpa using hi)
    split at h
    · cases h
    · rename_i hw
      exact fin Go.undef m h fun hdN => ⟨hdN, .inl ⟨hw, rfl, rfl⟩⟩
    · rename_i hw
      split at h
      · cases h
      · rename_i v m1 hx
        exact fin v m1 h fun hdN => ⟨hdN, .inr ⟨v, hw, hx, rfl⟩⟩

/-- More memory, no image turned. -/
theorem Rel.fwd {ι : Inj} {m m2 : Mem} {w : World} (h : Rel G R B U ι m w) (hn : m.next ≤ m2.next) (hk : m2.ok) (hU : m2.next ≤ U) (hrd : ∀ b, b < m.next → m2.rd b = m.rd b) : Rel G R B U ι m2 w := by
  have low : ∀ b e k, ι b = some e → m2.rd b = some k → b < m.next ∧ m.rd b = some k := fun b e k h1 h2 => by
    have h3 := Mem.rd_lt h2
    rcases h.dom _ _ h1 with h4 | h4
    · exact ⟨h4, by rw [← hrd b h4]; exact h2⟩
    · omega
  exact ⟨hk, by have := h.rlt; omega, h.old, h.gl, fun b e he => (h.dom b e he).imp (fun h1 => by omega) id, h.size, h.ge,
    fun b e k h1 h2 => h.cells b e k h1 (low b e k h1 h2).2, fun b e k h1 h2 h3 => h.own b e k h1 h2 (low b e k h2 h3).2,
    fun b b' e e' k k' h1 h2 h3 h4 h5 h6 => h.disj b b' e e' k k' h1 h2 h3 h4 (low b e k h3 h5).2 (low b' e' k' h4 h6).2,
    fun b e k es h1 h2 => h.maps b e k es h1 (low b e k h1 h2).2⟩

/-- Back to an earlier memory. -/
theorem Rel.back {ι : Inj} {m m2 : Mem} {w : World} {U' : Nat} (h : Rel G R B U ι m2 w) (hR : R ≤ m.next) (hk : m.ok) (hn : m.next ≤ m2.next) (hrd : ∀ b, b < m.next → m2.rd b = m.rd b) (hd : ∀ b e, ι b = some e → b < m.next ∨ U' ≤ b) : Rel G R B U' ι m w := by
  have low : ∀ b k, m.rd b = some k → m2.rd b = some k := fun b k h2 => by rw [hrd b (Mem.rd_lt h2)]; exact h2
  exact ⟨hk, hR, h.old, h.gl, hd, h.size, h.ge,
    fun b e k h1 h2 => h.cells b e k h1 (low b k h2), fun b e k h1 h2 h3 => h.own b e k h1 h2 (low b k h3),
    fun b b' e e' k k' h1 h2 h3 h4 h5 h6 => h.disj b b' e e' k k' h1 h2 h3 h4 (low b k h5) (low b' k' h6),
    fun b e k es h1 h2 => h.maps b e k es h1 (low b k h2)⟩

/-- A quiet step of an earlier memory, seen from a later one. -/
theorem Rel.merge {ι κ : Inj} {m m1 m2 : Mem} {w w' : World} {U' : Nat} (h : Rel G R B U ι m2 w) (h1 : Rel G R B U' κ m1 w') (hs : Step m.next ι m w κ m1 w') (hn : m1.next ≤ m2.next) (hrd : ∀ b, b < m1.next → m2.rd b = m1.rd b) (hRm : R ≤ m.next) (hm2U : m2.next ≤ U) :
    Rel G R B U κ m2 w' := by
  have hblk : ∀ k, k < w.heap.size → w'.heap[k]? = w.heap[k]? := fun k hk => hs.block k hk fun b e h1 h2 => by omega
  have hcell : ∀ k o, k < w.heap.size → w'.cell? ⟨k, o, none⟩ = w.cell? ⟨k, o, none⟩ := fun k o hk => by simp [World.cell?, hblk k hk]
  -- an id is old, or new
  have part : ∀ b e, κ b = some e → ι b = some e ∨ (ι b = none ∧ m.next ≤ b ∧ b < m1.next ∧ w.heap.size ≤ e.cb) := fun b e he => by
    cases hi : ι b with
    | some e' => have := hs.le _ _ hi; rw [he] at this; cases this; exact .inl rfl
    | none =>
      obtain ⟨g1, g2, g3⟩ := hs.fresh b e he hi
      refine .inr ⟨rfl, g1, g2, ?_⟩
      rcases g3 with g3 | ⟨b0, _, g4, g5, _⟩
      · exact g3
      · omega
  refine ⟨h.ok, h.rlt, ⟨Nat.le_trans h.old.size hs.size, fun k hk => (hblk k (Nat.lt_of_lt_of_le hk h.old.size)).trans (h.old.block k hk)⟩, fun g hg => hs.le _ _ (h.gl g hg), fun b e he => ?_, fun b e he => ?_, fun b e hR he => ?_, fun b e k he hk hen i v hv => ?_, fun b e k hR he hk hen => ?_, fun b b' e e' k k' hR hne he he' hk hk' => ?_, fun b e k es he hk hes => ?_⟩
  · rcases part b e he with h2 | ⟨_, _, h2, _⟩
    · exact h.dom b e h2
    · exact .inl (by omega)
  · exact h1.size b e he
  · exact h1.ge b e hR he
  · rcases part b e he with h2 | ⟨_, _, h2, _⟩
    · obtain ⟨u, g1, g2⟩ := h.cells b e k h2 hk hen i v hv
      exact ⟨u, g1.mono hs.le, by rw [hcell _ _ (h.size b e h2)]; exact g2⟩
    · exact h1.cells b e k he (by rw [← hrd b h2]; exact hk) hen i v hv
  · rcases part b e he with h2 | ⟨_, _, h2, _⟩
    · rw [hblk _ (h.size b e h2)]; exact h.own b e k hR h2 hk hen
    · exact h1.own b e k hR he (by rw [← hrd b h2]; exact hk) hen
  · rcases part b e he with h2 | ⟨_, h2l, h2, h2c⟩
    · rcases part b' e' he' with h3 | ⟨_, h3l, h3, h3c⟩
      · exact h.disj b b' e e' k k' hR hne h2 h3 hk hk'
      · have := h.size b e h2; omega
    · rcases part b' e' he' with h3 | ⟨_, h3l, h3, h3c⟩
      · have := h.size b' e' h3; omega
      · exact h1.disj b b' e e' k k' hR hne he he' (by rw [← hrd b h2]; exact hk) (by rw [← hrd b' h3]; exact hk')
  · rcases part b e he with h2 | ⟨_, _, h2, _⟩
    · rw [hblk _ (h.size b e h2)]; exact (h.maps b e k es h2 hk hes).mono hs.le
    · exact h1.maps b e k es he (by rw [← hrd b h2]; exact hk) hes

theorem Step.fwd {ι κ : Inj} {m m1 m2 : Mem} {w w' : World} (h : Step L ι m w κ m1 w') (hn : m1.next ≤ m2.next) (hf : ∀ b e, ι b = some e → b < m.next ∨ m2.next ≤ b) (hk : ∀ b, b < L → b < m1.next → m2.rd b = m1.rd b) : Step L ι m w κ m2 w' :=
  ⟨h.le, hf, fun b e h1 h2 => ⟨(h.fresh b e h1 h2).1, by have := (h.fresh b e h1 h2).2.1; omega, (h.fresh b e h1 h2).2.2⟩, Nat.le_trans h.next hn,
    fun b h1 h2 => (hk b h1 (by have := h.next; omega)).trans (h.kept b h1 h2), h.os, h.tape, h.output, h.size, h.block⟩
end
end Go.Vit

/- All orders of a region: the proof. -/
namespace Go.Vit
open Go

theorem aeval_ok1 {G : Nat} {ι : Inj} {env : Nat → Option Value} {a : Act} (hg : ∀ g, g < G → ι g = some ⟨g, 0, 0⟩) {x : Operand} (hf : ∀ t, x = .tmp t → ∀ v, env t = some v → VR ι v (a.tmps.getD t Go.undef)) {v : Value} (h : aeval G env x = some v) : VR ι v (a.eval x) := by
  cases x with
  | tmp t => exact hf t rfl v h
  | const c =>
    simp only [aeval] at h
    split at h
    · rename_i hp; cases h; exact VR.plain ι hp
    · cases h
  | global g =>
    simp only [aeval] at h
    split at h
    · rename_i hp
      cases h
      have := VR.ptr (ι := ι) g 0 ⟨g, 0, 0⟩ (hg g (by simpa using hp))
      exact this
    · cases h
  | func f => cases h; exact .func f _ _ rfl (by simp)

section
variable {P : Program} {G R U L : Nat} {B : Base} {call : CallT} {ro : Option Nat}

theorem exA_congr {ev ev' : Operand → Option Value} {m : Mem} {op : Op} (h : ∀ x ∈ op.operands, ev x = ev' x) : exA P call L ev m op = exA P call L ev' m op := by
  unfold exA
  split
  · rename_i f args hcal
    obtain ⟨c, rfl, hcc, hargs⟩ := acallee_some hcal
    rw [h f (by simp [Op.operands, Call.operands, hcc])]
    have : evL ev args = evL ev' args := evL_congr _ fun x hx => h x (by rw [← hargs] at hx; simp [Op.operands, Call.operands, Array.mem_toList_iff.1 hx])
    rw [this]
  · unfold exI
    split
    · rename_i c _
      split
      · rename_i r name hc
        rw [h r (by simp [Op.operands, Call.operands, hc])]
        have : evL ev c.args.toList = evL ev' c.args.toList := evL_congr _ fun x hx => h x (by simp [Op.operands, Call.operands, Array.mem_toList_iff.1 hx])
        rw [this]
      · exact aop_congr h
    · exact aop_congr h

theorem load_at {ev : Operand → Option Value} {m m1 : Mem} {t : TypeId} {x : Operand} {v : Value} (h : exA P call L ev m (.load t x) = some (v, m1)) :
    m1 = m ∧ ∃ b o, ev x = some (.pointer (some ⟨b, o, none⟩)) ∧ b < m.next ∧ ∀ (L' : Nat) (M : Mem), M.rd b = m.rd b → exA P call L' ev M (.load t x) = some (v, M) := by
  simp only [exA, acallee, exI, aop] at h ⊢
  split at h
  · rename_i vx hvx
    split at h
    · rename_i v1 hv1
      cases h
      have hp : ∃ b o, vx = .pointer (some ⟨b, o, none⟩) := by
        unfold aload at hv1
        split at hv1
        · exact ⟨_, _, rfl⟩
        · cases hv1
      obtain ⟨b, o, rfl⟩ := hp
      refine ⟨rfl, b, o, hvx, ?_, fun L' M hM => ?_⟩
      · cases hrd : m.rd b with
        | some kb => exact Mem.rd_lt hrd
        | none =>
          simp only [aload, rdc, hrd] at hv1
          split at hv1
          · cases hv1
          · split at hv1
            · cases hv1
            · cases hv1
          · cases hv1
      · have : aload P M t (.pointer (some ⟨b, o, none⟩)) = some v := by
          rw [← hv1]; simp only [aload, rdc, hM]
        simp only [hvx, this]
    · cases h
  · cases h

/-- A block of the text's memory that nothing is known of yet gets its object late. -/
theorem Rel.late {ι : Inj} {m : Mem} {w : World} (h : Rel G R B U ι m w) {b esz : Nat} {cells us : List Value} (t : TypeId) (hb : b < m.next) (hR : R ≤ b) (hnone : ι b = none) (hrd : m.rd b = some ⟨esz, cells, none⟩) (hvl : VL ι cells us) :
    Rel G R B U (ι.upd b ⟨w.heap.size, 0, 0⟩) m (w.alloc (.cells us.toArray t)) := by
  have hle : ι.le (ι.upd b ⟨w.heap.size, 0, 0⟩) := Inj.le_upd hnone _
  have hsz : (w.alloc (.cells us.toArray t)).heap.size = w.heap.size + 1 := by simp
  have split : ∀ d e, ι.upd b ⟨w.heap.size, 0, 0⟩ d = some e → (d = b ∧ e = ⟨w.heap.size, 0, 0⟩) ∨ (d ≠ b ∧ ι d = some e) := fun d e he => by
    by_cases hd : d = b
    · subst hd; rw [Inj.upd_same] at he; cases he; exact .inl ⟨rfl, rfl⟩
    · rw [Inj.upd_ne _ _ hd] at he; exact .inr ⟨hd, he⟩
  have hblk : ∀ d e, ι d = some e → (w.alloc (.cells us.toArray t)).heap[e.cb]? = w.heap[e.cb]? := fun d e he => heapAllocOld w _ (h.size d e he)
  have hcell : ∀ d e i, ι d = some e → (w.alloc (.cells us.toArray t)).cell? ⟨e.cb, i, none⟩ = w.cell? ⟨e.cb, i, none⟩ := fun d e i he => by simp [World.cell?, hblk d e he]
  have hnew := heapAllocNew w (.cells us.toArray t)
  refine ⟨h.ok, h.rlt, ⟨by rw [hsz]; exact Nat.le_succ_of_le h.old.size, fun k hk => (heapAllocOld w _ (Nat.lt_of_lt_of_le hk h.old.size)).trans (h.old.block k hk)⟩, ?_, ?_, ?_, ?_, ?_, ?_, ?_, ?_⟩
  · intro g hg
    exact hle _ _ (h.gl g hg)
  · intro d e he
    rcases split d e he with ⟨rfl, _⟩ | ⟨_, h1⟩
    · exact .inl hb
    · exact h.dom _ _ h1
  · intro d e he
    rw [hsz]
    rcases split d e he with ⟨_, rfl⟩ | ⟨_, h1⟩
    · exact Nat.lt_succ_self _
    · exact Nat.lt_succ_of_lt (h.size _ _ h1)
  · intro d e hRd he
    rcases split d e he with ⟨_, rfl⟩ | ⟨_, h1⟩
    · exact h.old.size
    · exact h.ge _ _ hRd h1
  · intro d e k he hk hn i v hv
    rcases split d e he with ⟨rfl, rfl⟩ | ⟨hne, h1⟩
    · rw [hrd] at hk
      cases hk
      obtain ⟨u, hu, hvr⟩ := hvl.get hv
      refine ⟨u, hvr.mono hle, ?_⟩
      simp only [World.cell?, hnew, Nat.zero_add, List.getElem?_toArray]
      exact hu
    · obtain ⟨u, hvr, hu⟩ := h.cells d e k h1 hk hn i v hv
      exact ⟨u, hvr.mono hle, by rw [hcell d e _ h1]; exact hu⟩
  · intro d e k hRd he hk hn
    rcases split d e he with ⟨rfl, rfl⟩ | ⟨hne, h1⟩
    · rw [hrd] at hk
      cases hk
      refine ⟨_, t, hnew, ?_⟩
      have := hvl.1
      simp
      omega
    · rw [hblk d e h1]
      exact h.own d e k hRd h1 hk hn
  · intro d d' e e' k k' hRd hne he he' hk hk'
    rcases split d e he with ⟨rfl, rfl⟩ | ⟨hlt, h1⟩
    · rcases split d' e' he' with ⟨rfl, rfl⟩ | ⟨hlt', h1'⟩
      · exact absurd rfl hne
      · exact Nat.ne_of_gt (h.size _ _ h1')
    · rcases split d' e' he' with ⟨rfl, rfl⟩ | ⟨hlt', h1'⟩
      · exact Nat.ne_of_lt (h.size _ _ h1)
      · exact h.disj d d' e e' k k' hRd hne h1 h1' hk hk'
  · intro d e k es he hk hes
    rcases split d e he with ⟨rfl, rfl⟩ | ⟨hlt, h1⟩
    · rw [hrd] at hk
      cases hk
      cases hes
    · rw [hblk d e h1]
      exact (h.maps d e k es h1 hk hes).mono hle
/-- A slice is built late: in the text's memory it lies already. -/
theorem abuildSlice_late {ι : Inj} {w : World} {M m m1 : Mem} (h : Rel G R B U ι M w) (hRb : R ≤ m.next) {ev : Operand → Option Value} {ρ : Operand → Value} (hev : ∀ x v, ev x = some v → VR ι v (ρ x)) {t : TypeId} {len : Nat} {parts : Array (Nat × Operand)} {v : Value}
    (ha : abuildSlice P ev m t len parts.toList = some (v, m1)) (hb : m.next < M.next) (hib : ι m.next = none) (hk : M.rd m.next = m1.rd m.next) {o : Oper} (ho : o.op = .buildSlice t len parts) :
    ∃ (u : Value) (te : TypeId) (us : List Value), (execOp ρ o).run P w = .ok (.value u) (w.alloc (.cells us.toArray te)) ∧ VR (ι.upd m.next ⟨w.heap.size, 0, 0⟩) v u ∧ Rel G R B U (ι.upd m.next ⟨w.heap.size, 0, 0⟩) M (w.alloc (.cells us.toArray te)) := by
  unfold abuildSlice at ha
  split at ha
  · rename_i elem hu
    split at ha
    · rename_i zs hzs
      obtain ⟨z, hz1, hz2, hz3⟩ := azero_ok (ι := ι) hzs w
      split at ha
      · rename_i s hs
        split at ha
        · rename_i hcond
          simp only [Bool.and_eq_true, Nat.beq_eq, Nat.ble_eq] at hcond
          split at ha
          · rename_i ps hps
            obtain ⟨hl1, hl2⟩ := evP_ok hev _ _ hps
            split at ha
            · rename_i cs hcs
              have hzsz : z.cells.size = s := by rw [← hcond.1, hz3.1]; simp
              obtain ⟨r', hr', hvr⟩ := lay_ok ps _ _ ((Array.range (len * z.cells.size)).map (fun i => z.cells[i % z.cells.size]!)) cs hcs (azrow_VL hz3 len) hl1 hl2
              rw [hzsz] at hr'
              unfold anew at ha
              split at ha
              · rename_i m2 hm
                simp only [natK_eq, Option.some.injEq, Prod.mk.injEq] at ha
                obtain ⟨rfl, rfl⟩ := ha
                rw [Mem.rd_new_same hm] at hk
                refine ⟨.slice (some ⟨w.heap.size, 0, none⟩) len len, elem, r'.toList, ?_, ?_, h.late elem hb hRb hib hk hvr⟩
                · have hbig : ¬ len * s > 16777216 := Nat.not_lt.2 hcond.2
                  have hr2 : Instr.fill (fun i => some (i * s, s)) ((Array.range (len * s)).map (fun i => z.cells[i % s]!)) (List.map (fun x => (x.fst, ρ x.snd)) parts.toList) = some r' := hr'
                  by_cases h0 : len * s = 0
                  · rw [h0] at hr2
                    have hr3 : Instr.fill (fun i => some (i * s, s)) #[] (List.map (fun x => (x.fst, ρ x.snd)) parts.toList) = some r' := by simpa [Array.range_zero'] using hr2
                    simp [execOp, ho, Instr.buildSlice, run_underlying hu, run_tsize w hs, h0, hr3, newRow, runNew, Array.range_zero']
                  · simp [execOp, ho, Instr.buildSlice, run_underlying hu, run_tsize w hs, hbig, h0, hz1, hzsz, hr2, newRow, runNew]
                · cases len with
                  | zero => exact .slExact m.next 0 0 0 ⟨w.heap.size, 0, 0⟩ (Inj.upd_same _ _ _)
                  | succ j => exact .slOpen m.next 0 (j + 1) (j + 1) ⟨w.heap.size, 0, 0⟩ (Inj.upd_same _ _ _)
              · cases ha
            · cases ha
          · cases ha
        · cases ha
      · cases ha
    · cases ha
  · cases ha
/-- A slice that is built: its block is new. -/
theorem abuildSlice_at {ev : Operand → Option Value} {m m1 : Mem} {t : TypeId} {n : Nat} {ps : List (Nat × Operand)} {v : Value} (h : abuildSlice P ev m t n ps = some (v, m1)) :
    ∃ s cs, m1.next = m.next + 1 ∧ m1.rd m.next = some ⟨s, cs, none⟩ := by
  have key : ∀ (s : Nat) (cs : List Value) (f : Nat → Value), anew m s cs f = some (v, m1) → ∃ s cs, m1.next = m.next + 1 ∧ m1.rd m.next = some ⟨s, cs, none⟩ := fun s cs f hn => by
    unfold anew at hn
    split at hn
    · rename_i m' hm
      simp only [natK_eq, Option.some.injEq, Prod.mk.injEq] at hn
      obtain ⟨_, rfl⟩ := hn
      exact ⟨s, cs, Mem.new_next hm, Mem.rd_new_same hm⟩
    · cases hn
  unfold abuildSlice at h
  repeat (first | exact key _ _ _ h | cases h | split at h)
variable {ops : Array Oper} {N : Nat} {K : List Nat} (tr : Nat → Fr × Mem)

variable {fl : List (Oper × Bool)}
def EM (fl : List (Oper × Bool)) (i : Nat) : Prop := ∃ o, fl[i]? = some (o, true) ∧ pureKind o.op = false
def MK (fl : List (Oper × Bool)) (i : Nat) : Prop := ∃ o f, fl[i]? = some (o, f) ∧ pureKind o.op = false
def Done (listed : Array Bool) (i : Nat) : Prop := i < listed.size ∧ listed.getD i false = true

theorem flag_of (hfl : fl.map (·.1) = ops.toList) {i : Nat} {o : Oper} (h : ops[i]? = some o) : ∃ f, fl[i]? = some (o, f) := by
  have hl : fl[i]?.map (·.1) = some o := by rw [← List.getElem?_map, hfl]; simpa using h
  obtain ⟨⟨o', f⟩, h1, rfl⟩ := Option.map_eq_some_iff.1 hl
  exact ⟨f, h1⟩
theorem of_flag (hfl : fl.map (·.1) = ops.toList) {i : Nat} {o : Oper} {f : Bool} (h : fl[i]? = some (o, f)) : ops[i]? = some o := by
  have hl : fl[i]?.map (·.1) = some o := by rw [h]; rfl
  rw [← List.getElem?_map, hfl] at hl
  simpa using hl
/-- The block that a load looks at in the text's order. -/
def LdB (G : Nat) (K : List Nat) (ops : Array Oper) (tr : Nat → Fr × Mem) (i b : Nat) : Prop :=
  ∃ o t x off, ops[i]? = some o ∧ o.op = .load t x ∧ aeval G (fget K (tr i).1) x = some (.pointer (some ⟨b, off, none⟩))
/-- What the look tells: of two operations on memory of which one writes, the order stands, or a load may be late. -/
structure GFacts (G : Nat) (K : List Nat) (ops : Array Oper) (tr : Nat → Fr × Mem) (fl : List (Oper × Bool)) : Prop where
  fst : fl.map (·.1) = ops.toList
  edge : ∀ i o, ops.toList[i]? = some o → ∀ e ∈ o.after, Region.binds .any e = true → e.on < i
  clashp : ∀ i j x f o g, i < j → fl[i]? = some (x, f) → fl[j]? = some (o, g) → clash ops.toList x o = true → bit (masks ops.toList []) j i = true
  pair : ∀ i j x f o g, i < j → fl[i]? = some (x, f) → fl[j]? = some (o, g) → (f = true ∨ g = true) → pureKind x.op = false → pureKind o.op = false →
    bit (masks ops.toList []) j i = true ∨ (f = false ∧ (((∃ t a, x.op = .load t a) ∧ ∀ b, LdB G K ops tr i b → (tr (j + 1)).2.rd b = (tr j).2.rd b) ∨
      ((∃ t n ps, x.op = .buildSlice t n ps) ∧ (tr (j + 1)).2.rd (tr i).2.next = (tr j).2.rd (tr i).2.next)))
theorem GFacts.pairT {G : Nat} {K : List Nat} {tr : Nat → Fr × Mem} (h : GFacts G K ops tr fl) {i j : Nat} {x o : Oper} {g : Bool} (hij : i < j) (hx : fl[i]? = some (x, true)) (ho : fl[j]? = some (o, g)) (hp : pureKind x.op = false) (hp' : pureKind o.op = false) :
    bit (masks ops.toList []) j i = true := by
  rcases h.pair i j x true o g hij hx ho (.inl rfl) hp hp' with h1 | ⟨h1, _⟩
  · exact h1
  · cases h1
theorem GFacts.of_draw {G : Nat} {K : List Nat} {tr : Nat → Fr × Mem} (h : DrawFacts ops.toList) : GFacts G K ops tr (flags ops.toList) where
  fst := flags_fst _
  edge := h.edge
  clashp := fun i j x f o g hij hx ho hc => h.pair i j x f o g hij hx ho (by rw [hc]; rfl)
  pair := fun i j x f o g hij hx ho hfg hp hp' => .inl (h.pair i j x f o g hij hx ho (by rcases hfg with rfl | rfl <;> simp [hp, hp']))

/-- The text's order: what it is known to do. -/
structure Txt (P : Program) (G R : Nat) (B : Base) (L : Nat) (call : CallT) (ops : Array Oper) (N : Nat) (K : List Nat) (tr : Nat → Fr × Mem) (fl : List (Oper × Bool)) : Prop where
  facts : GFacts G K ops tr fl
  stp : ∀ i o f, fl[i]? = some (o, f) → Stp P G N K call ops.toList L o f (tr i) (tr (i + 1))
  ok0 : (tr 0).2.ok
  hc : CallOk P G R B call
  hL : L ≤ (tr 0).2.next

theorem Txt.ext (h : Txt P G R B L call ops N K tr fl) {i : Nat} (hi : i < ops.size) (hk : (tr i).2.ok) (hl : L ≤ (tr i).2.next) : Ext L (tr i).2 (tr (i + 1)).2 ∧ (¬ EM fl i → Ext (tr i).2.next (tr i).2 (tr (i + 1)).2) := by
  obtain ⟨o, ho⟩ : ∃ o, ops[i]? = some o := ⟨ops[i], by simp [hi]⟩
  obtain ⟨f, hf⟩ := flag_of h.facts.fst ho
  obtain ⟨_, h1 | ⟨v, _, hx, _⟩⟩ := h.stp i o f hf
  · rw [h1.2.1]; exact ⟨Ext.refl hk, fun _ => Ext.refl hk⟩
  · cases f with
    | true =>
      have := exA_ext h.hc hk (by first | assumption | exact Nat.le_refl _ | omega) hx
      refine ⟨this, fun hem => ?_⟩
      cases hp : pureKind o.op with
      | false => exact absurd ⟨o, hf, hp⟩ hem
      | true =>
        rw [exA_pure hp] at hx
        split at hx
        · simp only [Option.some.injEq, Prod.mk.injEq] at hx; rw [← hx.2]; exact Ext.refl hk
        · cases hx
    | false =>
      have := exA_ext h.hc hk (by first | assumption | exact Nat.le_refl _ | omega) hx
      exact ⟨this.mono hl, fun _ => this⟩
theorem Txt.all (h : Txt P G R B L call ops N K tr fl) : ∀ i, i ≤ ops.size → (tr i).2.ok ∧ L ≤ (tr i).2.next
  | 0, _ => ⟨h.ok0, h.hL⟩
  | i + 1, hi => by
    obtain ⟨h1, h2⟩ := h.all i (by omega)
    have := (h.ext tr (i := i) (by omega) h1 h2).1
    exact ⟨this.ok, Nat.le_trans h2 this.next⟩
theorem Txt.exts (h : Txt P G R B L call ops N K tr fl) {p : Nat} : ∀ q, p ≤ q → q ≤ ops.size → Ext L (tr p).2 (tr q).2 ∧ ((∀ k, p ≤ k → k < q → ¬ EM fl k) → Ext (tr p).2.next (tr p).2 (tr q).2)
  | 0, hpq, hq => by
    obtain rfl : p = 0 := by omega
    exact ⟨Ext.refl h.ok0, fun _ => Ext.refl h.ok0⟩
  | q + 1, hpq, hq => by
    by_cases he : p = q + 1
    · subst he; exact ⟨Ext.refl (h.all tr _ hq).1, fun _ => Ext.refl (h.all tr _ hq).1⟩
    · obtain ⟨h1, h2⟩ := h.exts (p := p) q (by omega) (by omega)
      obtain ⟨g1, g2⟩ := h.all tr q (by omega)
      obtain ⟨e1, e2⟩ := h.ext tr (i := q) (by omega) g1 g2
      refine ⟨h1.trans e1, fun hk => ?_⟩
      have a1 := h2 fun k hk1 hk2 => hk k hk1 (by omega)
      exact a1.trans ((e2 (hk q (by omega) (by omega))).mono a1.next)

theorem Txt.nowrite (h : Txt P G R B L call ops N K tr fl) {t p : Nat} : ∀ q, p ≤ q → q ≤ ops.size → (∀ k x, p ≤ k → k < q → ops[k]? = some x → x.dst ≠ some t) → fget K (tr q).1 t = fget K (tr p).1 t
  | 0, hpq, hq, _ => by obtain rfl : p = 0 := by omega
                        rfl
  | q + 1, hpq, hq, hw => by
    by_cases he : p = q + 1
    · subst he; rfl
    · rw [← h.nowrite (t := t) (p := p) q (by omega) (by omega) fun k x h1 h2 => hw k x h1 (by omega)]
      obtain ⟨o, ho⟩ : ∃ o, ops[q]? = some o := ⟨ops[q]'(by omega), by simp [show q < ops.size by omega]⟩
      obtain ⟨f, hf⟩ := flag_of h.facts.fst ho
      have hne := hw q o (by omega) (by omega) ho
      have key : ∀ v, (tr (q + 1)).1 = putA K (tr q).1 o.dst v → fget K (tr (q + 1)).1 t = fget K (tr q).1 t := fun v hv => by
        rw [hv]
        unfold putA
        split
        · rename_i d hd; exact fget_fset_ne fun e => hne (by rw [hd, e])
        · rfl
      obtain ⟨_, h1 | ⟨v, _, _, h1⟩⟩ := h.stp q o f hf
      · exact key _ h1.2.2
      · exact key _ h1

theorem nextEM (ops : Array Oper) (fl : List (Oper × Bool)) : ∀ (c i : Nat), i + c = ops.size → ∃ r, i ≤ r ∧ r ≤ ops.size ∧ (∀ k, i ≤ k → k < r → ¬ EM fl k) ∧ (r < ops.size → EM fl r)
  | 0, i, h => ⟨i, Nat.le_refl _, by omega, fun k h1 h2 => by omega, fun h1 => by omega⟩
  | c + 1, i, h => by
    by_cases he : EM fl i
    · exact ⟨i, Nat.le_refl _, by omega, fun k h1 h2 => by omega, fun _ => he⟩
    · obtain ⟨r, h1, h2, h3, h4⟩ := nextEM ops fl c (i + 1) (by omega)
      refine ⟨r, by omega, h2, fun k hk1 hk2 => ?_, h4⟩
      by_cases hk : k = i
      · subst hk; exact he
      · exact h3 k (by omega) hk2

/-- Slots that are settled: of each, the operations carried out that write it are those ahead of j. -/
def Slots (ops : Array Oper) (K : List Nat) (tr : Nat → Fr × Mem) (D : Nat → Prop) (ι : Inj) (a : Act) : Prop :=
  ∀ t j, j ≤ ops.size → (∀ k x, ops[k]? = some x → x.dst = some t → (D k ↔ k < j)) → ∀ v, fget K (tr j).1 t = some v → VR ι v (a.tmps.getD t Go.undef)

structure Inv (G R : Nat) (B : Base) (U L : Nat) (ops : Array Oper) (fl : List (Oper × Bool)) (K : List Nat) (tr : Nat → Fr × Mem) (ι0 : Inj) (a0 : Act) (w0 : World) (listed : Array Bool) (a : Act) (w : World) : Prop where
  lsz : listed.size = ops.size
  down : ∀ i o, ops[i]? = some o → Done listed i → ∀ e ∈ o.after, Region.binds .any e = true → Done listed e.on
  tsz : a.tmps.size = a0.tmps.size
  dfs : a.defers = a0.defers
  mem : ∃ ι r, r ≤ ops.size ∧ (∀ i, i < r → EM fl i → Done listed i) ∧ (r < ops.size → EM fl r ∧ ¬ Done listed r) ∧ (∀ i, r ≤ i → MK fl i → ¬ Done listed i) ∧
    Rel G R B U ι (tr r).2 w ∧ (∀ i, i < ops.size → ¬ Done listed i → ∀ b, (tr i).2.next ≤ b → b < (tr (i + 1)).2.next → ι b = none) ∧
    Step L ι0 (tr 0).2 w0 ι (tr r).2 w ∧ Slots ops K tr (Done listed) ι a

theorem done_set {listed : Array Bool} {i k : Nat} (hi : i < listed.size) : Done (listed.setIfInBounds i true) k ↔ Done listed k ∨ k = i := by
  unfold Done
  simp only [Array.size_setIfInBounds, Array.getD_eq_getD_getElem?]
  by_cases hk : k = i
  · subst hk; simp [hi]
  · rw [Array.getElem?_setIfInBounds_ne (by omega)]; simp [hk]

theorem clash_of {x o : Oper} {l : List Oper} {t : Nat} (h : (x.dst = some t ∧ (t ∈ looks l o ∨ o.dst = some t)) ∨ (o.dst = some t ∧ (t ∈ looks l x ∨ x.dst = some t))) : clash l x o = true := by
  unfold clash
  rcases h with ⟨h1, h2 | h2⟩ | ⟨h1, h2 | h2⟩
  · simp [h1, (memb_iff _ _).2 h2]
  · simp [h1, h2]
  · simp [h1, (memb_iff _ _).2 h2]
  · simp [h1, h2]

theorem slots_step (ht : Txt P G R B L call ops N K tr fl) {D : Nat → Prop} {ι κ : Inj} {a : Act} {i : Nat} {o : Oper} {v u : Value} (hs : Slots ops K tr D ι a) (ho : ops[i]? = some o) (hnD : ¬ D i)
    (hlate : ∀ k, bit (masks ops.toList []) k i = true → ¬ D k) (hle : ι.le κ) (hv : VR κ v u) (hfr : (tr (i + 1)).1 = putA K (tr i).1 o.dst v) (hN : ∀ d, o.dst = some d → d < a.tmps.size) :
    Slots ops K tr (fun k => D k ∨ k = i) κ (a.put o.dst u) := by
  have hi : i < ops.size := (Array.getElem?_eq_some_iff.1 ho).1
  intro t j hj hcond x hx
  by_cases hd : o.dst = some t
  · have hij : i < j := (hcond i o ho hd).1 (.inr rfl)
    have hnw := ht.nowrite tr (p := i + 1) (t := t) j (by omega) hj fun k y h1 h2 hy hyd => by
      have hDk : D k ∨ k = i := (hcond k y hy hyd).2 h2
      obtain ⟨f, hf⟩ := flag_of ht.facts.fst ho
      obtain ⟨g, hg⟩ := flag_of ht.facts.fst hy
      have hb := ht.facts.clashp i k o f y g (by omega) hf hg (clash_of (.inl ⟨hd, .inr hyd⟩))
      rcases hDk with h3 | h3
      · exact hlate k hb h3
      · omega
    rw [hnw, hfr, hd] at hx
    obtain rfl := fget_fset_same hx
    rw [hd]
    have := hN t hd
    simpa [Act.put, this] using hv
  · have hsame : (a.put o.dst u).tmps.getD t Go.undef = a.tmps.getD t Go.undef := by
      cases hd' : o.dst with
      | none => rfl
      | some d =>
        have hne : d ≠ t := fun e => hd (by rw [hd', e])
        simp [Act.put, Array.getElem?_setIfInBounds_ne hne]
    rw [hsame]
    refine (hs t j hj (fun k y hy hyd => ?_) x hx).mono hle
    have hki : k ≠ i := fun e => by subst e; rw [ho] at hy; cases hy; exact hd hyd
    have := hcond k y hy hyd
    simpa [hki] using this

theorem Inv.allDone {ι0 : Inj} {a0 : Act} {w0 : World} {listed : Array Bool} {a : Act} {w : World} (ht : Txt P G R B L call ops N K tr fl) (h : Inv G R B U L ops fl K tr ι0 a0 w0 listed a w) (hr : Region.ready .any ops listed = []) : ∀ i, i < ops.size → Done listed i := by
  intro i
  induction i using Nat.strongRecOn with
  | _ i ih =>
    intro hi
    apply Classical.byContradiction
    intro hnd
    obtain ⟨o, ho⟩ : ∃ o, ops[i]? = some o := ⟨ops[i], by simp [hi]⟩
    have hl : i < listed.size := by rw [h.lsz]; exact hi
    have : i ∈ Region.ready .any ops listed := by
      refine mem_ready.2 ⟨?_, o, ho, fun e he hb => ?_⟩
      · cases hb : listed.getD i true with
        | false => rfl
        | true =>
          exact absurd ⟨hl, by simpa [hl] using hb⟩ hnd
      · have := ht.facts.edge i o (by simpa using ho) e he hb
        exact (ih e.on this (by omega)).2
    rw [hr] at this
    cases this

theorem draw_core (hP : Prog P) (ht : Txt P G R B L call ops N K tr fl) (hR : R ≤ L) (hU : (tr ops.size).2.next ≤ U) {ι0 : Inj} {a0 : Act} {w0 : World} (hN : N ≤ a0.tmps.size) {Q : Exit → Act → World → Prop}
    (hQ : ∀ κ a' w', Rel G R B U κ (tr ops.size).2 w' → FR κ (fget K (tr ops.size).1) a' → a'.tmps.size = a0.tmps.size → a'.defers = a0.defers → Step L ι0 (tr 0).2 w0 κ (tr ops.size).2 w' → Q .normal a' w')
    (hd0 : ∀ b e, ι0 b = some e → b < (tr 0).2.next ∨ U ≤ b) :
    ∀ (fuel : Nat) (listed : Array Bool) (a : Act) (w : World), Inv G R B U L ops fl K tr ι0 a0 w0 listed a w → ops.size ≤ listed.toList.count true + fuel → wpAnyIn (fen ro) 0 P .any ops Q fuel listed a w := by
  have fin : ∀ listed a w, Inv G R B U L ops fl K tr ι0 a0 w0 listed a w → Region.ready .any ops listed = [] → Q .normal a w := fun listed a w hI hr => by
    have hall := hI.allDone tr ht hr
    obtain ⟨ι, r, h1, h2, h3, h4, h5, h6, h7, h8⟩ := hI.mem
    have hrn : r = ops.size := by
      rcases Nat.lt_or_ge r ops.size with h | h
      · exact absurd (hall r h) (h3 h).2
      · omega
    subst hrn
    exact hQ ι a w h5 (fun t v hv => h8 t ops.size (Nat.le_refl _) (fun k x hx _ => ⟨fun _ => (Array.getElem?_eq_some_iff.1 hx).1, fun h => hall k h⟩) v hv) hI.tsz hI.dfs h7
  intro fuel
  induction fuel with
  | zero =>
    intro listed a w hI hcnt
    have hr : Region.ready .any ops listed = [] := by
      apply List.eq_nil_iff_forall_not_mem.2
      intro i hi
      obtain ⟨h1, o, ho, _⟩ := mem_ready.1 hi
      have hi' : i < listed.size := by rw [hI.lsz]; exact (Array.getElem?_eq_some_iff.1 ho).1
      have hle := List.count_le_length (a := true) (l := listed.toList)
      have heq : listed.toList.count true = listed.toList.length := by
        have := hI.lsz
        simp only [Array.length_toList] at hle ⊢
        omega
      have := List.count_eq_length.1 heq listed[i] (by simp)
      have h1' : listed[i] = false := by simpa [hi'] using h1
      rw [h1'] at this
      cases this
    exact ⟨hr, fin listed a w hI hr⟩
  | succ fuel ih =>
    intro listed a w hI hcnt
    refine ⟨fin listed a w hI, fun i hi => ?_⟩
    obtain ⟨hun, o, ho, hall⟩ := mem_ready.1 hi
    have hin : i < ops.size := (Array.getElem?_eq_some_iff.1 ho).1
    have hil : i < listed.size := by rw [hI.lsz]; exact hin
    have hli : listed[i] = false := by simpa [hil] using hun
    have hnD : ¬ Done listed i := fun h => by have := h.2; simp [hil, hli] at this
    have hD' : ∀ k x, ops.toList[k]? = some x → (Done listed k ∨ k = i) → ∀ e ∈ x.after, Region.binds .any e = true → (Done listed e.on ∨ e.on = i) := fun k x hx hk e he hb => by
      rcases hk with hk | rfl
      · exact .inl (hI.down k x (by simpa using hx) hk e he hb)
      · have : x = o := by have hx' : ops[k]? = some x := by simpa using hx
                           rw [ho] at hx'; cases hx'; rfl
        subst this
        have h1 := hall e he hb
        refine .inl ⟨?_, h1⟩
        have := ht.facts.edge k x (by simpa using ho) e he hb
        omega
    have hbef : ∀ j, bit (masks ops.toList []) i j = true → j ≠ i → Done listed j := fun j hj hne => by
      rcases bit_down hD' hj (.inr rfl) with h | h
      · exact h
      · exact absurd h hne
    have haft : ∀ k, bit (masks ops.toList []) k i = true → ¬ Done listed k := fun k hk hDk =>
      hnD (bit_down (D := Done listed) (fun k x hx hk e he hb => hI.down k x (by simpa using hx) hk e he hb) hk hDk)
    obtain ⟨f, hf⟩ := flag_of ht.facts.fst ho
    -- of the slots that the operation names, the writers ahead of it have been carried out, and no others
    have hnames : ∀ t, (t ∈ looks ops.toList o ∨ o.dst = some t) → ∀ k x, ops[k]? = some x → x.dst = some t → (Done listed k ↔ k < i) := fun t htt k x hx hxd => by
      obtain ⟨g, hg⟩ := flag_of ht.facts.fst hx
      rcases Nat.lt_trichotomy k i with hki | hki | hki
      · refine ⟨fun _ => hki, fun _ => hbef k ?_ (by omega)⟩
        exact ht.facts.clashp k i x g o f hki hg hf (clash_of (.inl ⟨hxd, htt⟩))
      · subst hki; exact ⟨fun h => absurd h hnD, fun h => by omega⟩
      · refine ⟨fun h => absurd h (haft k ?_), fun h => by omega⟩
        exact ht.facts.clashp i k o f x g hki hf hg (clash_of (.inr ⟨hxd, htt⟩))
    obtain ⟨ι, r, h1, h2, h3, h4, h5, h6, h7, h8⟩ := hI.mem
    obtain ⟨hdN, hst⟩ := ht.stp i o f hf
    have hdsz : ∀ d, o.dst = some d → d < a.tmps.size := fun d hd => by rw [hI.tsz]; exact Nat.lt_of_lt_of_le (hdN d hd) hN
    have hslot : ∀ t, t ∈ looks ops.toList o → ∀ v, fget K (tr i).1 t = some v → VR ι v (a.tmps.getD t Go.undef) := fun t htl v hv =>
      h8 t i (by omega) (hnames t (.inl htl)) v hv
    have hcnt' : ops.size ≤ (listed.setIfInBounds i true).toList.count true + fuel := by
      have hl' : i < listed.toList.length := by simpa using hil
      have hv : listed.toList[i] = false := by simpa using hli
      rw [Array.toList_setIfInBounds, List.count_set hl', hv]
      show _ ≤ listed.toList.count true - 0 + 1 + fuel
      omega
    have hdown' : ∀ k x, ops[k]? = some x → Done (listed.setIfInBounds i true) k → ∀ e ∈ x.after, Region.binds .any e = true → Done (listed.setIfInBounds i true) e.on := fun k x hx hk e he hb =>
      (done_set hil).2 (hD' k x (by simpa using hx) ((done_set hil).1 hk) e he hb)
    -- the state once the operation is carried out
    have go : ∀ (v u : Value) (κ : Inj) (w' : World) (r' : Nat), ι.le κ → VR κ v u → (tr (i + 1)).1 = putA K (tr i).1 o.dst v → r' ≤ ops.size →
        (∀ k, k < r' → EM fl k → Done (listed.setIfInBounds i true) k) → (r' < ops.size → EM fl r' ∧ ¬ Done (listed.setIfInBounds i true) r') → (∀ k, r' ≤ k → MK fl k → ¬ Done (listed.setIfInBounds i true) k) →
        Rel G R B U κ (tr r').2 w' → (∀ k, k < ops.size → ¬ Done (listed.setIfInBounds i true) k → ∀ b, (tr k).2.next ≤ b → b < (tr (k + 1)).2.next → κ b = none) →
        Step L ι0 (tr 0).2 w0 κ (tr r').2 w' → wpAnyIn (fen ro) 0 P .any ops Q fuel (listed.setIfInBounds i true) (a.put o.dst u) w' := by
      intro v u κ w' r' hle hvu hfr g1 g2 g3 g4 g5 g6 g7
      refine ih _ _ _ ⟨by simpa using hI.lsz, hdown', ?_, ?_, κ, r', g1, g2, g3, g4, g5, g6, g7, ?_⟩ hcnt'
      · cases o.dst <;> simp [Act.put, hI.tsz]
      · cases o.dst <;> simp [Act.put, hI.dfs]
      · intro t j hj hcond x hx
        exact slots_step tr ht h8 ho hnD haft hle hvu hfr hdsz t j hj (fun k y hy hyd => by have := hcond k y hy hyd; rw [done_set hil] at this; exact this) x hx
    -- the same where no effect on memory has been carried out
    have keepR : ∀ (v u : Value) (κ : Inj) (w' : World), i ≠ r → (MK fl i → i < r) → ι.le κ → VR κ v u → (tr (i + 1)).1 = putA K (tr i).1 o.dst v → Rel G R B U κ (tr r).2 w' →
        (∀ k, k < ops.size → k ≠ i → ¬ Done listed k → ∀ b, (tr k).2.next ≤ b → b < (tr (k + 1)).2.next → κ b = none) → Step L ι0 (tr 0).2 w0 κ (tr r).2 w' → wpAnyIn (fen ro) 0 P .any ops Q fuel (listed.setIfInBounds i true) (a.put o.dst u) w' := by
      intro v u κ w' hir him hle hvu hfr g5 g6 g7
      refine go v u κ w' r hle hvu hfr h1 (fun k hk hem => (done_set hil).2 (.inl (h2 k hk hem))) (fun hrn => ⟨(h3 hrn).1, fun h => ?_⟩) (fun k hk hmk h => ?_) g5 (fun k hk hnk => g6 k hk (fun e => hnk ((done_set hil).2 (.inr e))) (fun e => hnk ((done_set hil).2 (.inl e)))) g7
      · rcases (done_set hil).1 h with h | h
        · exact (h3 hrn).2 h
        · exact hir h.symm
      · rcases (done_set hil).1 h with h | h
        · exact h4 k hk hmk h
        · subst h; have := him hmk; omega
    -- and where it was the next one with an effect
    have moveR : ∀ (v u : Value) (κ : Inj) (w' : World), i = r → ι.le κ → VR κ v u → (tr (i + 1)).1 = putA K (tr i).1 o.dst v → Rel G R B U κ (tr (i + 1)).2 w' →
        (∀ k, k < ops.size → k ≠ i → ¬ Done listed k → ∀ b, (tr k).2.next ≤ b → b < (tr (k + 1)).2.next → κ b = none) → Step L ι0 (tr 0).2 w0 κ (tr (i + 1)).2 w' → wpAnyIn (fen ro) 0 P .any ops Q fuel (listed.setIfInBounds i true) (a.put o.dst u) w' := by
      intro v u κ w' hir hle hvu hfr g5 g6 g7
      obtain ⟨r', k1, k2, k3, k4⟩ := nextEM ops fl (ops.size - (i + 1)) (i + 1) (by omega)
      have hext := (ht.exts tr (p := i + 1) r' k1 k2).2 k3
      have hUr : (tr r').2.next ≤ U := Nat.le_trans (ht.exts tr (p := r') ops.size k2 (Nat.le_refl _)).1.next hU
      refine go v u κ w' r' hle hvu hfr k2 (fun k hk hem => (done_set hil).2 ?_) (fun hrn => ⟨k4 hrn, fun h => ?_⟩) (fun k hk hmk h => ?_)
        (g5.fwd hext.next hext.ok hUr fun b hb => hext.kept b hb hb) (fun k hk hnk => g6 k hk (fun e => hnk ((done_set hil).2 (.inr e))) (fun e => hnk ((done_set hil).2 (.inl e))))
        (g7.fwd hext.next (fun b e he => (hd0 b e he).imp id fun h => by omega) fun b hb1 hb2 => hext.kept b hb2 hb2)
      · rcases Nat.lt_trichotomy k i with hki | hki | hki
        · exact .inl (h2 k (by omega) hem)
        · exact .inr hki
        · exact absurd hem (k3 k (by omega) hk)
      · rcases (done_set hil).1 h with h | h
        · obtain ⟨oo, hoo, hpp⟩ := k4 hrn
          exact h4 r' (by omega) ⟨oo, true, hoo, hpp⟩ h
        · omega
      · rcases (done_set hil).1 h with h | h
        · exact h4 k (by omega) hmk h
        · omega
    have hRi : R ≤ (tr i).2.next := by have := (ht.all tr i (by omega)).2; omega
    unfold wpOpIn
    rw [ho]
    simp only []
    have hwant : ∀ b, wantA K ops.toList (tr i).1 o = some b → Region.wanted o (yielded ops a.tmps) = b := fun b hb =>
      wantA_ok hb fun t v hv ⟨j, oj, hj, hoj, hod⟩ => hslot t (by
        unfold looks
        cases hg : o.guard with
        | none => rw [hg] at hj; cases hj
        | some p =>
          obtain ⟨gj, gw⟩ := p
          rw [hg] at hj
          cases hj
          have : lget ops.toList gj = some oj := by rw [lget_eq]; simpa using hoj
          refine List.mem_append_right _ ?_
          simp only [this, hod]
          exact List.mem_singleton.2 rfl) v hv
    rcases hst with ⟨hw, hm, hfr⟩ | ⟨v, hw, hx, hfr⟩
    · -- not wanted
      rw [hwant _ hw]
      simp only [Bool.false_eq_true, if_false]
      refine ⟨about_fen o w a.eval, ?_⟩
      by_cases hir : i = r
      · refine moveR Go.undef Go.undef ι w hir (Inj.le_refl _) (VR.undef ι) hfr (by rw [hm, hir]; exact h5) (fun k hk hki hnk => h6 k hk hnk) (by rw [hm, hir]; exact h7)
      · by_cases hri : r < i
        · -- behind the next effect: only if it touches no memory
          refine go Go.undef Go.undef ι w r (Inj.le_refl _) (VR.undef ι) hfr h1 (fun k hk hem => (done_set hil).2 (.inl (h2 k hk hem))) (fun hrn => ⟨(h3 hrn).1, fun h => ?_⟩) (fun k hk hmk h => ?_) h5 (fun k hk hnk => h6 k hk (fun e => hnk ((done_set hil).2 (.inl e)))) h7
          · rcases (done_set hil).1 h with h | h
            · exact (h3 hrn).2 h
            · exact hir h.symm
          · rcases (done_set hil).1 h with h | h
            · exact h4 k hk hmk h
            · subst h
              obtain ⟨oo, ff, hoo, hpp⟩ := hmk
              rw [hf] at hoo
              cases hoo
              obtain ⟨⟨orr, horr, hprr⟩, hndr⟩ := h3 (by omega)
              exact hndr (hbef r (ht.facts.pairT hri horr hf hprr hpp) (by omega))
        · exact keepR Go.undef Go.undef ι w hir (fun _ => by omega) (Inj.le_refl _) (VR.undef ι) hfr h5 (fun k hk hki hnk => h6 k hk hnk) h7
    · -- wanted
      rw [hwant _ hw]
      simp only [if_true]
      have hmemlt : pureKind o.op = false → f = false → i < r := fun hp hff => by
        rcases Nat.lt_trichotomy i r with h | h | h
        · exact h
        · subst h
          obtain ⟨⟨orr, horr, hprr⟩, _⟩ := h3 hin
          rw [hf] at horr
          cases horr
          cases hff
        · obtain ⟨⟨orr, horr, hprr⟩, hndr⟩ := h3 (by omega)
          exact absurd (hbef r (ht.facts.pairT h horr hf hprr hp) (by omega)) hndr
      have hmemeq : pureKind o.op = false → f = true → i = r := fun hp hff => by
        subst hff
        rcases Nat.lt_trichotomy i r with h | h | h
        · exact absurd (h2 i h ⟨o, hf, hp⟩) hnD
        · exact h
        · obtain ⟨⟨orr, horr, hprr⟩, hndr⟩ := h3 (by omega)
          exact absurd (hbef r (ht.facts.pairT h horr hf hprr hp) (by omega)) hndr
      -- what it looks at
      have hopn : ∀ x ∈ o.op.operands, ∀ y, aeval G (fget K (tr i).1) x = some y → VR ι y (a.eval x) := fun x hxo y hy => by
        refine aeval_ok1 h5.gl (fun t ht1 v hv => ?_) hy
        refine hslot t ?_ v hv
        unfold looks
        exact List.mem_append_left _ (List.mem_filterMap.2 ⟨.tmp t, by subst ht1; simpa using hxo, rfl⟩)
      obtain ⟨ev', hagree, hev'⟩ : ∃ ev' : Operand → Option Value, (∀ x ∈ o.op.operands, aeval G (fget K (tr i).1) x = ev' x) ∧ ∀ x y, ev' x = some y → VR ι y (a.eval x) := by
        refine ⟨fun x => @ite _ (x ∈ o.op.operands) (Classical.propDecidable _) (aeval G (fget K (tr i).1) x) none, fun x hxo => by simp [hxo], fun x y hy => ?_⟩
        by_cases hxo : x ∈ o.op.operands
        · dsimp only at hy; rw [if_pos hxo] at hy; exact hopn x hxo y hy
        · dsimp only at hy; rw [if_neg hxo] at hy; cases hy
      rw [exA_congr hagree] at hx
      have hnx : (tr i).2.next ≤ (tr (i + 1)).2.next := (ht.exts tr (p := i) (i + 1) (by omega) (by omega)).1.next
      have hUi : (tr (i + 1)).2.next ≤ U := Nat.le_trans (ht.exts tr (p := i + 1) ops.size (by omega) (Nat.le_refl _)).1.next hU
      have hmono : ∀ p q, p ≤ q → q ≤ ops.size → (tr p).2.next ≤ (tr q).2.next := fun p q h1 h2 => (ht.exts tr (p := p) q h1 h2).1.next
      have ids : ∀ κ w', Step L ι (tr i).2 w κ (tr (i + 1)).2 w' ∨ Step (tr i).2.next ι (tr i).2 w κ (tr (i + 1)).2 w' → ∀ k, k < ops.size → k ≠ i → ¬ Done listed k → ∀ b, (tr k).2.next ≤ b → b < (tr (k + 1)).2.next → κ b = none := by
        intro κ w' hs k hk hki hnk b hb1 hb2
        have h0 := h6 k hk hnk b hb1 hb2
        cases hκ : κ b with
        | none => rfl
        | some e =>
          have hfr2 : (tr i).2.next ≤ b ∧ b < (tr (i + 1)).2.next := by
            rcases hs with hs | hs
            · exact ⟨(hs.fresh b e hκ h0).1, (hs.fresh b e hκ h0).2.1⟩
            · exact ⟨(hs.fresh b e hκ h0).1, (hs.fresh b e hκ h0).2.1⟩
          rcases Nat.lt_trichotomy k i with h | h | h
          · have := hmono (k + 1) i (by omega) (by omega); omega
          · exact absurd h hki
          · have := hmono (i + 1) k (by omega) (by omega); omega
      cases hp : pureKind o.op with
      | true =>
        rw [exA_pure hp] at hx
        split at hx
        · rename_i v1 hv1
          simp only [Option.some.injEq, Prod.mk.injEq] at hx
          obtain ⟨rfl, hmm⟩ := hx
          obtain ⟨u, hrun, hvu⟩ := apure_ok (P := P) hev' hv1 w
          have hir : i ≠ r := fun e => by
            subst e
            obtain ⟨⟨orr, horr, hprr⟩, _⟩ := h3 hin
            rw [hf] at horr
            cases horr
            rw [hp] at hprr; cases hprr
          have hnm : MK fl i → i < r := fun ⟨oo, ff, hoo, hpp⟩ => by rw [hf] at hoo; cases hoo; rw [hp] at hpp; cases hpp
          refine ⟨about_fen o w a.eval, ?_⟩
          rw [Oper.semAt_eq _ _ _ (fun c hd => by rw [hd] at hp; cases hp), hrun]
          exact keepR v1 u ι w hir hnm (Inj.le_refl _) hvu hfr h5 (fun k hk hki hnk => h6 k hk hnk) h7
        · cases hx
      | false =>
        cases f with
        | true =>
          have hir := hmemeq hp rfl
          subst hir
          refine exA_ok hP ht.hc h5 hR (ht.all tr i (by omega)).2 hev' hx hUi fun u κ w' hvu g1 g2 => ?_
          exact moveR v u κ w' rfl g2.le hvu hfr g1 (ids κ w' (.inl g2)) (h7.trans g2)
        | false =>
          have hir := hmemlt hp rfl
          by_cases hnoEM : ∀ k, i ≤ k → k < r → ¬ EM fl k
          · have e1 := (ht.exts tr (p := i) r (by omega) h1).2 hnoEM
            have e2 := (ht.exts tr (p := i + 1) r (by omega) h1).2 fun k hk1 hk2 => hnoEM k (by omega) hk2
            have hdom : ∀ b e, ι b = some e → b < (tr i).2.next ∨ (tr (i + 1)).2.next ≤ b := fun b e he => by
              by_cases hb1 : b < (tr i).2.next
              · exact .inl hb1
              · by_cases hb2 : (tr (i + 1)).2.next ≤ b
                · exact .inr hb2
                · have := h6 i hin hnD b (by omega) (by omega)
                  rw [this] at he; cases he
            have hback := h5.back (m := (tr i).2) (U' := (tr (i + 1)).2.next) hRi (ht.all tr i (by omega)).1 e1.next (fun b hb => e1.kept b hb hb) hdom
            refine exA_ok hP ht.hc hback hRi (Nat.le_refl _) hev' hx (Nat.le_refl _) fun u κ w' hvu g1 g2 => ?_
            have hUr : (tr r).2.next ≤ U := Nat.le_trans (hmono r ops.size h1 (Nat.le_refl _)) hU
            have hmerge := h5.merge g1 g2 e2.next (fun b hb => e2.kept b hb hb) hRi hUr
            refine keepR v u κ w' (by omega) (fun _ => hir) g2.le hvu hfr hmerge (ids κ w' (.inr g2)) ?_
            have hblk : ∀ k, k < w.heap.size → w'.heap[k]? = w.heap[k]? := fun k hk => g2.block k hk fun b e hb1 hb2 => by omega
            refine ⟨Inj.le_trans h7.le g2.le, h7.foreign, fun b e he hn0 => ?_, h7.next, h7.kept, g2.os.trans h7.os, g2.tape.trans h7.tape, g2.output.trans h7.output, Nat.le_trans h7.size g2.size, fun k hk hno => ?_⟩
            · cases hi0 : ι b with
              | some e' =>
                have := g2.le _ _ hi0
                rw [he] at this
                cases this
                exact h7.fresh b e hi0 hn0
              | none =>
                obtain ⟨k1, k2, k3⟩ := g2.fresh b e he hi0
                have := hmono 0 i (by omega) (by omega)
                have := e2.next
                refine ⟨by omega, by omega, ?_⟩
                rcases k3 with k3 | ⟨b0, _, k4, k5, _⟩
                · exact .inl (Nat.le_trans h7.size k3)
                · omega
            · rw [hblk k (Nat.lt_of_lt_of_le hk h7.size)]
              exact h7.block k hk hno
          · -- a load or a new slice that is late: the writers that went ahead left its block as it was
            obtain ⟨k0, hk1, hk2, ok, hok, hpk⟩ : ∃ k, i ≤ k ∧ k < r ∧ EM fl k := by
              apply Classical.byContradiction
              intro hno
              exact hnoEM fun k h1 h2 h3 => hno ⟨k, h1, h2, h3⟩
            have hki : i < k0 := by
              rcases Nat.lt_or_ge i k0 with h | h
              · exact h
              · obtain rfl : k0 = i := by omega
                rw [hf] at hok; cases hok
            have hlate0 : ∀ k, i < k → k < r → EM fl k → ((∃ t a, o.op = .load t a) ∧ ∀ b, LdB G K ops tr i b → (tr (k + 1)).2.rd b = (tr k).2.rd b) ∨
                ((∃ t n ps, o.op = .buildSlice t n ps) ∧ (tr (k + 1)).2.rd (tr i).2.next = (tr k).2.rd (tr i).2.next) := fun k h1 h2' ⟨ok, hok, hpk⟩ => by
              rcases ht.facts.pair i k o false ok true h1 hf hok (.inr rfl) hp hpk with h | ⟨_, h⟩
              · exact absurd (h2 k h2' ⟨ok, hok, hpk⟩) (haft k h)
              · exact h
            have hUr : (tr r).2.next ≤ U := Nat.le_trans (hmono r ops.size h1 (Nat.le_refl _)) hU
            have hRr : R ≤ (tr r).2.next := by have := (ht.all tr r h1).2; omega
            have hkeep0 : ∀ b, b < (tr (i + 1)).2.next → (∀ q, i < q → q < r → EM fl q → (tr (q + 1)).2.rd b = (tr q).2.rd b) → ∀ q, i + 1 ≤ q → q ≤ r → (tr q).2.rd b = (tr (i + 1)).2.rd b := fun b hbn hsame q => by
              induction q with
              | zero => intro h _; omega
              | succ q ihq =>
                intro hq1 hq2
                by_cases hqi : q = i
                · subst hqi; rfl
                · have hprev := ihq (by omega) (by omega)
                  rw [← hprev]
                  by_cases hem : EM fl q
                  · exact hsame q (by omega) (by omega) hem
                  · have hall := ht.all tr q (by omega)
                    have hexq := (ht.ext tr (i := q) (by omega) hall.1 hall.2).2 hem
                    have hnq : b < (tr q).2.next := Nat.lt_of_lt_of_le hbn (hmono (i + 1) q (by omega) (by omega))
                    exact hexq.kept b hnq hnq
            rcases hlate0 k0 hki hk2 ⟨ok, hok, hpk⟩ with ⟨⟨t, ad, hop⟩, _⟩ | ⟨⟨t, n, ps, hop⟩, _⟩
            · have hlate : ∀ k, i < k → k < r → EM fl k → ∀ b, LdB G K ops tr i b → (tr (k + 1)).2.rd b = (tr k).2.rd b := fun k h1 h2' h3 => by
                rcases hlate0 k h1 h2' h3 with ⟨_, h⟩ | ⟨⟨_, _, _, h⟩, _⟩
                · exact h
                · rw [hop] at h; cases h
              have hx0 := hx
              rw [← exA_congr hagree] at hx0
              rw [hop] at hx0
              obtain ⟨hmm, b, off, hxe, hbn, hre⟩ := load_at hx0
              have hLB : LdB G K ops tr i b := ⟨o, t, ad, off, ho, hop, hxe⟩
              have hkr : (tr r).2.rd b = (tr i).2.rd b := by
                rw [hkeep0 b (by rw [hmm]; exact hbn) (fun q h1 h2' h3 => hlate q h1 h2' h3 b hLB) r (by omega) (Nat.le_refl _), hmm]
              have hxr2 := hre (tr r).2.next (tr r).2 hkr
              rw [← hop, exA_congr hagree] at hxr2
              refine exA_ok hP ht.hc h5 hRr (Nat.le_refl _) hev' hxr2 hUr fun u κ w' hvu g1 g2 => ?_
              have g3 : Step L ι (tr r).2 w κ (tr r).2 w' := Step.mono (ht.all tr r h1).2 g2
              refine keepR v u κ w' (by omega) (fun _ => hir) g2.le hvu hfr g1 (fun k hk hki' hnk b' hb1 hb2 => ?_) (h7.trans g3)
              have h0 := h6 k hk hnk b' hb1 hb2
              cases hκ : κ b' with
              | none => rfl
              | some e =>
                have := g2.fresh b' e hκ h0
                omega
            · have hlate : ∀ k, i < k → k < r → EM fl k → (tr (k + 1)).2.rd (tr i).2.next = (tr k).2.rd (tr i).2.next := fun k h1 h2' h3 => by
                rcases hlate0 k h1 h2' h3 with ⟨⟨_, _, h⟩, _⟩ | ⟨_, h⟩
                · rw [hop] at h; cases h
                · exact h
              rw [hop] at hx
              have hxs : abuildSlice P ev' (tr i).2 t n ps.toList = some (v, (tr (i + 1)).2) := hx
              have hnn : (tr (i + 1)).2.next = (tr i).2.next + 1 := by
                obtain ⟨s, cs, hm⟩ := abuildSlice_at hxs
                exact hm.1
              have hkr : (tr r).2.rd (tr i).2.next = (tr (i + 1)).2.rd (tr i).2.next := hkeep0 _ (by omega) (fun q h1 h2' h3 => hlate q h1 h2' h3) r (by omega) (Nat.le_refl _)
              have hbr : (tr i).2.next < (tr r).2.next := Nat.lt_of_lt_of_le (by omega) (hmono (i + 1) r (by omega) h1)
              have hib : ι (tr i).2.next = none := h6 i hin hnD _ (Nat.le_refl _) (by omega)
              obtain ⟨u, t2, us, hrun, hvu, g1⟩ := abuildSlice_late h5 hRi hev' hxs hbr hib hkr (o := o) (ρ := a.eval) hop
              refine ⟨about_fen o w a.eval, ?_⟩
              rw [Oper.semAt_eq _ _ _ (fun c hd => by rw [hd] at hop; cases hop), hrun]
              have hle : ι.le (ι.upd (tr i).2.next ⟨w.heap.size, 0, 0⟩) := Inj.le_upd hib _
              refine keepR v u _ _ (by omega) (fun _ => hir) hle hvu hfr g1 (fun k hk hki' hnk b' hb1 hb2 => ?_) ?_
              · have h0 := h6 k hk hnk b' hb1 hb2
                rw [Inj.upd_ne, h0]
                rintro rfl
                rcases Nat.lt_trichotomy k i with h | h | h
                · have := hmono (k + 1) i (by omega) (by omega); omega
                · exact hki' h
                · have := hmono (i + 1) k (by omega) (by omega); omega
              · refine ⟨Inj.le_trans h7.le hle, h7.foreign, fun b' e he hn0 => ?_, h7.next, h7.kept, h7.os, h7.tape, h7.output, ?_, fun k hk hno => ?_⟩
                · by_cases hb' : b' = (tr i).2.next
                  · subst hb'
                    rw [Inj.upd_same] at he
                    cases he
                    exact ⟨hmono 0 i (by omega) (by omega), hbr, .inl h7.size⟩
                  · rw [Inj.upd_ne _ _ hb'] at he
                    exact h7.fresh b' e he hn0
                · rw [show (w.alloc (.cells us.toArray t2)).heap.size = w.heap.size + 1 by simp]
                  exact Nat.le_succ_of_le h7.size
                · rw [heapAllocOld w _ (Nat.lt_of_lt_of_le hk h7.size)]
                  exact h7.block k hk hno
end

/-! ### A region of loads and stores whose order is open: those that meet are ordered, or touch other blocks -/
def isLS (op : Op) : Option (Operand × Bool) := match op with
  | .load _ x => some (x, false)
  | .store _ x _ => some (x, true)
  | _ => none
def looseOp (o : Oper) : Bool := match o.guard with
  | some _ => false
  | none => match pureKind o.op with
    | true => true
    | false => match isLS o.op with
      | some _ => true
      | none => false
def isOpenStore (x : Oper × Bool) : Bool := match x.2 with
  | true => false
  | false => match isLS x.1.op with
    | some (_, b) => b
    | none => false
def needLoose (ops : List Oper) : Bool := (flags ops).any isOpenStore
def pairF (l : List Oper) : List (Oper × Bool) := l.map fun o => (o, false)
def noDst (t : Nat) : List Oper → Bool
  | [] => true
  | o :: l => match (match o.dst with
      | some d => Nat.beq d t
      | none => false) with
    | true => false
    | false => noDst t l
def stable : List Oper → Bool
  | [] => true
  | o :: l => match (match isLS o.op with
      | some (.tmp t, _) => noDst t (o :: l)
      | _ => true) with
    | true => stable l
    | false => false
def looseOk (ops : List Oper) : Bool := allRows ops (masks ops []) (pairF ops) (pairF ops) 0 && (ops.all looseOp && stable ops)
/-- The addresses of two operations that meet only if their blocks are one. -/
def meetP (k i : Nat) (x o : Oper) : List (Operand × Operand) := match isLS x.op with
  | none => []
  | some (a, s) => match isLS o.op with
    | none => []
    | some (b, s') => match s || s' with
      | false => []
      | true => match Nat.testBit k i with
        | true => []
        | false => [(a, b)]
def rowP (k : Nat) (o : Oper) : List Oper → Nat → List (Operand × Operand)
  | [], _ => []
  | x :: l, i => meetP k i x o ++ rowP k o l (Nat.succ i)
def allP (ms : List Nat) (all : List Oper) : List Oper → Nat → List (Operand × Operand)
  | [], _ => []
  | o :: l, j => (match lget ms j with
    | some k => rowP k o (all.take j) 0
    | none => []) ++ allP ms all l (Nat.succ j)
def loosePairs (ops : List Oper) : List (Operand × Operand) := allP (masks ops []) ops ops 0
def neB (x y : Value) : Bool := match x with
  | .pointer (some ⟨b, _, none⟩) => match y with
    | .pointer (some ⟨b', _, none⟩) => match Nat.beq b b' with
      | true => false
      | false => true
    | _ => false
  | _ => false
def neAll (ev : Operand → Option Value) : List (Operand × Operand) → Bool
  | [] => true
  | (a, b) :: l => match ev a with
    | none => false
    | some x => match ev b with
      | none => false
      | some y => match neB x y with
        | true => neAll ev l
        | false => false

theorem neB_some {x y : Value} (h : neB x y = true) : ∃ b o b' o', x = .pointer (some ⟨b, o, none⟩) ∧ y = .pointer (some ⟨b', o', none⟩) ∧ b ≠ b' := by
  unfold neB at h
  split at h
  · split at h
    · split at h
      · cases h
      · rename_i hb; exact ⟨_, _, _, _, rfl, rfl, Nat.ne_of_beq_eq_false hb⟩
    · cases h
  · cases h
theorem neAll_mem {ev : Operand → Option Value} : ∀ {l : List (Operand × Operand)} {a b : Operand}, neAll ev l = true → (a, b) ∈ l → ∃ x y, ev a = some x ∧ ev b = some y ∧ neB x y = true
  | [], a, b, _, h => by cases h
  | (c, d) :: l, a, b, h, hm => by
    simp only [neAll] at h
    split at h
    · cases h
    · rename_i x hx
      split at h
      · cases h
      · rename_i y hy
        split at h
        · rename_i hn
          rcases List.mem_cons.1 hm with e | hm
          · cases e; exact ⟨x, y, hx, hy, hn⟩
          · exact neAll_mem h hm
        · cases h
theorem rowP_mem {k : Nat} {o : Oper} : ∀ {l : List Oper} {base i : Nat} {x : Oper} {p : Operand × Operand}, l[i]? = some x → p ∈ meetP k (base + i) x o → p ∈ rowP k o l base
  | [], _, i, x, p, h, _ => by cases h
  | y :: l, base, i, x, p, h, hp => by
    simp only [rowP]
    cases i with
    | zero => simp at h; subst h; exact List.mem_append_left _ hp
    | succ i => exact List.mem_append_right _ (rowP_mem (base := Nat.succ base) (i := i) (by simpa using h) (by rw [Nat.succ_add]; exact hp))
theorem allP_mem {ms : List Nat} {all : List Oper} : ∀ {l : List Oper} {base j : Nat} {o : Oper} {k : Nat} {p : Operand × Operand}, l[j]? = some o → ms[base + j]? = some k → p ∈ rowP k o (all.take (base + j)) 0 → p ∈ allP ms all l base
  | [], _, j, o, k, p, h, _, _ => by cases h
  | y :: l, base, j, o, k, p, h, hk, hp => by
    simp only [allP]
    cases j with
    | zero =>
      simp at h; subst h
      have hk' : lget ms base = some k := by rw [lget_eq]; exact hk
      rw [hk']
      exact List.mem_append_left _ hp
    | succ j => exact List.mem_append_right _ (allP_mem (base := Nat.succ base) (j := j) (by simpa using h) (by rw [Nat.succ_add]; exact hk) (by rw [Nat.succ_add]; exact hp))
theorem noDst_get {t : Nat} : ∀ {l : List Oper} {j : Nat} {x : Oper}, noDst t l = true → l[j]? = some x → x.dst ≠ some t
  | [], j, x, _, h => by cases h
  | o :: l, j, x, h, hj => by
    simp only [noDst] at h
    split at h
    · cases h
    · rename_i hb
      cases j with
      | zero =>
        simp at hj; subst hj
        intro hd
        rw [hd] at hb
        simp at hb
      | succ j => exact noDst_get h (by simpa using hj)
theorem stable_get : ∀ {l : List Oper} {i j : Nat} {o x : Oper} {t : Nat} {s : Bool}, stable l = true → l[i]? = some o → isLS o.op = some (.tmp t, s) → i ≤ j → l[j]? = some x → x.dst ≠ some t
  | [], i, j, o, x, t, s, _, h, _, _, _ => by cases h
  | y :: l, i, j, o, x, t, s, h, hi, hs, hij, hj => by
    simp only [stable] at h
    split at h
    · rename_i hb
      cases i with
      | zero =>
        simp at hi; subst hi
        rw [hs] at hb
        exact noDst_get hb hj
      | succ i =>
        cases j with
        | zero => omega
        | succ j => exact stable_get (i := i) (j := j) h (by simpa using hi) hs (by omega) (by simpa using hj)
    · cases h

section
variable {P : Program} {G R U L : Nat} {B : Base} {call : CallT} {ro : Option Nat}

theorem store_at {ev : Operand → Option Value} {m m1 : Mem} {t : TypeId} {x y : Operand} {v : Value} (h : exA P call L ev m (.store t x y) = some (v, m1)) :
    ∃ b o k, ev x = some (.pointer (some ⟨b, o, none⟩)) ∧ b < m.next ∧ m1 = m.put b (some k) ∧ ∀ M : Mem, M.rd b = m.rd b → exA P call L ev M (.store t x y) = some (v, M.put b (some k)) := by
  simp only [exA, acallee, exI, aop] at h ⊢
  split at h
  · rename_i vx hvx
    split at h
    · rename_i vy hvy
      have h0 := h
      unfold astore at h
      split at h
      · rename_i b o
        split at h
        · rename_i s hs
          split at h
          · rename_i hsz
            split at h
            · rename_i m2 hm2
              cases h
              have hm2' := hm2
              unfold awr at hm2
              split at hm2
              · rename_i hL
                split at hm2
                · rename_i k hk
                  split at hm2
                  · rename_i hen
                    split at hm2
                    · rename_i hfit
                      cases hm2
                      refine ⟨b, o, _, hvx, Mem.rd_lt hk, rfl, fun M hM => ?_⟩
                      have hk2 : M.rd b = some k := hM.trans hk
                      simp only [hvx, hvy, astore, hs, hsz, awr, hL, hk2, hen, hfit]
                    · cases hm2
                  · cases hm2
                · cases hm2
              · cases hm2
            · cases h
          · cases h
        · cases h
      · cases h
    · cases h
  · cases h

variable {ops : Array Oper} {N : Nat} {K : List Nat} (tr : Nat → Fr × Mem)
/-- What is known of such a region, and of the text's order. -/
structure LTxt (P : Program) (G N : Nat) (K : List Nat) (L : Nat) (call : CallT) (ops : Array Oper) (tr : Nat → Fr × Mem) : Prop where
  edge : ∀ (i : Nat) (o : Oper), ops[i]? = some o → ∀ e ∈ o.after, Region.binds .any e = true → e.on < i
  pair : ∀ (i j : Nat) (x o : Oper), i < j → ops[i]? = some x → ops[j]? = some o → clash ops.toList x o = true → bit (masks ops.toList []) j i = true
  kind : ∀ (i : Nat) (o : Oper), ops[i]? = some o → o.guard = none ∧ (pureKind o.op = true ∨ ∃ a s, isLS o.op = some (a, s))
  stab : ∀ (i j : Nat) (o x : Oper) (t : Nat) (s : Bool), ops[i]? = some o → isLS o.op = some (.tmp t, s) → i ≤ j → ops[j]? = some x → x.dst ≠ some t
  stp : ∀ (i : Nat) (o : Oper), ops[i]? = some o → Stp P G N K call ops.toList L o true (tr i) (tr (i + 1))
  ne : ∀ (i j : Nat) (x o : Oper) (a b : Operand) (s s' : Bool), i < j → ops[i]? = some x → ops[j]? = some o → isLS x.op = some (a, s) → isLS o.op = some (b, s') → (s || s') = true → bit (masks ops.toList []) j i = false →
    ∃ u v, aeval G (fget K (tr ops.size).1) a = some u ∧ aeval G (fget K (tr ops.size).1) b = some v ∧ neB u v = true

theorem LTxt.nowrite (h : LTxt P G N K L call ops tr) {t p : Nat} : ∀ q, p ≤ q → q ≤ ops.size → (∀ k x, p ≤ k → k < q → ops[k]? = some x → x.dst ≠ some t) → fget K (tr q).1 t = fget K (tr p).1 t
  | 0, hpq, hq, _ => by obtain rfl : p = 0 := by omega
                        rfl
  | q + 1, hpq, hq, hw => by
    by_cases he : p = q + 1
    · subst he; rfl
    · rw [← h.nowrite (t := t) (p := p) q (by omega) (by omega) fun k x h1 h2 => hw k x h1 (by omega)]
      obtain ⟨o, ho⟩ : ∃ o, ops[q]? = some o := ⟨ops[q]'(by omega), by simp [show q < ops.size by omega]⟩
      have hne := hw q o (by omega) (by omega) ho
      have key : ∀ v, (tr (q + 1)).1 = putA K (tr q).1 o.dst v → fget K (tr (q + 1)).1 t = fget K (tr q).1 t := fun v hv => by
        rw [hv]
        unfold putA
        split
        · rename_i d hd; exact fget_fset_ne fun e => hne (by rw [hd, e])
        · rfl
      obtain ⟨_, h1 | ⟨v, _, _, h1⟩⟩ := h.stp q o ho
      · exact key _ h1.2.2
      · exact key _ h1
/-- An address is at its use what it is at the end. -/
theorem LTxt.addr (h : LTxt P G N K L call ops tr) {i : Nat} {o : Oper} {a : Operand} {s : Bool} (ho : ops[i]? = some o) (hs : isLS o.op = some (a, s)) : aeval G (fget K (tr ops.size).1) a = aeval G (fget K (tr i).1) a := by
  have hi : i < ops.size := (Array.getElem?_eq_some_iff.1 ho).1
  cases a with
  | tmp t =>
    show fget K (tr ops.size).1 t = fget K (tr i).1 t
    exact h.nowrite tr (p := i) (t := t) ops.size (by omega) (Nat.le_refl _) fun k x h1 _ hx => h.stab i k o x t s ho hs h1 hx
  | _ => rfl
/-- Operation i touches block b (s: it writes). -/
def Tch (G : Nat) (K : List Nat) (ops : Array Oper) (tr : Nat → Fr × Mem) (i b : Nat) (s : Bool) : Prop :=
  ∃ o a off, ops[i]? = some o ∧ isLS o.op = some (a, s) ∧ aeval G (fget K (tr i).1) a = some (.pointer (some ⟨b, off, none⟩))
theorem LTxt.meet (h : LTxt P G N K L call ops tr) {i j b : Nat} {s s' : Bool} (hij : i < j) (h1 : Tch G K ops tr i b s) (h2 : Tch G K ops tr j b s') (hs : (s || s') = true) : bit (masks ops.toList []) j i = true := by
  obtain ⟨x, a, o1, hx, hxs, ha⟩ := h1
  obtain ⟨o, c, o2, ho, hos, hc⟩ := h2
  cases hb : bit (masks ops.toList []) j i with
  | true => rfl
  | false =>
    obtain ⟨u, v, hu, hv, hn⟩ := h.ne i j x o a c s s' hij hx ho hxs hos hs hb
    rw [h.addr tr hx hxs, ha] at hu
    rw [h.addr tr ho hos, hc] at hv
    cases hu; cases hv
    obtain ⟨_, _, _, _, e1, e2, hne⟩ := neB_some hn
    cases e1; cases e2
    exact absurd rfl hne
/-- A step of the text's order, on memory. -/
theorem LTxt.mem (h : LTxt P G N K L call ops tr) {i : Nat} {o : Oper} (ho : ops[i]? = some o) : (tr (i + 1)).2.next = (tr i).2.next ∧ (∀ b, ¬ Tch G K ops tr i b true → (tr (i + 1)).2.rd b = (tr i).2.rd b) := by
  obtain ⟨_, h1 | ⟨v, _, hx, _⟩⟩ := h.stp i o ho
  · rw [h1.2.1]; exact ⟨rfl, fun _ _ => rfl⟩
  · obtain ⟨_, hk | ⟨a, s, hs⟩⟩ := h.kind i o ho
    · rw [exA_pure hk] at hx
      split at hx
      · simp only [Option.some.injEq, Prod.mk.injEq] at hx; rw [← hx.2]; exact ⟨rfl, fun _ _ => rfl⟩
      · cases hx
    · unfold isLS at hs
      split at hs
      · rename_i t x hop
        rw [hop] at hx
        rw [(load_at hx).1]; exact ⟨rfl, fun _ _ => rfl⟩
      · rename_i t x y hop
        rw [hop] at hx
        obtain ⟨b, off, k, h1, h2, h3, _⟩ := store_at hx
        rw [h3]
        refine ⟨rfl, fun c hc => ?_⟩
        have hne : b ≠ c := fun e => hc ⟨o, x, off, ho, by rw [hop]; rfl, by rw [← e]; exact h1⟩
        exact Mem.rd_put_ne trivial _ h2 hne
      · cases hs
theorem LTxt.same (h : LTxt P G N K L call ops tr) {b p : Nat} : ∀ q, p ≤ q → q ≤ ops.size → (∀ k, p ≤ k → k < q → ¬ Tch G K ops tr k b true) → (tr q).2.rd b = (tr p).2.rd b ∧ (tr q).2.next = (tr p).2.next
  | 0, hpq, hq, _ => by obtain rfl : p = 0 := by omega
                        exact ⟨rfl, rfl⟩
  | q + 1, hpq, hq, hw => by
    by_cases he : p = q + 1
    · subst he; exact ⟨rfl, rfl⟩
    · obtain ⟨g1, g2⟩ := h.same (b := b) (p := p) q (by omega) (by omega) fun k h1 h2 => hw k h1 (by omega)
      obtain ⟨o, ho⟩ : ∃ o, ops[q]? = some o := ⟨ops[q]'(by omega), by simp [show q < ops.size by omega]⟩
      obtain ⟨e1, e2⟩ := h.mem tr ho
      exact ⟨(e2 b (hw q (by omega) (by omega))).trans g1, e1.trans g2⟩
theorem LTxt.next (h : LTxt P G N K L call ops tr) : ∀ q, q ≤ ops.size → (tr q).2.next = (tr 0).2.next
  | 0, _ => rfl
  | q + 1, hq => by
    obtain ⟨o, ho⟩ : ∃ o, ops[q]? = some o := ⟨ops[q]'(by omega), by simp [show q < ops.size by omega]⟩
    exact (h.mem tr ho).1.trans (h.next q (by omega))

structure LInv (G R : Nat) (B : Base) (U L : Nat) (ops : Array Oper) (K : List Nat) (tr : Nat → Fr × Mem) (ι0 : Inj) (a0 : Act) (w0 : World) (listed : Array Bool) (a : Act) (w : World) : Prop where
  lsz : listed.size = ops.size
  down : ∀ i o, ops[i]? = some o → Done listed i → ∀ e ∈ o.after, Region.binds .any e = true → Done listed e.on
  tsz : a.tmps.size = a0.tmps.size
  dfs : a.defers = a0.defers
  mem : ∃ ι M, M.next = (tr 0).2.next ∧ (∀ b j, j ≤ ops.size → (∀ k, k < ops.size → Tch G K ops tr k b true → (Done listed k ↔ k < j)) → M.rd b = (tr j).2.rd b) ∧
    Rel G R B U ι M w ∧ Step L ι0 (tr 0).2 w0 ι M w ∧ Slots ops K tr (Done listed) ι a

theorem lslots_step (ht : LTxt P G N K L call ops tr) {D : Nat → Prop} {ι κ : Inj} {a : Act} {i : Nat} {o : Oper} {v u : Value} (hs : Slots ops K tr D ι a) (ho : ops[i]? = some o) (hnD : ¬ D i)
    (hlate : ∀ k, bit (masks ops.toList []) k i = true → ¬ D k) (hle : ι.le κ) (hv : VR κ v u) (hfr : (tr (i + 1)).1 = putA K (tr i).1 o.dst v) (hN : ∀ d, o.dst = some d → d < a.tmps.size) :
    Slots ops K tr (fun k => D k ∨ k = i) κ (a.put o.dst u) := by
  have hi : i < ops.size := (Array.getElem?_eq_some_iff.1 ho).1
  intro t j hj hcond x hx
  by_cases hd : o.dst = some t
  · have hij : i < j := (hcond i o ho hd).1 (.inr rfl)
    have hnw := ht.nowrite tr (p := i + 1) (t := t) j (by omega) hj fun k y h1 h2 hy hyd => by
      have hDk : D k ∨ k = i := (hcond k y hy hyd).2 h2
      have hb := ht.pair i k o y (by omega) ho hy (clash_of (.inl ⟨hd, .inr hyd⟩))
      rcases hDk with h3 | h3
      · exact hlate k hb h3
      · omega
    rw [hnw, hfr, hd] at hx
    obtain rfl := fget_fset_same hx
    rw [hd]
    have := hN t hd
    simpa [Act.put, this] using hv
  · have hsame : (a.put o.dst u).tmps.getD t Go.undef = a.tmps.getD t Go.undef := by
      cases hd' : o.dst with
      | none => rfl
      | some d =>
        have hne : d ≠ t := fun e => hd (by rw [hd', e])
        simp [Act.put, Array.getElem?_setIfInBounds_ne hne]
    rw [hsame]
    refine (hs t j hj (fun k y hy hyd => ?_) x hx).mono hle
    have hki : k ≠ i := fun e => by subst e; rw [ho] at hy; cases hy; exact hd hyd
    have := hcond k y hy hyd
    simpa [hki] using this

theorem LInv.allDone {ι0 : Inj} {a0 : Act} {w0 : World} {listed : Array Bool} {a : Act} {w : World} (ht : LTxt P G N K L call ops tr) (h : LInv G R B U L ops K tr ι0 a0 w0 listed a w) (hr : Region.ready .any ops listed = []) : ∀ i, i < ops.size → Done listed i := by
  intro i
  induction i using Nat.strongRecOn with
  | _ i ih =>
    intro hi
    apply Classical.byContradiction
    intro hnd
    obtain ⟨o, ho⟩ : ∃ o, ops[i]? = some o := ⟨ops[i], by simp [hi]⟩
    have hl : i < listed.size := by rw [h.lsz]; exact hi
    have : i ∈ Region.ready .any ops listed := by
      refine mem_ready.2 ⟨?_, o, ho, fun e he hb => ?_⟩
      · cases hb : listed.getD i true with
        | false => rfl
        | true =>
          exact absurd ⟨hl, by simpa [hl] using hb⟩ hnd
      · have := ht.edge i o ho e he hb
        exact (ih e.on this (by omega)).2
    rw [hr] at this
    cases this

theorem loose_core (hP : Prog P) (hc : CallOk P G R B call) (ht : LTxt P G N K L call ops tr) (hR : R ≤ L) (hL : L ≤ (tr 0).2.next) (hU : (tr ops.size).2.next ≤ U) {ι0 : Inj} {a0 : Act} {w0 : World} (hN : N ≤ a0.tmps.size) {Q : Exit → Act → World → Prop}
    (hQ : ∀ κ a' w', Rel G R B U κ (tr ops.size).2 w' → FR κ (fget K (tr ops.size).1) a' → a'.tmps.size = a0.tmps.size → a'.defers = a0.defers → Step L ι0 (tr 0).2 w0 κ (tr ops.size).2 w' → Q .normal a' w')
    (hd0 : ∀ b e, ι0 b = some e → b < (tr 0).2.next ∨ U ≤ b) :
    ∀ (fuel : Nat) (listed : Array Bool) (a : Act) (w : World), LInv G R B U L ops K tr ι0 a0 w0 listed a w → ops.size ≤ listed.toList.count true + fuel → wpAnyIn (fen ro) 0 P .any ops Q fuel listed a w := by
  have hnx := ht.next tr ops.size (Nat.le_refl _)
  have fin : ∀ listed a w, LInv G R B U L ops K tr ι0 a0 w0 listed a w → Region.ready .any ops listed = [] → Q .normal a w := fun listed a w hI hr => by
    have hall := hI.allDone tr ht hr
    obtain ⟨ι, M, h1, h2, h5, h7, h8⟩ := hI.mem
    have hrd : ∀ b, (tr ops.size).2.rd b = M.rd b := fun b => (h2 b ops.size (Nat.le_refl _) fun k hk _ => ⟨fun _ => hk, fun _ => hall k hk⟩).symm
    have hMn : M.next = (tr ops.size).2.next := h1.trans hnx.symm
    exact hQ ι a w (h5.fwd (by omega) trivial hU fun b _ => hrd b) (fun t v hv => h8 t ops.size (Nat.le_refl _) (fun k x hx _ => ⟨fun _ => (Array.getElem?_eq_some_iff.1 hx).1, fun h => hall k h⟩) v hv) hI.tsz hI.dfs
      (h7.fwd (by omega) (fun b e he => (hd0 b e he).imp id fun h => by omega) fun b _ _ => hrd b)
  intro fuel
  induction fuel with
  | zero =>
    intro listed a w hI hcnt
    have hr : Region.ready .any ops listed = [] := by
      apply List.eq_nil_iff_forall_not_mem.2
      intro i hi
      obtain ⟨h1, o, ho, _⟩ := mem_ready.1 hi
      have hi' : i < listed.size := by rw [hI.lsz]; exact (Array.getElem?_eq_some_iff.1 ho).1
      have hle := List.count_le_length (a := true) (l := listed.toList)
      have heq : listed.toList.count true = listed.toList.length := by
        have := hI.lsz
        simp only [Array.length_toList] at hle ⊢
        omega
      have := List.count_eq_length.1 heq listed[i] (by simp)
      have h1' : listed[i] = false := by simpa [hi'] using h1
      rw [h1'] at this
      cases this
    exact ⟨hr, fin listed a w hI hr⟩
  | succ fuel ih =>
    intro listed a w hI hcnt
    refine ⟨fin listed a w hI, fun i hi => ?_⟩
    obtain ⟨hun, o, ho, hall⟩ := mem_ready.1 hi
    have hin : i < ops.size := (Array.getElem?_eq_some_iff.1 ho).1
    have hil : i < listed.size := by rw [hI.lsz]; exact hin
    have hli : listed[i] = false := by simpa [hil] using hun
    have hnD : ¬ Done listed i := fun h => by have := h.2; simp [hil, hli] at this
    have hD' : ∀ k x, ops.toList[k]? = some x → (Done listed k ∨ k = i) → ∀ e ∈ x.after, Region.binds .any e = true → (Done listed e.on ∨ e.on = i) := fun k x hx hk e he hb => by
      rcases hk with hk | rfl
      · exact .inl (hI.down k x (by simpa using hx) hk e he hb)
      · have : x = o := by have hx' : ops[k]? = some x := by simpa using hx
                           rw [ho] at hx'; cases hx'; rfl
        subst this
        have h1 := hall e he hb
        refine .inl ⟨?_, h1⟩
        have := ht.edge k x ho e he hb
        omega
    have hbef : ∀ j, bit (masks ops.toList []) i j = true → j ≠ i → Done listed j := fun j hj hne => by
      rcases bit_down hD' hj (.inr rfl) with h | h
      · exact h
      · exact absurd h hne
    have haft : ∀ k, bit (masks ops.toList []) k i = true → ¬ Done listed k := fun k hk hDk =>
      hnD (bit_down (D := Done listed) (fun k x hx hk e he hb => hI.down k x (by simpa using hx) hk e he hb) hk hDk)
    have hnames : ∀ t, (t ∈ looks ops.toList o ∨ o.dst = some t) → ∀ k x, ops[k]? = some x → x.dst = some t → (Done listed k ↔ k < i) := fun t htt k x hx hxd => by
      rcases Nat.lt_trichotomy k i with hki | hki | hki
      · refine ⟨fun _ => hki, fun _ => hbef k ?_ (by omega)⟩
        exact ht.pair k i x o hki hx ho (clash_of (.inl ⟨hxd, htt⟩))
      · subst hki; exact ⟨fun h => absurd h hnD, fun h => by omega⟩
      · refine ⟨fun h => absurd h (haft k ?_), fun h => by omega⟩
        exact ht.pair i k o x hki ho hx (clash_of (.inr ⟨hxd, htt⟩))
    obtain ⟨ι, M, h1, h2, h5, h7, h8⟩ := hI.mem
    obtain ⟨hdN, hst⟩ := ht.stp i o ho
    have hdsz : ∀ d, o.dst = some d → d < a.tmps.size := fun d hd => by rw [hI.tsz]; exact Nat.lt_of_lt_of_le (hdN d hd) hN
    have hslot : ∀ t, t ∈ looks ops.toList o → ∀ v, fget K (tr i).1 t = some v → VR ι v (a.tmps.getD t Go.undef) := fun t htl v hv =>
      h8 t i (by omega) (hnames t (.inl htl)) v hv
    have hcnt' : ops.size ≤ (listed.setIfInBounds i true).toList.count true + fuel := by
      have hl' : i < listed.toList.length := by simpa using hil
      have hv : listed.toList[i] = false := by simpa using hli
      rw [Array.toList_setIfInBounds, List.count_set hl', hv]
      show _ ≤ listed.toList.count true - 0 + 1 + fuel
      omega
    have hdown' : ∀ k x, ops[k]? = some x → Done (listed.setIfInBounds i true) k → ∀ e ∈ x.after, Region.binds .any e = true → Done (listed.setIfInBounds i true) e.on := fun k x hx hk e he hb =>
      (done_set hil).2 (hD' k x (by simpa using hx) ((done_set hil).1 hk) e he hb)
    have go : ∀ (v u : Value) (κ : Inj) (w' : World) (M' : Mem), ι.le κ → VR κ v u → (tr (i + 1)).1 = putA K (tr i).1 o.dst v → M'.next = (tr 0).2.next →
        (∀ b j, j ≤ ops.size → (∀ k, k < ops.size → Tch G K ops tr k b true → (Done (listed.setIfInBounds i true) k ↔ k < j)) → M'.rd b = (tr j).2.rd b) →
        Rel G R B U κ M' w' → Step L ι M w κ M' w' → wpAnyIn (fen ro) 0 P .any ops Q fuel (listed.setIfInBounds i true) (a.put o.dst u) w' := by
      intro v u κ w' M' hle hvu hfr g1 g2 g3 g4
      refine ih _ _ _ ⟨by simpa using hI.lsz, hdown', ?_, ?_, κ, M', g1, g2, g3, h7.trans g4, ?_⟩ hcnt'
      · cases o.dst <;> simp [Act.put, hI.tsz]
      · cases o.dst <;> simp [Act.put, hI.dfs]
      · intro t j hj hcond x hx
        exact lslots_step tr ht h8 ho hnD haft hle hvu hfr hdsz t j hj (fun k y hy hyd => by have := hcond k y hy hyd; rw [done_set hil] at this; exact this) x hx
    -- the memory stays
    have stay : (∀ b, ¬ Tch G K ops tr i b true) → ∀ b j, j ≤ ops.size → (∀ k, k < ops.size → Tch G K ops tr k b true → (Done (listed.setIfInBounds i true) k ↔ k < j)) → M.rd b = (tr j).2.rd b := fun hno b j hj hcond => by
      refine h2 b j hj fun k hk hT => ?_
      have hki : k ≠ i := fun e => by subst e; exact hno b hT
      have := hcond k hk hT
      rw [done_set hil] at this
      simpa [hki] using this
    have hMU : M.next ≤ U := by rw [h1, ← hnx]; exact hU
    have hML : L ≤ M.next := by rw [h1]; exact hL
    obtain ⟨hgd, hkind⟩ := ht.kind i o ho
    unfold wpOpIn
    rw [ho]
    simp only []
    have hwt : wantA K ops.toList (tr i).1 o = some true := by simp only [wantA, hgd]
    have hwant : Region.wanted o (yielded ops a.tmps) = true := by
      unfold Region.wanted
      rw [hgd]
    rcases hst with ⟨hw, _, _⟩ | ⟨v, hw, hx, hfr⟩
    · rw [hwt] at hw; cases hw
    · rw [hwant]
      simp only [if_true]
      simp only [] at hx
      have hopn : ∀ x ∈ o.op.operands, ∀ y, aeval G (fget K (tr i).1) x = some y → VR ι y (a.eval x) := fun x hxo y hy => by
        refine aeval_ok1 h5.gl (fun t ht1 v hv => ?_) hy
        refine hslot t ?_ v hv
        unfold looks
        exact List.mem_append_left _ (List.mem_filterMap.2 ⟨.tmp t, by subst ht1; simpa using hxo, rfl⟩)
      obtain ⟨ev', hagree, hev'⟩ : ∃ ev' : Operand → Option Value, (∀ x ∈ o.op.operands, aeval G (fget K (tr i).1) x = ev' x) ∧ ∀ x y, ev' x = some y → VR ι y (a.eval x) := by
        refine ⟨fun x => @ite _ (x ∈ o.op.operands) (Classical.propDecidable _) (aeval G (fget K (tr i).1) x) none, fun x hxo => by simp [hxo], fun x y hy => ?_⟩
        by_cases hxo : x ∈ o.op.operands
        · dsimp only at hy; rw [if_pos hxo] at hy; exact hopn x hxo y hy
        · dsimp only at hy; rw [if_neg hxo] at hy; cases hy
      rcases hkind with hp | ⟨ad, s, hls⟩
      · have hno : ∀ b, ¬ Tch G K ops tr i b true := fun b ⟨o', a', off, ho', hs', _⟩ => by
          rw [ho] at ho'; cases ho'
          unfold isLS at hs'
          split at hs' <;> first | (rename_i hop; rw [hop] at hp; cases hp) | cases hs'
        rw [exA_congr hagree, exA_pure hp] at hx
        split at hx
        · rename_i v1 hv1
          simp only [Option.some.injEq, Prod.mk.injEq] at hx
          obtain ⟨rfl, hmm⟩ := hx
          obtain ⟨u, hrun, hvu⟩ := apure_ok (P := P) hev' hv1 w
          refine ⟨about_fen o w a.eval, ?_⟩
          rw [Oper.semAt_eq _ _ _ (fun c hd => by rw [hd] at hp; cases hp), hrun]
          exact go v1 u ι w M (Inj.le_refl _) hvu hfr h1 (stay hno) h5 (Step.refl' _ _ _ _)
        · cases hx
      · -- the block that it touches is as it is in the text's order
        have hord : ∀ b s', Tch G K ops tr i b s → (s || s') = true → ∀ k, k < ops.size → Tch G K ops tr k b s' → (Done listed k ↔ k < i) := fun b s' hT hss k hk hTk => by
          rcases Nat.lt_trichotomy k i with hki | hki | hki
          · exact ⟨fun _ => hki, fun _ => hbef k (ht.meet tr hki hTk hT (by rw [Bool.or_comm]; exact hss)) (by omega)⟩
          · subst hki; exact ⟨fun h => absurd h hnD, fun h => by omega⟩
          · exact ⟨fun h => absurd h (haft k (ht.meet tr hki hT hTk hss)), fun h => by omega⟩
        unfold isLS at hls
        split at hls
        · rename_i t x hop
          cases hls
          rw [hop] at hx
          obtain ⟨hmm, b, off, hxe, _, hre⟩ := load_at hx
          have hT : Tch G K ops tr i b false := ⟨o, _, off, ho, by rw [hop]; rfl, hxe⟩
          have hMb : M.rd b = (tr i).2.rd b := h2 b i (by omega) fun k hk hTk => hord b true hT rfl k hk hTk
          have hxM := hre L M hMb
          rw [← hop, exA_congr hagree] at hxM
          have hno : ∀ b, ¬ Tch G K ops tr i b true := fun b ⟨o', a', off', ho', hs', _⟩ => by
            rw [ho] at ho'; cases ho'
            rw [hop] at hs'; cases hs'
          refine exA_ok hP hc h5 hR hML hev' hxM hMU fun u κ w' hvu g1 g2 => ?_
          exact go v u κ w' M g2.le hvu hfr h1 (stay hno) g1 g2
        · rename_i t x y hop
          cases hls
          rw [hop] at hx
          obtain ⟨b, off, kb, hxe, hbn, hmm, hre⟩ := store_at hx
          have hT : Tch G K ops tr i b true := ⟨o, _, off, ho, by rw [hop]; rfl, hxe⟩
          have hMb : M.rd b = (tr i).2.rd b := h2 b i (by omega) fun k hk hTk => hord b true hT rfl k hk hTk
          have hxM := hre M hMb
          rw [← hop, exA_congr hagree] at hxM
          have hbM : b < M.next := by rw [h1, ← ht.next tr i (by omega)]; exact hbn
          refine exA_ok hP hc h5 hR hML hev' hxM hMU fun u κ w' hvu g1 g2 => ?_
          refine go v u κ w' (M.put b (some kb)) g2.le hvu hfr h1 (fun c j hj hcond => ?_) g1 g2
          by_cases hcb : c = b
          · subst hcb
            have hij : i < j := (hcond i hin hT).1 ((done_set hil).2 (.inr rfl))
            have hno : ∀ k, i + 1 ≤ k → k < j → ¬ Tch G K ops tr k c true := fun k hk1 hk2 hTk => by
              have hDk := (hcond k (by omega) hTk).2 hk2
              rcases (done_set hil).1 hDk with h | h
              · have := (hord c true hT rfl k (by omega) hTk).1 h; omega
              · omega
            rw [(ht.same tr (b := c) (p := i + 1) j (by omega) hj hno).1, hmm, Mem.rd_put_same _ hbM, Mem.rd_put_same _ hbn]
          · rw [Mem.rd_put_ne trivial _ hbM (fun e => hcb e.symm)]
            refine h2 c j hj fun k hk hTk => ?_
            have hki : k ≠ i := fun e => by
              subst e
              obtain ⟨o', a', off', ho', hs', ha'⟩ := hTk
              rw [ho] at ho'; cases ho'
              rw [hop] at hs'; cases hs'
              rw [hxe] at ha'; cases ha'
              exact hcb rfl
            have := hcond k hk hTk
            rw [done_set hil] at this
            simpa [hki] using this
        · cases hls
end
end Go.Vit

