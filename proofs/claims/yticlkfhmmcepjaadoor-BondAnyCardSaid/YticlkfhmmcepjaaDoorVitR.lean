/- The shallow form: an evaluator in continuation-passing style; single operations. -/
import Derived.Test.YticlkfhmmcepjaaDoorVitP
set_option linter.unusedSimpArgs false
set_option linter.unusedVariables false
namespace Go.Vit
open Go

section
variable {β : Type}
/-! ### What a shallow text is made of -/
def oOpt (x : Option Value) (k : Value → Option β) : Option β := match x with
  | some v => k v
  | none => none
def oRes (x : Option (Value × Mem)) (k : Value → Mem → Option β) : Option β := match x with
  | some (v, m) => k v m
  | none => none
def ik (kd : IntKind) (x : Value) (k : Int → Option β) : Option β := match x with
  | .int j a => match Nat.beq (kix j) (kix kd) with
    | true => k a
    | false => none
  | _ => none
def oInt (op : BinOp) (kd : IntKind) (x y : Value) (k : Value → Option β) : Option β := ik kd x fun a => ik kd y fun b => oOpt (aint op kd a b) k
def oCv (kd : IntKind) (x : Value) (k : Value → Option β) : Option β := match x with
  | .int _ n => oOpt (mkI kd (fwrap kd n)) k
  | _ => none
def oIf (x : Value) (a b : Option β) : Option β := match x with
  | .bool c => match c with
    | true => a
    | false => b
  | _ => none
/-- Guards: wanted true, wanted false. A guard that was itself not reached counts as not wanted. -/
def oGT (x : Value) (a b : Option β) : Option β := match x with
  | .bool c => match c with
    | true => a
    | false => b
  | .tuple _ => b
  | _ => none
def oGF (x : Value) (a b : Option β) : Option β := match x with
  | .bool c => match c with
    | true => b
    | false => a
  | .tuple _ => b
  | _ => none
def oPick (x : Value) (a b : Value) (k : Value → Option β) : Option β := match x with
  | .bool c => match c with
    | true => k a
    | false => k b
  | _ => none
def join (j : List Value → Mem → Option β) (f : (List Value → Mem → Option β) → Option β) : Option β := f j
def loopS (body : (List Value → Mem → Option β) → List Value → Mem → Option β) : Nat → List Value → Mem → Option β
  | 0, _, _ => none
  | n + 1, vs, m => body (loopS body n) vs m
def uc (l : List Value) (k : Value → List Value → Option β) : Option β := match l with
  | a :: l => k a l
  | [] => none
def un0 (l : List Value) (k : Option β) : Option β := match l with
  | [] => k
  | _ :: _ => none
abbrev CallK (β : Type) := FuncId → List Value → Nat → Mem → (Value → Mem → Option β) → Option β
def oCallV (call : CallK β) (f : Value) (vs : List Value) (L : Nat) (m : Mem) (k : Value → Mem → Option β) : Option β := match atarget f with
  | some (g, cs) => call g (vs ++ cs) L m k
  | none => none
def ld1 (m : Mem) (x : Value) : Option Value := match x with
  | .pointer (some ⟨b, o, none⟩) => match m.rd b with
    | some k => match k.ents with
      | none => lget k.cells o
      | some _ => none
    | none => none
  | _ => none
def ldN (m : Mem) (s : Nat) (x : Value) : Option Value := match x with
  | .pointer (some ⟨b, o, none⟩) => match rdc m b o s with
    | some cs => some (.agg ⟨cs⟩)
    | none => none
  | _ => none
def st1 (s L : Nat) (m : Mem) (x v : Value) : Option (Value × Mem) := match x with
  | .pointer (some ⟨b, o, none⟩) => match Nat.beq v.cells.toList.length s with
    | true => match awr L m b o v.cells.toList with
      | some m' => some (Go.undef, m')
      | none => none
    | false => none
  | _ => none
/-- The address of a field, of an element. -/
def fa (off : Nat) (x : Value) : Option Value := match x with
  | .pointer (some ⟨b, o, none⟩) => natK (Nat.add o off) fun q => some (.pointer (some ⟨b, q, none⟩))
  | _ => none
def ia (s : Nat) (x i : Value) : Option Value := match i with
  | .int _ n => match n with
    | .negSucc _ => none
    | .ofNat n => match x with
      | .slice (some ⟨b, o, _⟩) len _ => match Nat.blt n len with
        | true => natK (Nat.add o (Nat.mul n s)) fun q => some (.pointer (some ⟨b, q, none⟩))
        | false => none
      | _ => none
  | _ => none
def iaA (len s : Nat) (x i : Value) : Option Value := match i with
  | .int _ n => match n with
    | .negSucc _ => none
    | .ofNat n => match x with
      | .pointer (some ⟨b, o, none⟩) => match Nat.blt n len with
        | true => natK (Nat.add o (Nat.mul n s)) fun q => some (.pointer (some ⟨b, q, none⟩))
        | false => none
      | _ => none
  | _ => none
def ln (x : Value) : Option Value := match x with
  | .slice _ n _ => natK n fun n => some (.int .i64 (.ofNat n))
  | _ => none
def tri (lo hi mx : Option Value) (x : Operand) : Option Value := match x with
  | .tmp t => match t with
    | 0 => lo
    | 1 => hi
    | _ => mx
  | _ => none
def sl (P : Program) (t : TypeId) (x : Value) (lo hi mx : Option Value) : Option Value :=
  aslice P (tri lo hi mx) t x (lo.map fun _ => .tmp 0) (hi.map fun _ => .tmp 1) (mx.map fun _ => .tmp 2)
def bu (P : Program) (t : TypeId) (ps : List (Nat × Value)) : Option Value := match azero P t with
  | none => none
  | some zs => match P.underlying t with
    | some (.struct fields) => match places P fields.toList with
      | some pl => match lay (fun i => lget pl i) zs ps with
        | some cs => some (.agg ⟨cs⟩)
        | none => none
      | none => none
    | some (.array _ elem) => match tsize P elem with
      | some s => match lay (fun i => some (Nat.mul i s, s)) zs ps with
        | some cs => some (.agg ⟨cs⟩)
        | none => none
      | none => none
    | _ => none
def bs (P : Program) (m : Mem) (t : TypeId) (len : Nat) (ps : List (Nat × Value)) : Option (Value × Mem) := match P.underlying t with
  | some (.slice elem) => match azero P elem with
    | some zs => match tsize P elem with
      | some s => match Nat.beq zs.length s && Nat.ble (Nat.mul len s) 16777216 with
        | true => match lay (fun i => some (Nat.mul i s, s)) (azrow zs len) ps with
          | some cs => anew m s cs (slTo len)
          | none => none
        | false => none
      | none => none
    | none => none
  | _ => none

/-! ### One operation
The functions that a text is compared with lie deeper than those it is made of: so they are unfolded first. -/
def c0 : Nat := 0
def c1 : Nat := c0
def c2 : Nat := c1
def c3 : Nat := c2
def c4 : Nat := c3
def c5 : Nat := c4
def c6 : Nat := c5
def c7 : Nat := c6
def c8 : Nat := c7
def c9 : Nat := c8
def c10 : Nat := c9
def c11 : Nat := c10
def c12 : Nat := c11
def c13 : Nat := c12
def c14 : Nat := c13
def c15 : Nat := c14
def c16 : Nat := c15
def c17 : Nat := c16
def c18 : Nat := c17
def c19 : Nat := c18
def c20 : Nat := c19
def c21 : Nat := c20
def c22 : Nat := c21
def c23 : Nat := c22
def c24 : Nat := c23
def c25 : Nat := c24
def c26 : Nat := c25
def c27 : Nat := c26
def c28 : Nat := c27
def c29 : Nat := c28
def c30 : Nat := c29
def c31 : Nat := c30
def c32 : Nat := c31
def c33 : Nat := c32
def c34 : Nat := c33
def c35 : Nat := c34
def c36 : Nat := c35
def c37 : Nat := c36
def c38 : Nat := c37
def c39 : Nat := c38
def c40 : Nat := c39
def deep {α : Type} (_ : Nat) (a : α) : α := a
@[simp] theorem deep_eq {α : Type} (n : Nat) (a : α) : deep n a = a := rfl
def dv (x : Option Value) (k : Value → Option β) : Option β := deep c40 <| match x with
  | some v => k v
  | none => none
def dvs (x : Option (List Value)) (k : List Value → Option β) : Option β := deep c40 <| match x with
  | some v => k v
  | none => none
def dps (x : Option (List (Nat × Value))) (k : List (Nat × Value) → Option β) : Option β := deep c40 <| match x with
  | some v => k v
  | none => none
def dvo (ev : Operand → Option Value) (x : Option Operand) (k : Option Value → Option β) : Option β := deep c40 <| match x with
  | none => k none
  | some x => match ev x with
    | some v => k (some v)
    | none => none
def isSh (op : BinOp) : Bool := match op with
  | .shl => true
  | .shr => true
  | _ => false
def denBin (P : Program) (op : BinOp) (t : TypeId) (x y : Value) (k : Value → Option β) : Option β := match P.underlying t with
  | some (.int kd) => match isSh op with
    | false => oInt op kd x y k
    | true => oOpt (abin P op t x y) k
  | _ => oOpt (abin P op t x y) k
def denOp (P : Program) (call : CallK β) (L : Nat) (ev : Operand → Option Value) (m : Mem) (op : Op) (k : Value → Mem → Option β) : Option β := match op with
  | .move x => dv (ev x) fun v => k v m
  | .assign x => dv (ev x) fun v => k v m
  | .pick c a b => dv (ev c) fun c => dv (ev a) fun a => dv (ev b) fun b => oPick c a b fun v => k v m
  | .binOp op t x y _ => dv (ev x) fun x => dv (ev y) fun y => denBin P op t x y fun v => k v m
  | .unOp op _ x => dv (ev x) fun x => oOpt (aun op x) fun v => k v m
  | .convert s d x => dv (ev x) fun x => match P.underlying s with
    | some _ => match P.underlying d with
      | some (.int kd) => oCv kd x fun v => k v m
      | _ => oOpt (aconv P s d x) fun v => k v m
    | none => none
  | .extract x i => dv (ev x) fun x => oOpt (aextract x i) fun v => k v m
  | .nilCheck x => dv (ev x) fun x => oOpt (anil x) fun v => k v m
  | .fieldAddr s x f => dv (ev x) fun x => match P.underlying s with
    | some (.struct fields) => match lget fields.toList f with
      | some fd => match tsize P fd.type with
        | some (Nat.succ _) => oOpt (fa fd.offset x) fun v => k v m
        | _ => none
      | none => none
    | _ => none
  | .field t x f => dv (ev x) fun x => oOpt (afieldV P t x f) fun v => k v m
  | .indexAddr t x i => dv (ev x) fun x => dv (ev i) fun i => match P.underlying t with
    | some (.slice elem) => match tsize P elem with
      | some s => oOpt (ia s x i) fun v => k v m
      | none => none
    | some (.array len elem) => match tsize P elem with
      | some s => oOpt (iaA len s x i) fun v => k v m
      | none => none
    | _ => none
  | .index t x i => dv (ev x) fun x => dv (ev i) fun i => oOpt (aindex P t x i) fun v => k v m
  | .slice t x lo hi mx => dv (ev x) fun x => dvo ev lo fun lo => dvo ev hi fun hi => dvo ev mx fun mx => oOpt (sl P t x lo hi mx) fun v => k v m
  | .makeFunc fn first cs => match fn with
    | .func f => match first.toList with
      | [] => dvs (evL ev cs.toList) fun vs => k (.func (.func f) #[] ⟨vs⟩) m
      | _ => none
    | _ => none
  | .makeInterface t x => dv (ev x) fun x => oOpt (aiface P t x) fun v => k v m
  | .build t parts => dps (evP ev parts.toList) fun ps => oOpt (bu P t ps) fun v => k v m
  | .typeAssert x _ t ok => dv (ev x) fun x => oOpt (aassert P x t ok) fun v => k v m
  | .alloc t => match azero P t with
    | some cs => oRes (anew m 1 cs ptrTo) k
    | none => none
  | .box _ x => dv (ev x) fun x => oRes (abox m x) k
  | .buildSlice t len parts => dps (evP ev parts.toList) fun ps => oRes (bs P m t len ps) k
  | .makeSlice t l c => dv (ev l) fun l => dv (ev c) fun c => oRes (amakeSlice P m t l c) k
  | .load t x => dv (ev x) fun x => match tagg P t with
    | some false => oOpt (ld1 m x) fun v => k v m
    | some true => match tsize P t with
      | some s => oOpt (ldN m s x) fun v => k v m
      | none => none
    | none => none
  | .store t x y => dv (ev x) fun x => dv (ev y) fun y => match tsize P t with
    | some s => oRes (st1 s L m x y) k
    | none => none
  | .call c => match c.callee with
    | .builtin b => dvs (evL ev c.args.toList) fun vs => match b with
      | .append => match vs with
        | [s, x] => match c.argTypes.toList with
          | [t, t'] => match Nat.beq t t' with
            | true => oRes (aappend P L m t s x) k
            | false => none
          | _ => none
        | _ => none
      | .copy => match vs with
        | [d, s] => match lget c.argTypes.toList 0 with
          | some t => oRes (acopy P L m t d s) k
          | none => none
        | _ => none
      | .clear => match vs with
        | [x] => match lget c.argTypes.toList 0 with
          | some t => oRes (aclear P L m t x) k
          | none => none
        | _ => none
      | .len => match vs with
        | [x] => match lget c.argTypes.toList 0 with
          | some t => match P.underlying t with
            | some (.slice _) => oOpt (ln x) fun v => k v m
            | _ => oOpt (alen P t x) fun v => k v m
          | none => none
        | _ => none
      | b => oOpt (abuiltin P b c.argTypes vs) fun v => k v m
    | .value f => dvs (evL ev c.args.toList) fun vs => match f with
      | .func g => call g vs L m k
      | f => dv (ev f) fun f => oCallV call f vs L m k
    | _ => none
  | _ => none

/-! ### It reckons what the other evaluator does -/
/-- A call in either form. -/
def CallSim (callK : CallK β) (call : CallT) : Prop := ∀ f args L m k r, callK f args L m k = some r → ∃ v m', call f args L m = some (v, m') ∧ k v m' = some r

theorem dv_some {x : Option Value} {k : Value → Option β} {r : β} (h : dv x k = some r) : ∃ v, x = some v ∧ k v = some r := by
  simp only [dv, deep_eq] at h; split at h
  · rename_i v; exact ⟨v, rfl, h⟩
  · cases h
theorem dvs_some {x : Option (List Value)} {k : List Value → Option β} {r : β} (h : dvs x k = some r) : ∃ v, x = some v ∧ k v = some r := by
  simp only [dvs, deep_eq] at h; split at h
  · rename_i v; exact ⟨v, rfl, h⟩
  · cases h
theorem dps_some {x : Option (List (Nat × Value))} {k : List (Nat × Value) → Option β} {r : β} (h : dps x k = some r) : ∃ v, x = some v ∧ k v = some r := by
  simp only [dps, deep_eq] at h; split at h
  · rename_i v; exact ⟨v, rfl, h⟩
  · cases h
theorem oOpt_some {x : Option Value} {k : Value → Option β} {r : β} (h : oOpt x k = some r) : ∃ v, x = some v ∧ k v = some r := by
  unfold oOpt at h; split at h
  · rename_i v; exact ⟨v, rfl, h⟩
  · cases h
theorem oRes_some {x : Option (Value × Mem)} {k : Value → Mem → Option β} {r : β} (h : oRes x k = some r) : ∃ v m, x = some (v, m) ∧ k v m = some r := by
  unfold oRes at h; split at h
  · rename_i v m; exact ⟨v, m, rfl, h⟩
  · cases h
theorem ik_some {kd : IntKind} {x : Value} {k : Int → Option β} {r : β} (h : ik kd x k = some r) : ∃ j a, x = .int j a ∧ Nat.beq (kix j) (kix kd) = true ∧ k a = some r := by
  unfold ik at h
  split at h
  · split at h
    · rename_i a j hb; exact ⟨_, _, rfl, hb, h⟩
    · cases h
  · cases h
theorem evL_mono {ev ev' : Operand → Option Value} (he : ∀ x v, ev x = some v → ev' x = some v) : ∀ l vs, evL ev l = some vs → evL ev' l = some vs
  | [], vs, h => h
  | x :: l, vs, h => by
    simp only [evL] at h ⊢
    split at h
    · rename_i v hv
      rw [he _ _ hv]
      split at h
      · rename_i ws hws
        rw [evL_mono he l ws hws]
        exact h
      · cases h
    · cases h
theorem evP_mono {ev ev' : Operand → Option Value} (he : ∀ x v, ev x = some v → ev' x = some v) : ∀ l vs, evP ev l = some vs → evP ev' l = some vs
  | [], vs, h => h
  | (i, x) :: l, vs, h => by
    simp only [evP] at h ⊢
    split at h
    · rename_i v hv
      rw [he _ _ hv]
      split at h
      · rename_i ws hws
        rw [evP_mono he l ws hws]
        exact h
      · cases h
    · cases h
theorem dvo_some {ev ev' : Operand → Option Value} (he : ∀ x v, ev x = some v → ev' x = some v) {x : Option Operand} {k : Option Value → Option β} {r : β} (h : dvo ev x k = some r) :
    ∃ v, (∀ n d, abound ev' x d = abound (fun o => match o with | .tmp j => (if j = n then v else none) | _ => none) (v.map fun _ => .tmp n) d) ∧ v.isSome = x.isSome ∧ k v = some r := by
  simp only [dvo, deep_eq] at h
  split at h
  · exact ⟨none, fun n d => rfl, rfl, h⟩
  · split at h
    · rename_i v hv
      exact ⟨some v, fun n d => by simp [abound, he _ _ hv], rfl, h⟩
    · cases h

theorem sl_eq (P : Program) {ev' : Operand → Option Value} {t : TypeId} {x : Value} {lo hi mx : Option Operand} {vl vh vm : Option Value}
    (hl : ∀ d, abound ev' lo d = abound (tri vl vh vm) (vl.map fun _ => .tmp 0) d) (hh : ∀ d, abound ev' hi d = abound (tri vl vh vm) (vh.map fun _ => .tmp 1) d) (hm : ∀ d, abound ev' mx d = abound (tri vl vh vm) (vm.map fun _ => .tmp 2) d)
    (el : vl.isSome = lo.isSome) (eh : vh.isSome = hi.isSome) (em : vm.isSome = mx.isSome) : sl P t x vl vh vm = aslice P ev' t x lo hi mx := by
  have hb : ∀ a b, abounds (tri vl vh vm) a b (vl.map fun _ => .tmp 0) (vh.map fun _ => .tmp 1) (vm.map fun _ => .tmp 2) = abounds ev' a b lo hi mx := fun a b => by
    simp only [abounds, hl, hh, hm]
    cases vm <;> cases mx <;> cases vh <;> cases hi <;> first | (simp at em; done) | (simp at eh; done) | rfl
  have hb' : ∀ a b, abounds (tri vl vh vm) a b (vl.map fun _ => .tmp 0) (vh.map fun _ => .tmp 1) none = abounds ev' a b lo hi none := fun a b => by
    simp only [abounds, hl, hh]
    cases vh <;> cases hi <;> first | (simp at eh; done) | rfl
  unfold sl aslice
  simp only [hb, hb']
  cases vm <;> cases mx <;> first | (simp at em; done) | rfl
theorem abound_tri (ev' : Operand → Option Value) {x : Option Operand} {k : Option Value → Option β} {r : β} {ev : Operand → Option Value} (he : ∀ x v, ev x = some v → ev' x = some v) (h : dvo ev x k = some r) :
    ∃ v, v.isSome = x.isSome ∧ (∀ (f : Operand → Option Value) n, (∀ u, v = some u → f (.tmp n) = v) → ∀ d, abound ev' x d = abound f (v.map fun _ => .tmp n) d) ∧ k v = some r := by
  simp only [dvo, deep_eq] at h
  split at h
  · exact ⟨none, rfl, fun f n _ d => rfl, h⟩
  · split at h
    · rename_i v hv
      exact ⟨some v, rfl, fun f n hf d => by simp [abound, he _ _ hv, hf v rfl], h⟩
    · cases h

theorem denOp_ok {P : Program} {call : CallT} {callK : CallK β} {L : Nat} {ev ev' : Operand → Option Value} {m : Mem} {op : Op} {k : Value → Mem → Option β} {r : β}
    (he : ∀ x v, ev x = some v → ev' x = some v) (hf : ∀ g, ev' (.func g) = some (.func (.func g) #[] #[])) (hc : CallSim callK call) (h : denOp P callK L ev m op k = some r) :
    ∃ v m', exA P call L ev' m op = some (v, m') ∧ k v m' = some r := by
  cases op with
  | move x =>
    obtain ⟨v, h1, h2⟩ := dv_some h
    exact ⟨v, m, by simp [exA, acallee, aop, apure, he _ _ h1], h2⟩
  | assign x =>
    obtain ⟨v, h1, h2⟩ := dv_some h
    exact ⟨v, m, by simp [exA, acallee, aop, apure, he _ _ h1], h2⟩
  | pick c a b =>
    obtain ⟨c', h1, h⟩ := dv_some h
    obtain ⟨a', h2, h⟩ := dv_some h
    obtain ⟨b', h3, h⟩ := dv_some h
    unfold oPick at h
    split at h
    · split at h
      · exact ⟨_, m, by simp [exA, acallee, aop, apure, he _ _ h1, he _ _ h2], h⟩
      · exact ⟨_, m, by simp [exA, acallee, aop, apure, he _ _ h1, he _ _ h3], h⟩
    · cases h
  | binOp op t x y yt =>
    obtain ⟨x', h1, h⟩ := dv_some h
    obtain ⟨y', h2, h⟩ := dv_some h
    have fin : ∀ v, abin P op t x' y' = some v → k v m = some r → ∃ v m', exA P call L ev' m (.binOp op t x y yt) = some (v, m') ∧ k v m' = some r := fun v h3 h4 =>
      ⟨v, m, by simp [exA, acallee, aop, apure, he _ _ h1, he _ _ h2, h3], h4⟩
    have slow : ∀ {kk : Value → Option β}, kk = (fun v => k v m) → oOpt (abin P op t x' y') kk = some r → ∃ v m', exA P call L ev' m (.binOp op t x y yt) = some (v, m') ∧ k v m' = some r := fun e h3 => by
      subst e
      obtain ⟨v, h4, h5⟩ := oOpt_some h3
      exact fin v h4 h5
    unfold denBin at h
    split at h
    · rename_i kd hk
      split at h
      · rename_i hs
        unfold oInt at h
        obtain ⟨j, a, rfl, hj, h⟩ := ik_some h
        obtain ⟨j', b, rfl, hj', h⟩ := ik_some h
        obtain ⟨v, h3, h4⟩ := oOpt_some h
        obtain rfl := kix_inj hj
        obtain rfl := kix_inj hj'
        refine fin v ?_ h4
        cases op <;> first | (simp [isSh] at hs; done) | (simp only [abin, hj]; exact h3)
      · exact slow rfl h
    · exact slow rfl h
  | unOp op t x =>
    obtain ⟨x', h1, h⟩ := dv_some h
    obtain ⟨v, h2, h⟩ := oOpt_some h
    exact ⟨v, m, by simp [exA, acallee, aop, apure, he _ _ h1, h2], h⟩
  | convert s d x =>
    obtain ⟨x', h1, h⟩ := dv_some h
    have fin : ∀ v, aconv P s d x' = some v → k v m = some r → ∃ v m', exA P call L ev' m (.convert s d x) = some (v, m') ∧ k v m' = some r := fun v h3 h4 =>
      ⟨v, m, by simp [exA, acallee, aop, apure, he _ _ h1, h3], h4⟩
    split at h
    · rename_i ds hs
      split at h
      · rename_i kd hd
        unfold oCv at h
        split at h
        · obtain ⟨v, h2, h3⟩ := oOpt_some h
          exact fin v (by simp only [aconv, hs, hd]; exact h2) h3
        · cases h
      · obtain ⟨v, h2, h3⟩ := oOpt_some h
        exact fin v h2 h3
    · cases h
  | extract x i =>
    obtain ⟨x', h1, h⟩ := dv_some h
    obtain ⟨v, h2, h⟩ := oOpt_some h
    exact ⟨v, m, by simp [exA, acallee, aop, apure, he _ _ h1, h2], h⟩
  | nilCheck x =>
    obtain ⟨x', h1, h⟩ := dv_some h
    obtain ⟨v, h2, h⟩ := oOpt_some h
    exact ⟨v, m, by simp [exA, acallee, aop, apure, he _ _ h1, h2], h⟩
  | fieldAddr s x f =>
    obtain ⟨x', h1, h⟩ := dv_some h
    split at h
    · rename_i fields hs
      split at h
      · rename_i fd hfd
        split at h
        · rename_i n hn
          obtain ⟨v, h2, h⟩ := oOpt_some h
          refine ⟨v, m, ?_, h⟩
          have : afield P s x' f = some v := by
            unfold fa at h2
            split at h2
            · simp only [afield, hs, hfd, hn]; exact h2
            · cases h2
          simp [exA, acallee, aop, apure, he _ _ h1, this]
        · cases h
      · cases h
    · cases h
  | field t x f =>
    obtain ⟨x', h1, h⟩ := dv_some h
    obtain ⟨v, h2, h⟩ := oOpt_some h
    exact ⟨v, m, by simp [exA, acallee, aop, apure, he _ _ h1, h2], h⟩
  | indexAddr t x i =>
    obtain ⟨x', h1, h⟩ := dv_some h
    obtain ⟨i', h1', h⟩ := dv_some h
    have fin : ∀ v, aindexAddr P t x' i' = some v → k v m = some r → ∃ v m', exA P call L ev' m (.indexAddr t x i) = some (v, m') ∧ k v m' = some r := fun v h3 h4 =>
      ⟨v, m, by simp [exA, acallee, aop, apure, he _ _ h1, he _ _ h1', h3], h4⟩
    split at h
    · rename_i elem ht
      split at h
      · rename_i s hs
        obtain ⟨v, h2, h⟩ := oOpt_some h
        refine fin v ?_ h
        unfold ia at h2
        split at h2
        · split at h2
          · cases h2
          · split at h2
            · split at h2
              · rename_i hb
                simp only [aindexAddr, ht, hb, hs]; exact h2
              · cases h2
            · cases h2
        · cases h2
      · cases h
    · rename_i len elem ht
      split at h
      · rename_i s hs
        obtain ⟨v, h2, h⟩ := oOpt_some h
        refine fin v ?_ h
        unfold iaA at h2
        split at h2
        · split at h2
          · cases h2
          · split at h2
            · split at h2
              · rename_i hb
                simp only [aindexAddr, ht, hb, hs]; exact h2
              · cases h2
            · cases h2
        · cases h2
      · cases h
    · cases h
  | index t x i =>
    obtain ⟨x', h1, h⟩ := dv_some h
    obtain ⟨i', h1', h⟩ := dv_some h
    obtain ⟨v, h2, h⟩ := oOpt_some h
    exact ⟨v, m, by simp [exA, acallee, aop, apure, he _ _ h1, he _ _ h1', h2], h⟩
  | slice t x lo hi mx =>
    obtain ⟨x', h1, h⟩ := dv_some h
    obtain ⟨vl, e1, g1, h⟩ := abound_tri ev' he h
    obtain ⟨vh, e2, g2, h⟩ := abound_tri ev' he h
    obtain ⟨vm, e3, g3, h⟩ := abound_tri ev' he h
    obtain ⟨v, h2, h⟩ := oOpt_some h
    rw [sl_eq P (g1 (tri vl vh vm) 0 fun _ _ => rfl) (g2 (tri vl vh vm) 1 fun _ _ => rfl) (g3 (tri vl vh vm) 2 fun _ _ => rfl) e1 e2 e3] at h2
    exact ⟨v, m, by simp [exA, acallee, aop, apure, he _ _ h1, h2], h⟩
  | makeFunc fn first cs =>
    simp only [denOp] at h
    split at h
    · split at h
      · rename_i f hfirst
        obtain ⟨vs, h1, h⟩ := dvs_some h
        exact ⟨_, m, by simp [exA, acallee, aop, apure, hfirst, evL_mono he _ _ h1], h⟩
      · cases h
    · cases h
  | makeInterface t x =>
    obtain ⟨x', h1, h⟩ := dv_some h
    obtain ⟨v, h2, h⟩ := oOpt_some h
    exact ⟨v, m, by simp [exA, acallee, aop, apure, he _ _ h1, h2], h⟩
  | build t parts =>
    obtain ⟨ps, h1, h⟩ := dps_some h
    obtain ⟨v, h2, h⟩ := oOpt_some h
    refine ⟨v, m, ?_, h⟩
    have : abuild P ev' t parts.toList = some v := by
      rw [← h2]
      simp only [abuild, bu, evP_mono he _ _ h1]
      rfl
    simp [exA, acallee, aop, apure, this]
  | typeAssert x xt t ok =>
    obtain ⟨x', h1, h⟩ := dv_some h
    obtain ⟨v, h2, h⟩ := oOpt_some h
    exact ⟨v, m, by simp [exA, acallee, aop, apure, he _ _ h1, h2], h⟩
  | alloc t =>
    simp only [denOp] at h
    split at h
    · rename_i cs hcs
      obtain ⟨v, m', h2, h⟩ := oRes_some h
      exact ⟨v, m', by simp [exA, acallee, aop, aalloc, hcs, h2], h⟩
    · cases h
  | box t x =>
    obtain ⟨x', h1, h⟩ := dv_some h
    obtain ⟨v, m', h2, h⟩ := oRes_some h
    exact ⟨v, m', by simp [exA, acallee, aop, he _ _ h1, h2], h⟩
  | buildSlice t len parts =>
    obtain ⟨ps, h1, h⟩ := dps_some h
    obtain ⟨v, m', h2, h⟩ := oRes_some h
    refine ⟨v, m', ?_, h⟩
    have : abuildSlice P ev' m t len parts.toList = some (v, m') := by
      rw [← h2]
      simp only [abuildSlice, bs, evP_mono he _ _ h1]
      rfl
    simp [exA, acallee, aop, this]
  | makeSlice t l c =>
    obtain ⟨l', h1, h⟩ := dv_some h
    obtain ⟨c', h1', h⟩ := dv_some h
    obtain ⟨v, m', h2, h⟩ := oRes_some h
    exact ⟨v, m', by simp [exA, acallee, aop, he _ _ h1, he _ _ h1', h2], h⟩
  | load t x =>
    obtain ⟨x', h1, h⟩ := dv_some h
    have fin : ∀ v, aload P m t x' = some v → k v m = some r → ∃ v m', exA P call L ev' m (.load t x) = some (v, m') ∧ k v m' = some r := fun v h3 h4 =>
      ⟨v, m, by simp [exA, acallee, aop, he _ _ h1, h3], h4⟩
    split at h
    · rename_i ht
      obtain ⟨v, h2, h⟩ := oOpt_some h
      refine fin v ?_ h
      unfold ld1 at h2
      split at h2
      · simp only [aload, ht]; exact h2
      · cases h2
    · rename_i ht
      split at h
      · rename_i s hs
        obtain ⟨v, h2, h⟩ := oOpt_some h
        refine fin v ?_ h
        unfold ldN at h2
        split at h2
        · simp only [aload, ht, hs]; exact h2
        · cases h2
      · cases h
    · cases h
  | store t x y =>
    obtain ⟨x', h1, h⟩ := dv_some h
    obtain ⟨y', h1', h⟩ := dv_some h
    split at h
    · rename_i s hs
      obtain ⟨v, m', h2, h⟩ := oRes_some h
      refine ⟨v, m', ?_, h⟩
      have : astore P L m t x' y' = some (v, m') := by
        unfold st1 at h2
        split at h2
        · simp only [astore, hs]; exact h2
        · cases h2
      simp [exA, acallee, aop, he _ _ h1, he _ _ h1', this]
    · cases h
  | call c =>
    simp only [denOp] at h
    split at h
    · rename_i b hb
      obtain ⟨vs, h1, h⟩ := dvs_some h
      have h1' := evL_mono he _ _ h1
      have slow : ∀ {v}, abuiltin P b c.argTypes vs = some v → b ≠ .append → b ≠ .copy → b ≠ .clear → k v m = some r → ∃ v m', exA P call L ev' m (.call c) = some (v, m') ∧ k v m' = some r := fun {v} h3 n1 n2 n3 h4 => by
        refine ⟨v, m, ?_, h4⟩
        cases b <;> first | (simp [abuiltin] at h3; done) | (simp [exA, acallee, aop, apure, hb, h1', h3]; done) | contradiction
      split at h
      · split at h
        · split at h
          · split at h
            · rename_i hts _ hbt
              obtain ⟨v, m', h2, h⟩ := oRes_some h
              exact ⟨v, m', by simp [exA, acallee, aop, hb, h1', hts, hbt, h2], h⟩
            · cases h
          · cases h
        · cases h
      · split at h
        · split at h
          · rename_i hts
            obtain ⟨v, m', h2, h⟩ := oRes_some h
            exact ⟨v, m', by simp only [exA, acallee, aop, hb, h1', hts, h2], h⟩
          · cases h
        · cases h
      · split at h
        · split at h
          · rename_i hts
            obtain ⟨v, m', h2, h⟩ := oRes_some h
            exact ⟨v, m', by simp only [exA, acallee, aop, hb, h1', hts, h2], h⟩
          · cases h
        · cases h
      · split at h
        · split at h
          · rename_i t hts
            split at h
            · rename_i e hu
              obtain ⟨v, h2, h⟩ := oOpt_some h
              refine slow (v := v) ?_ (by decide) (by decide) (by decide) h
              unfold ln at h2
              split at h2
              · simp only [abuiltin, hts, alen, hu]; exact h2
              · cases h2
            · obtain ⟨v, h2, h⟩ := oOpt_some h
              exact slow (v := v) (by simp only [abuiltin, hts]; exact h2) (by decide) (by decide) (by decide) h
          · cases h
        · cases h
      · rename_i n1 n2 n3 n4
        obtain ⟨v, h2, h⟩ := oOpt_some h
        exact slow h2 (fun e => n1 e) (fun e => n2 e) (fun e => n3 e) h
    · rename_i f hf'
      obtain ⟨vs, h1, h⟩ := dvs_some h
      have h1' := evL_mono he _ _ h1
      split at h
      · rename_i g
        obtain ⟨v, m', h2, h3⟩ := hc _ _ _ _ _ _ h
        exact ⟨v, m', by simp [exA, acallee, hf', hf, atarget, h1', h2], h3⟩
      · obtain ⟨vf, h2, h⟩ := dv_some h
        unfold oCallV at h
        split at h
        · rename_i g cs hg
          obtain ⟨v, m', h3, h4⟩ := hc _ _ _ _ _ _ h
          exact ⟨v, m', by simp [exA, acallee, hf', he _ _ h2, hg, h1', h3], h4⟩
        · cases h
    · cases h
  | _ => cases h
end
end Go.Vit
