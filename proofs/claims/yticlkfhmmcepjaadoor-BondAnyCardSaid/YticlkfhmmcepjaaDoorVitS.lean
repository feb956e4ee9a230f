/- The shallow form: regions, code, functions; and that it reckons what the evaluator does. -/
import Derived.Test.YticlkfhmmcepjaaDoorVitR
set_option linter.unusedSimpArgs false
set_option linter.unusedVariables false
namespace Go.Vit
open Go

abbrev Frm := List (Nat × Value)
abbrev KN (β : Type) := Frm → Mem → Option β
def memN (l : List Nat) (t : Nat) : Bool := match l with
  | [] => false
  | s :: l => match Nat.beq s t with
    | true => true
    | false => memN l t
def dsts : List (Oper × Bool) → List Nat
  | [] => []
  | (o, _) :: l => match o.dst with
    | some d => d :: dsts l
    | none => dsts l
def dsts0 : List Oper → List Nat
  | [] => []
  | o :: l => match o.dst with
    | some d => d :: dsts0 l
    | none => dsts0 l
/-- What a code assigns. -/
def asg : Code → List Nat
  | .region _ ops _ => dsts0 ops.toList
  | .seq a b => asg a ++ asg b
  | .cond _ a b => asg a ++ asg b
  | .block _ b => asg b
  | .loop b => asg b
  | _ => []
def hasX (id : Nat) : Code → Nat
  | .seq a b => Nat.add (hasX id a) (hasX id b)
  | .cond _ a b => Nat.add (hasX id a) (hasX id b)
  | .block _ b => hasX id b
  | .loop b => hasX id b
  | .exit i => match Nat.beq i id with
    | true => 1
    | false => 0
  | _ => 0
def falls : Code → Bool
  | .seq a b => match falls a with
    | true => falls b
    | false => false
  | .cond _ a b => match falls a with
    | true => true
    | false => falls b
  | .block id b => match falls b with
    | true => true
    | false => Nat.ble 1 (hasX id b)
  | .loop _ => false
  | .exit _ => false
  | .ret => false
  | _ => true
def multi (id : Nat) (b : Code) : Bool := match falls b with
  | true => Nat.ble 1 (hasX id b)
  | false => Nat.ble 2 (hasX id b)
def both (a b : Code) : Bool := match falls a with
  | true => falls b
  | false => false
def rmv (ds : List Nat) : Frm → Frm
  | [] => []
  | (t, v) :: fr => match memN ds t with
    | true => rmv ds fr
    | false => (t, v) :: rmv ds fr
def sameG (a b : Option (Nat × Bool)) : Bool := match a, b with
  | none, none => true
  | some (i, true), some (j, true) => Nat.beq i j
  | some (i, false), some (j, false) => Nat.beq i j
  | _, _ => false
def segs : List (Oper × Bool) → List (Option (Nat × Bool) × List (Oper × Bool))
  | [] => []
  | x :: l => match segs l with
    | [] => [(x.1.guard, [x])]
    | (g, os) :: rest => match sameG g x.1.guard with
      | true => (g, x :: os) :: rest
      | false => (x.1.guard, [x]) :: (g, os) :: rest
/-- Which slots a join carries: by a place's number and a further one. -/
abbrev Kat := List (Nat × (Nat × List Nat))
def katOf : Kat → Nat → Nat → List Nat
  | [], _, _ => []
  | (p, (i, l)) :: r, q, j => match Nat.beq p q with
    | true => match Nat.beq i j with
      | true => l
      | false => katOf r q j
    | false => katOf r q j

section
variable {β : Type}
def bindK : List Nat → List Value → Frm → (Frm → Option β) → Option β
  | [], _, fr, k => deep c40 <| k fr
  | s :: ss, vs, fr, k => deep c40 <| uc vs fun a vs => bindK ss vs ((s, a) :: fr) k
def packK : List Nat → Frm → (List Value → Option β) → Option β
  | [], _, k => deep c40 <| k []
  | s :: ss, fr, k => deep c40 <| match look fr s with
    | some v => packK ss fr fun vs => k (v :: vs)
    | none => none
def bindA : Nat → Nat → List Value → Frm → (Frm → Option β) → Option β
  | _, 0, l, fr, k => deep c40 <| un0 l (k fr)
  | s, n + 1, l, fr, k => deep c40 <| uc l fun a l => bindA (Nat.succ s) n l ((s, a) :: fr) k
def undefK (N : Nat) : List (Oper × Bool) → Frm → (Frm → Option β) → Option β
  | [], fr, k => deep c40 <| k fr
  | (o, _) :: l, fr, k => deep c40 <| match o.dst with
    | none => undefK N l fr k
    | some d => match Nat.blt d N with
      | true => undefK N l ((d, Go.undef) :: fr) k
      | false => none
def denRun (P : Program) (G N : Nat) (call : CallK β) (L : Nat) : List (Oper × Bool) → Frm → Mem → KN β → Option β
  | [], fr, m, k => k fr m
  | (o, e) :: l, fr, m, k => denOp P call (match e with | true => L | false => m.next) (aeval G (look fr)) m o.op fun v m => match o.dst with
    | none => denRun P G N call L l fr m k
    | some d => match Nat.blt d N with
      | true => denRun P G N call L l ((d, v) :: fr) m k
      | false => none
def guardK (want : Bool) (v : Value) (a b : Option β) : Option β := deep c40 <| match want with
  | true => oGT v a b
  | false => oGF v a b
def denSegs (P : Program) (G N : Nat) (call : CallK β) (ka : Kat) (L : Nat) (ops : List Oper) (p : Nat) : List (Option (Nat × Bool) × List (Oper × Bool)) → Nat → Frm → Mem → KN β → Option β
  | [], _, fr, m, k => k fr m
  | (g, os) :: rest, i, fr, m, k => match g with
    | none => denRun P G N call L os fr m fun fr m => denSegs P G N call ka L ops p rest (Nat.succ i) fr m k
    | some (j, want) => match lget ops j with
      | none => none
      | some oj => match oj.dst with
        | none => none
        | some d => match memN (dsts os) d with
          | true => none
          | false => match look fr d with
            | none => none
            | some vb => join (fun vs m => bindK (katOf ka p i) vs (rmv (dsts os) fr) fun fr => denSegs P G N call ka L ops p rest (Nat.succ i) fr m k)
                fun jn => guardK want vb (denRun P G N call L os fr m fun fr m => packK (katOf ka p i) fr fun vs => jn vs m) (undefK N os fr fun fr => packK (katOf ka p i) fr fun vs => jn vs m)
def denReg (P : Program) (G N : Nat) (call : CallK β) (ka : Kat) (L : Nat) (ops : List Oper) (p : Nat) (draw : Bool) (fr : Frm) (m : Mem) (k : KN β) : Option β := match draw with
  | false => denSegs P G N call ka L ops p (segs (pairT ops)) 0 fr m k
  | true => match drawOk ops with
    | true => denSegs P G N call ka L ops p (segs (flags ops)) 0 fr m k
    | false => none
def lookK : List (Nat × KN β) → Nat → Option (KN β)
  | [], _ => none
  | (i, k) :: l, id => match Nat.beq i id with
    | true => some k
    | false => lookK l id
def den (P : Program) (G N : Nat) (call : CallK β) (ka : Kat) (lf L : Nat) : Code → Nat → Frm → Mem → KN β → List (Nat × KN β) → KN β → Option β
  | .skip, _, fr, m, k, _, _ => k fr m
  | .region _ ops draw, p, fr, m, k, _, _ => denReg P G N call ka L ops.toList p draw fr m k
  | .seq a b, p, fr, m, k, ks, kr => den P G N call ka lf L a (Nat.add (Nat.mul 2 p) 1) fr m (fun fr m => den P G N call ka lf L b (Nat.add (Nat.mul 2 p) 2) fr m k ks kr) ks kr
  | .cond c a b, p, fr, m, k, ks, kr => match aeval G (look fr) c with
    | none => none
    | some v => match both a b with
      | true => join (fun vs m => bindK (katOf ka p 0) vs (rmv (asg a ++ asg b) fr) fun fr => k fr m)
          fun jn => oIf v (den P G N call ka lf L a (Nat.add (Nat.mul 2 p) 1) fr m (fun fr m => packK (katOf ka p 0) fr fun vs => jn vs m) ks kr)
            (den P G N call ka lf L b (Nat.add (Nat.mul 2 p) 2) fr m (fun fr m => packK (katOf ka p 0) fr fun vs => jn vs m) ks kr)
      | false => oIf v (den P G N call ka lf L a (Nat.add (Nat.mul 2 p) 1) fr m k ks kr) (den P G N call ka lf L b (Nat.add (Nat.mul 2 p) 2) fr m k ks kr)
  | .block id body, p, fr, m, k, ks, kr => match multi id body with
    | true => join (fun vs m => bindK (katOf ka p 0) vs (rmv (asg body) fr) fun fr => k fr m)
        fun jn => den P G N call ka lf L body (Nat.add (Nat.mul 2 p) 1) fr m (fun fr m => packK (katOf ka p 0) fr fun vs => jn vs m) ((id, fun fr m => packK (katOf ka p 0) fr fun vs => jn vs m) :: ks) kr
    | false => den P G N call ka lf L body (Nat.add (Nat.mul 2 p) 1) fr m k ((id, k) :: ks) kr
  | .loop body, p, fr, m, _, ks, kr => packK (katOf ka p 0) fr fun vs =>
      loopS (fun self vs m => bindK (katOf ka p 0) vs (rmv (asg body) fr) fun fr => den P G N call ka lf L body (Nat.add (Nat.mul 2 p) 1) fr m (fun fr m => packK (katOf ka p 0) fr fun vs => self vs m) ks kr) lf vs m
  | .exit id, _, fr, m, _, ks, _ => match lookK ks id with
    | some k => k fr m
    | none => none
  | .ret, _, fr, m, _, _, kr => kr fr m
  | .label _, _, fr, m, k, _, _ => k fr m
  | _, _, _, _, _, _, _ => none
def denLd (P : Program) (m : Mem) (t : TypeId) (x : Value) (k : Value → Option β) : Option β := deep c40 <| match tagg P t with
  | some false => oOpt (ld1 m x) k
  | some true => match tsize P t with
    | some s => oOpt (ldN m s x) k
    | none => none
  | none => none
def denRes (P : Program) : List ResultVar → Frm → Mem → (List Value → Option β) → Option β
  | [], _, _, k => deep c40 <| k []
  | r :: l, fr, m, k => deep c40 <| match r with
    | .tmp t => match look fr t with
      | some v => denRes P l fr m fun vs => k (v :: vs)
      | none => none
    | .cell a t => match look fr a with
      | some x => denLd P m t x fun v => denRes P l fr m fun vs => k (v :: vs)
      | none => none
def denF (P : Program) (G : Nat) (ka : Kat) (lf : Nat) (call : CallK β) : CallK β := fun f args L m k => match P.funcs[f]? with
  | none => none
  | some fn => match fn.body with
    | none => none
    | some c => match Nat.ble (Nat.add fn.params.size fn.nfree) fn.ntmps with
      | false => none
      | true => bindA 0 (Nat.add fn.params.size fn.nfree) args [] fun fr => den P G fn.ntmps call ka lf L c 1 fr m (fun fr m => denRes P fn.results.toList fr m fun vs => k (oneOr vs) m) [] (fun fr m => denRes P fn.results.toList fr m fun vs => k (oneOr vs) m)

/-! ### It reckons what the evaluator does -/
structure Sub (N : Nat) (fr : Frm) (fr1 : Fr) : Prop where
  len : fr1.ps.length = N
  get : ∀ t v, look fr t = some v → t < N ∧ lget fr1.ps t = some v
def Kept (ds : List Nat) (fr1 fr2 : Fr) : Prop := ∀ t, memN ds t = false → lget fr2.ps t = lget fr1.ps t

theorem pos_range : ∀ (n s t : Nat), s ≤ t → t < s + n → pos (List.range' s n) t = some (t - s)
  | 0, s, t, h1, h2 => by omega
  | n + 1, s, t, h1, h2 => by
    rw [range_cons]
    simp only [pos]
    by_cases h : s = t
    · subst h
      have hb : Nat.beq s s = true := Nat.beq_refl s
      rw [hb]
      simp
    · have hb : Nat.beq s t = false := by
        cases hh : Nat.beq s t with
        | false => rfl
        | true => exact absurd (Nat.eq_of_beq_eq_true hh) h
      rw [hb]
      simp only []
      rw [pos_range n (s + 1) t (by omega) (by omega)]
      simp only [Option.some.injEq]
      omega
theorem pos_all {N t : Nat} (h : t < N) : pos (List.range N) t = some t := by
  rw [List.range_eq_range', pos_range N 0 t (by omega) (by omega)]
  rfl
theorem Sub.fget {N : Nat} {fr : Frm} {fr1 : Fr} (h : Sub N fr fr1) {t : Nat} {v : Value} (ht : look fr t = some v) : Vit.fget (List.range N) fr1 t = some v := by
  obtain ⟨h1, h2⟩ := h.get t v ht
  unfold Vit.fget
  rw [pos_all h1]
  exact h2
theorem Sub.eval {N G : Nat} {fr : Frm} {fr1 : Fr} (h : Sub N fr fr1) (x : Operand) (v : Value) (hx : aeval G (look fr) x = some v) : aeval G (Vit.fget (List.range N) fr1) x = some v := by
  cases x with
  | tmp t => exact h.fget hx
  | _ => exact hx
/-- A slot set. -/
def put1 (fr1 : Fr) (d : Nat) (v : Value) : Fr := ⟨fr1.ps.set d v, fr1.ts⟩
theorem fsetK_all {γ : Type} {N d : Nat} (h : Nat.blt d N = true) (fr1 : Fr) (v : Value) (k : Fr → Option γ) : fsetK N (List.range N) fr1 d v k = k (put1 fr1 d v) := by
  have hd : d < N := by simpa using h
  unfold fsetK
  rw [h, pos_all hd]
  simp only [lsetK_eq]
  rfl
theorem Sub.put {N : Nat} {fr : Frm} {fr1 : Fr} (h : Sub N fr fr1) {d : Nat} (v : Value) (hd : Nat.blt d N = true) : Sub N ((d, v) :: fr) (put1 fr1 d v) := by
  have hd : d < N := by simpa using hd
  refine ⟨by simp [put1, h.len], fun t u hu => ?_⟩
  simp only [look] at hu
  split at hu
  · rename_i hb
    obtain rfl := Nat.eq_of_beq_eq_true hb
    cases hu
    exact ⟨hd, by simp [put1, lget_eq, List.getElem?_set, h.len, hd]⟩
  · rename_i hb
    obtain ⟨g1, g2⟩ := h.get t u hu
    have hne : d ≠ t := fun e => by subst e; rw [Nat.beq_refl] at hb; cases hb
    refine ⟨g1, ?_⟩
    rw [lget_eq] at g2 ⊢
    simp only [put1, List.getElem?_set, hne, if_false]
    exact g2
theorem Kept.refl (ds : List Nat) (fr1 : Fr) : Kept ds fr1 fr1 := fun _ _ => rfl
theorem memN_append : ∀ (a b : List Nat) (t : Nat), memN (a ++ b) t = false → memN a t = false ∧ memN b t = false
  | [], b, t, h => ⟨rfl, h⟩
  | s :: a, b, t, h => by
    simp only [List.cons_append, memN] at h ⊢
    split at h
    · cases h
    · rename_i hb
      simpa [hb] using memN_append a b t h
theorem Kept.trans {a b : List Nat} {fr1 fr2 fr3 : Fr} (h : Kept a fr1 fr2) (h' : Kept b fr2 fr3) : Kept (a ++ b) fr1 fr3 := fun t ht => by
  obtain ⟨h1, h2⟩ := memN_append a b t ht
  exact (h' t h2).trans (h t h1)
theorem Kept.left {a b : List Nat} {fr1 fr2 : Fr} (h : Kept a fr1 fr2) : Kept (a ++ b) fr1 fr2 := fun t ht => h t (memN_append a b t ht).1
theorem Kept.right {a b : List Nat} {fr1 fr2 : Fr} (h : Kept b fr1 fr2) : Kept (a ++ b) fr1 fr2 := fun t ht => h t (memN_append a b t ht).2
theorem Kept.put (fr1 : Fr) (d : Nat) (v : Value) : Kept [d] fr1 (put1 fr1 d v) := fun t ht => by
  simp only [memN] at ht
  split at ht
  · cases ht
  · rename_i hb
    have hne : d ≠ t := fun e => by subst e; rw [Nat.beq_refl] at hb; cases hb
    rw [lget_eq, lget_eq]
    simp only [put1, List.getElem?_set, hne, if_false]
theorem look_rmv {ds : List Nat} {t : Nat} {v : Value} : ∀ {fr : Frm}, look (rmv ds fr) t = some v → memN ds t = false ∧ look fr t = some v
  | [], h => by cases h
  | (s, u) :: fr, h => by
    simp only [rmv] at h
    split at h
    · rename_i hs
      obtain ⟨h1, h2⟩ := look_rmv h
      refine ⟨h1, ?_⟩
      simp only [look]
      split
      · rename_i hb
        obtain rfl := Nat.eq_of_beq_eq_true hb
        rw [hs] at h1; cases h1
      · exact h2
    · rename_i hs
      simp only [look] at h ⊢
      split at h
      · rename_i hb
        obtain rfl := Nat.eq_of_beq_eq_true hb
        exact ⟨hs, h⟩
      · exact look_rmv h
theorem Sub.rmv {N : Nat} {fr : Frm} {fr1 fr2 : Fr} (h : Sub N fr fr1) {ds : List Nat} (hk : Kept ds fr1 fr2) (hl : fr2.ps.length = N) : Sub N (rmv ds fr) fr2 := by
  refine ⟨hl, fun t v hv => ?_⟩
  obtain ⟨h1, h2⟩ := look_rmv hv
  obtain ⟨h3, h4⟩ := h.get t v h2
  exact ⟨h3, (hk t h1).trans h4⟩
theorem uc_some {l : List Value} {k : Value → List Value → Option β} {r : β} (h : uc l k = some r) : ∃ a l', l = a :: l' ∧ k a l' = some r := by
  unfold uc at h
  split at h
  · rename_i a l'; exact ⟨a, l', rfl, h⟩
  · cases h
theorem Sub.cons {N : Nat} {fr : Frm} {fr1 : Fr} (h : Sub N fr fr1) {s : Nat} {v : Value} (hs : s < N ∧ lget fr1.ps s = some v) : Sub N ((s, v) :: fr) fr1 := by
  refine ⟨h.len, fun t u hu => ?_⟩
  simp only [look] at hu
  split at hu
  · rename_i hb
    obtain rfl := Nat.eq_of_beq_eq_true hb
    cases hu
    exact hs
  · exact h.get t u hu
/-- What is packed is unpacked. -/
theorem pack_bind {N : Nat} {fr1 : Fr} {r : β} : ∀ (K : List Nat) {fr fr0 : Frm} {k : Frm → Option β}, Sub N fr fr1 → Sub N fr0 fr1 → packK K fr (fun vs => bindK K vs fr0 k) = some r → ∃ fr', Sub N fr' fr1 ∧ k fr' = some r
  | [], fr, fr0, k, h1, h2, h => ⟨fr0, h2, h⟩
  | s :: ss, fr, fr0, k, h1, h2, h => by
    simp only [packK, deep_eq] at h
    split at h
    · rename_i v hv
      simp only [bindK, deep_eq, uc] at h
      exact pack_bind ss h1 (h2.cons (h1.get s v hv)) h
    · cases h

section
variable {P : Program} {G N L lf : Nat} {callK : CallK β} {call : CallT} {ka : Kat}

/-- A run of operations that are all wanted. -/
theorem denRun_ok (hc : CallSim callK call) {ops : List Oper} {r : β} {k : KN β} {W : Fr → Prop} : ∀ (l : List (Oper × Bool)) (fr : Frm) (m : Mem) (fr1 : Fr),
    (∀ x, x ∈ l → ∀ fr2, W fr2 → wantA (List.range N) ops fr2 x.1 = some true) → (∀ x, x ∈ l → ∀ d, x.1.dst = some d → ∀ v fr2, W fr2 → W (put1 fr2 d v)) → W fr1 → Sub N fr fr1 →
    denRun P G N callK L l fr m k = some r → ∃ fr' fr1' m', (∀ rest, evOps P G N (List.range N) call ops L (l ++ rest) fr1 m = evOps P G N (List.range N) call ops L rest fr1' m') ∧ Sub N fr' fr1' ∧ Kept (dsts l) fr1 fr1' ∧ k fr' m' = some r
  | [], fr, m, fr1, _, _, _, hs, h => ⟨fr, fr1, m, fun rest => rfl, hs, Kept.refl _ _, h⟩
  | (o, e) :: l, fr, m, fr1, hw, hp, hW, hs, h => by
    simp only [denRun] at h
    obtain ⟨v, m1, hx, h⟩ := denOp_ok (ev' := aeval G (fget (List.range N) fr1)) (fun x v hx => hs.eval x v hx) (fun g => rfl) hc h
    have hwant := hw (o, e) (List.mem_cons_self ..) fr1 hW
    split at h
    · rename_i hd
      obtain ⟨fr', fr1', m', h1, h2, h3, h4⟩ := denRun_ok hc l fr m1 fr1 (fun x hx => hw x (List.mem_cons_of_mem _ hx)) (fun x hx => hp x (List.mem_cons_of_mem _ hx)) hW hs h
      refine ⟨fr', fr1', m', fun rest => ?_, h2, ?_, h4⟩
      · cases e <;> simp only [] at hx <;> simp only [List.cons_append, evOps, hwant, hx, hd] <;> exact h1 rest
      · simp only [dsts, hd]; exact h3
    · rename_i d hd
      split at h
      · rename_i hdN
        obtain ⟨fr', fr1', m', h1, h2, h3, h4⟩ := denRun_ok hc l ((d, v) :: fr) m1 (put1 fr1 d v) (fun x hx => hw x (List.mem_cons_of_mem _ hx)) (fun x hx => hp x (List.mem_cons_of_mem _ hx))
          (hp (o, e) (List.mem_cons_self ..) d hd v fr1 hW) (hs.put v hdN) h
        refine ⟨fr', fr1', m', fun rest => ?_, h2, ?_, h4⟩
        · cases e <;> simp only [] at hx <;> simp only [List.cons_append, evOps, hwant, hx, hd, fsetK_all hdN] <;> exact h1 rest
        · simp only [dsts, hd]
          exact Kept.trans (a := [d]) (Kept.put _ _ _) h3
      · cases h
/-- A run of operations none of which is wanted. -/
theorem undefK_ok {ops : List Oper} {r : β} {k : Frm → Option β} {W : Fr → Prop} : ∀ (l : List (Oper × Bool)) (fr : Frm) (m : Mem) (fr1 : Fr),
    (∀ x, x ∈ l → ∀ fr2, W fr2 → wantA (List.range N) ops fr2 x.1 = some false) → (∀ x, x ∈ l → ∀ d, x.1.dst = some d → ∀ v fr2, W fr2 → W (put1 fr2 d v)) → W fr1 → Sub N fr fr1 →
    undefK N l fr k = some r → ∃ fr' fr1', (∀ rest, evOps P G N (List.range N) call ops L (l ++ rest) fr1 m = evOps P G N (List.range N) call ops L rest fr1' m) ∧ Sub N fr' fr1' ∧ Kept (dsts l) fr1 fr1' ∧ k fr' = some r
  | [], fr, m, fr1, _, _, _, hs, h => ⟨fr, fr1, fun rest => rfl, hs, Kept.refl _ _, h⟩
  | (o, e) :: l, fr, m, fr1, hw, hp, hW, hs, h => by
    simp only [undefK, deep_eq] at h
    have hwant := hw (o, e) (List.mem_cons_self ..) fr1 hW
    split at h
    · rename_i hd
      obtain ⟨fr', fr1', h1, h2, h3, h4⟩ := undefK_ok l fr m fr1 (fun x hx => hw x (List.mem_cons_of_mem _ hx)) (fun x hx => hp x (List.mem_cons_of_mem _ hx)) hW hs h
      refine ⟨fr', fr1', fun rest => ?_, h2, ?_, h4⟩
      · simp only [List.cons_append, evOps, hwant, hd]
        exact h1 rest
      · simp only [dsts, hd]; exact h3
    · rename_i d hd
      split at h
      · rename_i hdN
        obtain ⟨fr', fr1', h1, h2, h3, h4⟩ := undefK_ok l ((d, Go.undef) :: fr) m (put1 fr1 d Go.undef) (fun x hx => hw x (List.mem_cons_of_mem _ hx)) (fun x hx => hp x (List.mem_cons_of_mem _ hx))
          (hp (o, e) (List.mem_cons_self ..) d hd _ fr1 hW) (hs.put _ hdN) h
        refine ⟨fr', fr1', fun rest => ?_, h2, ?_, h4⟩
        · simp only [List.cons_append, evOps, hwant, hd, fsetK_all hdN]
          exact h1 rest
        · simp only [dsts, hd]
          exact Kept.trans (a := [d]) (Kept.put _ _ _) h3
      · cases h
end
end
end Go.Vit
