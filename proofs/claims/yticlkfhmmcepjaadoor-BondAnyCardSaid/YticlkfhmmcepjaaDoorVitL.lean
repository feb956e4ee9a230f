/- A region whose order is open: the text's order, reckoned once, tells all orders. -/
import Derived.Test.YticlkfhmmcepjaaDoorVitK
set_option linter.unusedSimpArgs false
set_option linter.unusedVariables false
namespace Go.Vit
open Go

/-- Operations that touch no memory. -/
def pureKind (op : Op) : Bool := match op with
  | .move _ | .assign _ | .pick .. | .binOp .. | .unOp .. | .convert .. | .extract .. | .nilCheck _ | .fieldAddr .. | .field .. | .indexAddr .. | .index .. | .slice .. | .makeFunc .. | .makeInterface .. | .build .. | .typeAssert .. => true
  | .call c => match c.callee with
    | .builtin .len | .builtin .min | .builtin .max => true
    | _ => false
  | _ => false
theorem exA_pure {P : Program} {call : CallT} {L : Nat} {ev : Operand → Option Value} {m : Mem} {op : Op} (h : pureKind op = true) :
    exA P call L ev m op = match apure P ev op with | some v => some (v, m) | none => none := by
  cases op <;> first | rfl | (cases h; done) | skip
  rename_i c
  obtain ⟨callee, args, tys⟩ := c
  cases callee with
  | builtin b => cases b <;> first | rfl | (cases h; done)
  | value f => cases h
  | invoke r m => cases h

/-! ### What stands before what -/
def maskOf (acc : List Nat) (o : Oper) : Nat := o.after.toList.foldl (fun s e => match Region.binds .any e with
  | true => Nat.lor s (Nat.lor (Nat.shiftLeft 1 e.on) (match lget acc e.on with
    | some k => k
    | none => 0))
  | false => s) 0
def masks : List Oper → List Nat → List Nat
  | [], acc => acc
  | o :: l, acc => masks l (acc ++ [maskOf acc o])
def bit (ms : List Nat) (i j : Nat) : Bool := match lget ms i with
  | some k => Nat.testBit k j
  | none => false

theorem maskOf_bit {acc : List Nat} {o : Oper} {j : Nat} (h : (maskOf acc o).testBit j = true) : ∃ e ∈ o.after, Region.binds .any e = true ∧ (e.on = j ∨ ∃ k, acc[e.on]? = some k ∧ k.testBit j = true) := by
  have key : ∀ (l : List Edge) (s : Nat), (l.foldl (fun s e => match Region.binds .any e with
      | true => Nat.lor s (Nat.lor (Nat.shiftLeft 1 e.on) (match lget acc e.on with | some k => k | none => 0))
      | false => s) s).testBit j = true → s.testBit j = true ∨ ∃ e ∈ l, Region.binds .any e = true ∧ (e.on = j ∨ ∃ k, acc[e.on]? = some k ∧ k.testBit j = true) := by
    intro l
    induction l with
    | nil => intro s hs; exact .inl hs
    | cons e l ih =>
      intro s hs
      simp only [List.foldl_cons] at hs
      rcases ih _ hs with h1 | ⟨e', he', h1⟩
      · cases hb : Region.binds .any e with
        | false => rw [hb] at h1; exact .inl h1
        | true =>
          rw [hb] at h1
          simp only [] at h1
          have h2 : (s ||| (1 <<< e.on ||| (match lget acc e.on with | some k => k | none => 0))).testBit j = true := h1
          rw [Nat.testBit_or, Nat.testBit_or, Bool.or_eq_true, Bool.or_eq_true] at h2
          rcases h2 with h2 | h2 | h2
          · exact .inl h2
          · refine .inr ⟨e, by simp, hb, .inl ?_⟩
            rw [Nat.testBit_shiftLeft] at h2
            simp only [Bool.and_eq_true, decide_eq_true_eq, ge_iff_le] at h2
            obtain ⟨h3, h4⟩ := h2
            have : j - e.on = 0 := by
              have h5 : (2 ^ 0).testBit (j - e.on) = true := h4
              rw [Nat.testBit_two_pow] at h5
              have := of_decide_eq_true h5
              omega
            omega
          · refine .inr ⟨e, by simp, hb, .inr ?_⟩
            rw [lget_eq] at h2
            split at h2
            · rename_i k hk; exact ⟨k, hk, h2⟩
            · simp at h2
      · exact .inr ⟨e', by simp [he'], h1⟩
  rcases key _ 0 h with h1 | ⟨e, he, h1⟩
  · simp at h1
  · exact ⟨e, by simpa using he, h1⟩

theorem masks_len : ∀ (l : List Oper) (acc : List Nat), (masks l acc).length = acc.length + l.length
  | [], acc => by simp [masks]
  | o :: l, acc => by simp [masks, masks_len l]; omega
theorem masks_get : ∀ (l : List Oper) (acc : List Nat) (i : Nat) (k : Nat), acc[i]? = some k → (masks l acc)[i]? = some k
  | [], acc, i, k, h => h
  | o :: l, acc, i, k, h => masks_get l _ i k (by rw [List.getElem?_append_left (List.getElem?_eq_some_iff.1 h).1]; exact h)
/-- Whatever holds with an operation and all that it waits for holds of all before it. -/
theorem masks_down {ops : List Oper} {D : Nat → Prop} (hD : ∀ i o, ops[i]? = some o → D i → ∀ e ∈ o.after, Region.binds .any e = true → D e.on) :
    ∀ (l : List Oper) (acc : List Nat), (∀ j, l[j]? = ops[acc.length + j]?) → (∀ i k, acc[i]? = some k → ∀ j, k.testBit j = true → D i → D j) → ∀ i k, (masks l acc)[i]? = some k → ∀ j, k.testBit j = true → D i → D j
  | [], acc, _, ha, i, k, h => ha i k h
  | o :: l, acc, hl, ha, i, k, h => by
    refine masks_down hD l (acc ++ [maskOf acc o]) (fun j => ?_) (fun i k hik j hj hDi => ?_) i k h
    · have := hl (j + 1)
      simp only [List.getElem?_cons_succ] at this
      rw [this]
      congr 1
      simp; omega
    · by_cases hlt : i < acc.length
      · rw [List.getElem?_append_left hlt] at hik
        exact ha i k hik j hj hDi
      · rw [List.getElem?_append_right (by omega)] at hik
        have hi : i = acc.length := by
          have := (List.getElem?_eq_some_iff.1 hik).1
          simp at this; omega
        subst hi
        simp at hik
        subst hik
        obtain ⟨e, he, hb, h1⟩ := maskOf_bit hj
        have ho : ops[acc.length]? = some o := by have := hl 0; simpa using this.symm
        have hDe := hD _ o ho hDi e he hb
        rcases h1 with rfl | ⟨k, hk, hkj⟩
        · exact hDe
        · exact ha _ k hk j hkj hDe
theorem bit_down {ops : List Oper} {D : Nat → Prop} (hD : ∀ i o, ops[i]? = some o → D i → ∀ e ∈ o.after, Region.binds .any e = true → D e.on) {i j : Nat} (h : bit (masks ops []) i j = true) (hi : D i) : D j := by
  unfold bit at h
  rw [lget_eq] at h
  split at h
  · rename_i k hk
    exact masks_down hD ops [] (by simp) (by simp) i k hk j h hi
  · cases h

/-! ### The look at a region -/
def looks (ops : List Oper) (o : Oper) : List Nat :=
  (o.op.operands.toList.filterMap fun | .tmp t => some t | _ => none) ++ (match o.guard with
    | some (g, _) => match lget ops g with
      | some og => og.dst.toList
      | none => []
    | none => [])
def memb : List Nat → Nat → Bool
  | [], _ => false
  | a :: l, t => match Nat.beq a t with
    | true => true
    | false => memb l t
theorem memb_iff : ∀ (l : List Nat) (t : Nat), memb l t = true ↔ t ∈ l
  | [], t => by simp [memb]
  | a :: l, t => by
    simp only [memb]
    split
    · rename_i h; rw [Nat.eq_of_beq_eq_true h]; simp
    · rename_i h
      have : t ≠ a := fun e => Nat.ne_of_beq_eq_false h e.symm
      rw [memb_iff l t]; simp [this]
/-- Two operations meet at a slot that one of them writes. -/
def clash (ops : List Oper) (x y : Oper) : Bool :=
  (match x.dst with
    | some d => memb (looks ops y) d || (match y.dst with
      | some d' => Nat.beq d d'
      | none => false)
    | none => false) ||
  (match y.dst with
    | some d => memb (looks ops x) d
    | none => false)
def edgesOk (i : Nat) : List Edge → Bool
  | [] => true
  | e :: l => (match Region.binds .any e with
    | true => Nat.blt e.on i
    | false => true) && edgesOk i l
/-- One operation against those before it. -/
def rowOk (ops : List Oper) (k : Nat) (o : Oper) (f : Bool) : List (Oper × Bool) → Nat → Bool
  | [], _ => true
  | (x, g) :: l, i => (match clash ops x o || ((f || g) && (!(pureKind x.op) && !(pureKind o.op))) with
    | true => Nat.testBit k i
    | false => true) && rowOk ops k o f l (Nat.succ i)
def allRows (ops : List Oper) (ms : List Nat) (all : List (Oper × Bool)) : List (Oper × Bool) → Nat → Bool
  | [], _ => true
  | (o, f) :: l, j => (match lget ms j with
    | some k => rowOk ops k o f (all.take j) 0
    | none => false) && (edgesOk j o.after.toList && allRows ops ms all l (Nat.succ j))
/-- Flags: an operation on memory that stands, before or behind, in a fixed order to all others on memory. -/
def flagOne (ms : List Nat) (k i : Nat) : List Oper → Nat → Bool
  | [], _ => true
  | x :: l, j => (match pureKind x.op with
    | true => true
    | false => match Nat.beq i j with
      | true => true
      | false => match Nat.blt j i with
        | true => Nat.testBit k j
        | false => bit ms j i) && flagOne ms k i l (Nat.succ j)
def flagsGo (ops : List Oper) (ms : List Nat) : List Oper → Nat → List (Oper × Bool)
  | [], _ => []
  | o :: l, i => (o, match pureKind o.op with
    | true => true
    | false => match lget ms i with
      | some k => flagOne ms k i ops 0
      | none => false) :: flagsGo ops ms l (Nat.succ i)
def flags (ops : List Oper) : List (Oper × Bool) := flagsGo ops (masks ops []) ops 0
def drawOk (ops : List Oper) : Bool := allRows ops (masks ops []) (flags ops) (flags ops) 0

theorem flagsGo_fst (ops : List Oper) (ms : List Nat) : ∀ (l : List Oper) (i : Nat), (flagsGo ops ms l i).map (·.1) = l
  | [], _ => rfl
  | o :: l, i => by simp [flagsGo, flagsGo_fst ops ms l]
theorem flags_fst (ops : List Oper) : (flags ops).map (·.1) = ops := flagsGo_fst _ _ _ _

theorem edgesOk_iff {i : Nat} : ∀ {l : List Edge}, edgesOk i l = true → ∀ e ∈ l, Region.binds .any e = true → e.on < i
  | [], _, e, he, _ => by cases he
  | x :: l, h, e, he, hb => by
    simp only [edgesOk, Bool.and_eq_true] at h
    rcases List.mem_cons.1 he with rfl | he
    · have := h.1; rw [hb] at this; simpa using this
    · exact edgesOk_iff h.2 e he hb
theorem rowOk_iff {ops : List Oper} {k : Nat} {o : Oper} {f : Bool} : ∀ {l : List (Oper × Bool)} {b : Nat}, rowOk ops k o f l b = true → ∀ i x g, l[i]? = some (x, g) →
    (clash ops x o || ((f || g) && (!(pureKind x.op) && !(pureKind o.op)))) = true → k.testBit (b + i) = true
  | [], _, _, i, x, g, hi, _ => by cases hi
  | (x', g') :: l, b, h, i, x, g, hi, hc => by
    simp only [rowOk, Bool.and_eq_true] at h
    cases i with
    | zero =>
      simp at hi
      obtain ⟨rfl, rfl⟩ := hi
      have := h.1
      rw [hc] at this
      exact this
    | succ i =>
      have := rowOk_iff h.2 i x g (by simpa using hi) hc
      rw [Nat.succ_add] at this
      exact this
theorem allRows_iff {ops : List Oper} {ms : List Nat} {all : List (Oper × Bool)} : ∀ {l : List (Oper × Bool)} {b : Nat}, allRows ops ms all l b = true → ∀ j o f, l[j]? = some (o, f) →
    (∃ k, ms[b + j]? = some k ∧ rowOk ops k o f (all.take (b + j)) 0 = true) ∧ edgesOk (b + j) o.after.toList = true
  | [], _, _, j, o, f, hj => by cases hj
  | (o', f') :: l, b, h, j, o, f, hj => by
    simp only [allRows, Bool.and_eq_true] at h
    cases j with
    | zero =>
      simp at hj
      obtain ⟨rfl, rfl⟩ := hj
      refine ⟨?_, h.2.1⟩
      have h1 := h.1
      rw [lget_eq] at h1
      split at h1
      · rename_i k hk; exact ⟨k, hk, h1⟩
      · cases h1
    | succ j =>
      have := allRows_iff h.2.2 j o f (by simpa using hj)
      rw [Nat.succ_add] at this
      exact this

/-- What the look tells. -/
structure DrawFacts (ops : List Oper) : Prop where
  edge : ∀ i o, ops[i]? = some o → ∀ e ∈ o.after, Region.binds .any e = true → e.on < i
  pair : ∀ i j x f o g, i < j → (flags ops)[i]? = some (x, f) → (flags ops)[j]? = some (o, g) → (clash ops x o || ((g || f) && (!(pureKind x.op) && !(pureKind o.op)))) = true → bit (masks ops []) j i = true
theorem drawOk_facts {ops : List Oper} (h : drawOk ops = true) : DrawFacts ops where
  edge := fun i o ho e he hb => by
    have hl : (flags ops)[i]?.map (·.1) = some o := by rw [← List.getElem?_map, flags_fst]; exact ho
    obtain ⟨⟨o', f⟩, h1, rfl⟩ := Option.map_eq_some_iff.1 hl
    have := (allRows_iff h i o' f h1).2
    rw [Nat.zero_add] at this
    exact edgesOk_iff this e (by simpa using he) hb
  pair := fun i j x f o g hij hi hj hc => by
    obtain ⟨⟨k, hk, hr⟩, _⟩ := allRows_iff h j o g hj
    rw [Nat.zero_add] at hk hr
    have := rowOk_iff hr i x f (by rw [List.getElem?_take, if_pos hij]; exact hi) hc
    rw [Nat.zero_add] at this
    simp [bit, hk, this]
end Go.Vit
