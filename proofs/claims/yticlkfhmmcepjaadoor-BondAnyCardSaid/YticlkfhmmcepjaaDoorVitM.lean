/- All orders of a region. -/
import Derived.Test.YticlkfhmmcepjaaDoorVitL
set_option linter.unusedSimpArgs false
set_option linter.unusedVariables false
namespace Go.Vit
open Go

section
variable {P : Program} {G R U L : Nat} {B : World} {call : CallT}

def putA (K : List Nat) (fr : Fr) (dst : Option Nat) (v : Value) : Fr := match dst with
  | some d => fset K fr d v
  | none => fr

/-- One operation in the text's order. -/
def Stp (P : Program) (G N : Nat) (K : List Nat) (call : CallT) (ops : List Oper) (L : Nat) (o : Oper) (eff : Bool) (s s' : Fr × Mem) : Prop :=
  (∀ d, o.dst = some d → d < N) ∧
  ((wantA K ops s.1 o = some false ∧ s'.2 = s.2 ∧ s'.1 = putA K s.1 o.dst Go.undef) ∨
   (∃ v, wantA K ops s.1 o = some true ∧ exA P call (match eff with | true => L | false => s.2.next) (aeval G (fget K s.1)) s.2 o.op = some (v, s'.2) ∧ s'.1 = putA K s.1 o.dst v))

theorem evOps_trace {N : Nat} {K : List Nat} {ops : List Oper} : ∀ (l : List (Oper × Bool)) (fr : Fr) (m : Mem) (fr' : Fr) (m' : Mem), evOps P G N K call ops L l fr m = some (fr', m') →
    ∃ tr : Nat → Fr × Mem, tr 0 = (fr, m) ∧ tr l.length = (fr', m') ∧ ∀ i o f, l[i]? = some (o, f) → Stp P G N K call ops L o f (tr i) (tr (i + 1))
  | [], fr, m, fr', m', h => by cases h; exact ⟨fun _ => (fr, m), rfl, rfl, fun i o f hi => by cases hi⟩
  | (o, f) :: l, fr, m, fr', m', h => by
    simp only [evOps] at h
    have fin : ∀ (v : Value) (m1 : Mem),
        (match o.dst with | none => evOps P G N K call ops L l fr m1 | some d => fsetK N K fr d v fun fr => evOps P G N K call ops L l fr m1) = some (fr', m') →
        ((∀ d, o.dst = some d → d < N) → Stp P G N K call ops L o f (fr, m) (putA K fr o.dst v, m1)) →
        ∃ tr : Nat → Fr × Mem, tr 0 = (fr, m) ∧ tr (l.length + 1) = (fr', m') ∧ ∀ i o' f', ((o, f) :: l)[i]? = some (o', f') → Stp P G N K call ops L o' f' (tr i) (tr (i + 1)) := by
      intro v m1 hh hst
      have : (∀ d, o.dst = some d → d < N) ∧ evOps P G N K call ops L l (putA K fr o.dst v) m1 = some (fr', m') := by
        cases hd : o.dst with
        | none => rw [hd] at hh; exact ⟨(fun d h => by cases h), hh⟩
        | some d => rw [hd] at hh; obtain ⟨h1, h2⟩ := fsetK_eq hh; exact ⟨(fun d' h => by cases h; exact h1), h2⟩
      obtain ⟨hdN, hh⟩ := this
      obtain ⟨tr, h0, h1, h2⟩ := evOps_trace l _ _ _ _ hh
      refine ⟨fun i => match i with | 0 => (fr, m) | i + 1 => tr i, rfl, h1, fun i o' f' hi => ?_⟩
      cases i with
      | zero =>
        simp at hi
        obtain ⟨rfl, rfl⟩ := hi
        simp only [h0]
        exact hst hdN
      | succ i => exact h2 i o' f' (by simpa using hi)
    split at h
    · cases h
    · rename_i hw
      exact fin Go.undef m h fun hdN => ⟨hdN, .inl ⟨hw, rfl, rfl⟩⟩
    · rename_i hw
      split at h
      · cases h
      · rename_i v m1 hx
        exact fin v m1 h fun hdN => ⟨hdN, .inr ⟨v, hw, hx, rfl⟩⟩

/-- More memory, no image turned. -/
theorem Rel.fwd {ι : Inj} {m m2 : Mem} {w : World} (h : Rel G R B U ι m w) (hn : m.next ≤ m2.next) (hk : m2.ok) (hU : m2.next ≤ U) (hrd : ∀ b, b < m.next → m2.rd b = m.rd b) : Rel G R B U ι m2 w := by
  have low : ∀ b e k, ι b = some e → m2.rd b = some k → b < m.next ∧ m.rd b = some k := fun b e k h1 h2 => by
    have h3 := Mem.rd_lt h2
    rcases h.dom _ _ h1 with h4 | h4
    · exact ⟨h4, by rw [← hrd b h4]; exact h2⟩
    · omega
  exact ⟨hk, by have := h.rlt; omega, h.old, h.gl, fun b e he => (h.dom b e he).imp (fun h1 => by omega) id, h.size, h.ge,
    fun b e k h1 h2 => h.cells b e k h1 (low b e k h1 h2).2, fun b e k h1 h2 h3 => h.own b e k h1 h2 (low b e k h2 h3).2,
    fun b b' e e' k k' h1 h2 h3 h4 h5 h6 => h.disj b b' e e' k k' h1 h2 h3 h4 (low b e k h3 h5).2 (low b' e' k' h4 h6).2,
    fun b e k es h1 h2 => h.maps b e k es h1 (low b e k h1 h2).2⟩

/-- Back to an earlier memory. -/
theorem Rel.back {ι : Inj} {m m2 : Mem} {w : World} {U' : Nat} (h : Rel G R B U ι m2 w) (hR : R ≤ m.next) (hk : m.ok) (hn : m.next ≤ m2.next) (hrd : ∀ b, b < m.next → m2.rd b = m.rd b) (hd : ∀ b e, ι b = some e → b < m.next ∨ U' ≤ b) : Rel G R B U' ι m w := by
  have low : ∀ b k, m.rd b = some k → m2.rd b = some k := fun b k h2 => by rw [hrd b (Mem.rd_lt h2)]; exact h2
  exact ⟨hk, hR, h.old, h.gl, hd, h.size, h.ge,
    fun b e k h1 h2 => h.cells b e k h1 (low b k h2), fun b e k h1 h2 h3 => h.own b e k h1 h2 (low b k h3),
    fun b b' e e' k k' h1 h2 h3 h4 h5 h6 => h.disj b b' e e' k k' h1 h2 h3 h4 (low b k h5) (low b' k' h6),
    fun b e k es h1 h2 => h.maps b e k es h1 (low b k h2)⟩

/-- A quiet step of an earlier memory, seen from a later one. -/
theorem Rel.merge {ι κ : Inj} {m m1 m2 : Mem} {w w' : World} {U' : Nat} (h : Rel G R B U ι m2 w) (h1 : Rel G R B U' κ m1 w') (hs : Step m.next ι m w κ m1 w') (hn : m1.next ≤ m2.next) (hrd : ∀ b, b < m1.next → m2.rd b = m1.rd b) (hRm : R ≤ m.next) (hm2U : m2.next ≤ U) :
    Rel G R B U κ m2 w' := by
  have hblk : ∀ k, k < w.heap.size → w'.heap[k]? = w.heap[k]? := fun k hk => hs.block k hk fun b e h1 h2 => by omega
  have hcell : ∀ k o, k < w.heap.size → w'.cell? ⟨k, o, none⟩ = w.cell? ⟨k, o, none⟩ := fun k o hk => by simp [World.cell?, hblk k hk]
  -- an id is old, or new
  have part : ∀ b e, κ b = some e → ι b = some e ∨ (ι b = none ∧ m.next ≤ b ∧ b < m1.next ∧ w.heap.size ≤ e.cb) := fun b e he => by
    cases hi : ι b with
    | some e' => have := hs.le _ _ hi; rw [he] at this; cases this; exact .inl rfl
    | none =>
      obtain ⟨g1, g2, g3⟩ := hs.fresh b e he hi
      refine .inr ⟨rfl, g1, g2, ?_⟩
      rcases g3 with g3 | ⟨b0, _, g4, g5, _⟩
      · exact g3
      · omega
  refine ⟨h.ok, h.rlt, ⟨Nat.le_trans h.old.size hs.size, fun k hk => (hblk k (Nat.lt_of_lt_of_le hk h.old.size)).trans (h.old.block k hk)⟩, fun g hg => hs.le _ _ (h.gl g hg), fun b e he => ?_, fun b e he => ?_, fun b e hR he => ?_, fun b e k he hk hen i v hv => ?_, fun b e k hR he hk hen => ?_, fun b b' e e' k k' hR hne he he' hk hk' => ?_, fun b e k es he hk hes => ?_⟩
  · rcases part b e he with h2 | ⟨_, _, h2, _⟩
    · exact h.dom b e h2
    · exact .inl (by omega)
  · exact h1.size b e he
  · exact h1.ge b e hR he
  · rcases part b e he with h2 | ⟨_, _, h2, _⟩
    · obtain ⟨u, g1, g2⟩ := h.cells b e k h2 hk hen i v hv
      exact ⟨u, g1.mono hs.le, by rw [hcell _ _ (h.size b e h2)]; exact g2⟩
    · exact h1.cells b e k he (by rw [← hrd b h2]; exact hk) hen i v hv
  · rcases part b e he with h2 | ⟨_, _, h2, _⟩
    · rw [hblk _ (h.size b e h2)]; exact h.own b e k hR h2 hk hen
    · exact h1.own b e k hR he (by rw [← hrd b h2]; exact hk) hen
  · rcases part b e he with h2 | ⟨_, h2l, h2, h2c⟩
    · rcases part b' e' he' with h3 | ⟨_, h3l, h3, h3c⟩
      · exact h.disj b b' e e' k k' hR hne h2 h3 hk hk'
      · have := h.size b e h2; omega
    · rcases part b' e' he' with h3 | ⟨_, h3l, h3, h3c⟩
      · have := h.size b' e' h3; omega
      · exact h1.disj b b' e e' k k' hR hne he he' (by rw [← hrd b h2]; exact hk) (by rw [← hrd b' h3]; exact hk')
  · rcases part b e he with h2 | ⟨_, _, h2, _⟩
    · obtain ⟨les, clock, g1, g2, g3⟩ := h.maps b e k es h2 hk hes
      exact ⟨les, clock, by rw [hblk _ (h.size b e h2)]; exact g1, g2, fun i kv me a1 a2 => ⟨(g3 i kv me a1 a2).1.mono hs.le, (g3 i kv me a1 a2).2.mono hs.le⟩⟩
    · exact h1.maps b e k es he (by rw [← hrd b h2]; exact hk) hes

theorem Step.fwd {ι κ : Inj} {m m1 m2 : Mem} {w w' : World} (h : Step L ι m w κ m1 w') (hn : m1.next ≤ m2.next) (hf : ∀ b e, ι b = some e → b < m.next ∨ m2.next ≤ b) (hk : ∀ b, b < L → b < m1.next → m2.rd b = m1.rd b) : Step L ι m w κ m2 w' :=
  ⟨h.le, hf, fun b e h1 h2 => ⟨(h.fresh b e h1 h2).1, by have := (h.fresh b e h1 h2).2.1; omega, (h.fresh b e h1 h2).2.2⟩, Nat.le_trans h.next hn,
    fun b h1 h2 => (hk b h1 (by have := h.next; omega)).trans (h.kept b h1 h2), h.os, h.tape, h.output, h.size, h.block⟩
end
end Go.Vit
