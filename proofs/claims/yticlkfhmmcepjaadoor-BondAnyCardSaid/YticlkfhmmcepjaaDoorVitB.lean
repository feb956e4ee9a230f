/- How an abstract memory stands to the machine's world; new blocks, writes, steps. -/
import Derived.Test.YticlkfhmmcepjaaDoorVitA
set_option linter.unusedSimpArgs false
set_option linter.unusedVariables false
namespace Go.Vit
open Go

def Inj.upd (ι : Inj) (b : Nat) (e : Ent) : Inj := fun x => if x = b then some e else ι x
theorem Inj.upd_same (ι : Inj) (b : Nat) (e : Ent) : ι.upd b e b = some e := if_pos rfl
theorem Inj.upd_ne (ι : Inj) {b c : Nat} (e : Ent) (h : c ≠ b) : ι.upd b e c = ι c := if_neg h
theorem Inj.le_upd {ι : Inj} {b : Nat} (h : ι b = none) (e : Ent) : ι.le (ι.upd b e) := fun c x hc => by
  rw [Inj.upd_ne]; exact hc; intro he; subst he; rw [h] at hc; cases hc

/-- The heap of B is there as it was. -/
structure Old (B w : World) : Prop where
  size : B.heap.size ≤ w.heap.size
  block : ∀ k, k < B.heap.size → w.heap[k]? = B.heap[k]?

/-- An abstract memory in a world: G variables of the program; ids below R are never written; behind the heap of B lie the blocks of the run's own; ids from U on are of no concern here. -/
structure Rel (G R : Nat) (B : World) (U : Nat) (ι : Inj) (m : Mem) (w : World) : Prop where
  ok : m.ok
  rlt : R ≤ m.next
  old : Old B w
  gl : ∀ g, g < G → ι g = some ⟨g, 0, 0⟩
  dom : ∀ b e, ι b = some e → b < m.next ∨ U ≤ b
  size : ∀ b e, ι b = some e → e.cb < w.heap.size
  ge : ∀ b e, R ≤ b → ι b = some e → B.heap.size ≤ e.cb
  cells : ∀ b e k, ι b = some e → m.rd b = some k → k.ents = none → ∀ (i : Nat) (v : Value), k.cells[i]? = some v → ∃ u, VR ι v u ∧ w.cell? ⟨e.cb, e.base + i, none⟩ = some u
  own : ∀ b e k, R ≤ b → ι b = some e → m.rd b = some k → k.ents = none → ∃ c t, w.heap[e.cb]? = some (.cells c t (0, 0)) ∧ c.size = e.base + k.cells.length + e.extra * k.esz
  disj : ∀ b b' e e' k k', R ≤ b → b ≠ b' → ι b = some e → ι b' = some e' → m.rd b = some k → m.rd b' = some k' → e.cb ≠ e'.cb
  maps : ∀ b e k es, ι b = some e → m.rd b = some k → k.ents = some es → ∃ les clock, w.heap[e.cb]? = some (.map les clock) ∧ les.size = es.length ∧
    ∀ (i : Nat) (kv : Value × Value) (me : MapEntry), es[i]? = some kv → les[i]? = some me → VR ι kv.1 me.key ∧ VR ι kv.2 me.val

/-- A run's step: what it may turn. Ids below L, and blocks that are no image of an id from L on, stay as they were. -/
structure Step (L : Nat) (ι : Inj) (m : Mem) (w : World) (κ : Inj) (m' : Mem) (w' : World) : Prop where
  le : ι.le κ
  foreign : ∀ b e, ι b = some e → b < m.next ∨ m'.next ≤ b
  fresh : ∀ b e, κ b = some e → ι b = none → m.next ≤ b ∧ b < m'.next ∧ (w.heap.size ≤ e.cb ∨ ∃ b0 e0, L ≤ b0 ∧ b0 < m.next ∧ ι b0 = some e0 ∧ e0.cb = e.cb)
  next : m.next ≤ m'.next
  kept : ∀ b, b < L → b < m.next → m'.rd b = m.rd b
  os : w'.os = w.os
  tape : w'.tape = w.tape
  output : w'.output = w.output
  size : w.heap.size ≤ w'.heap.size
  block : ∀ k, k < w.heap.size → (∀ b e, L ≤ b → b < m.next → ι b = some e → e.cb ≠ k) → w'.heap[k]? = w.heap[k]?

theorem Step.refl (L : Nat) (ι : Inj) (m : Mem) (w : World) (hd : ∀ b e, ι b = some e → b < m.next ∨ m.next ≤ b) : Step L ι m w ι m w :=
  ⟨Inj.le_refl _, hd, fun b e h h' => (by rw [h] at h'; cases h'), Nat.le_refl _, fun _ _ _ => rfl, rfl, rfl, rfl, Nat.le_refl _, fun _ _ _ => rfl⟩
theorem Step.refl' (L : Nat) (ι : Inj) (m : Mem) (w : World) : Step L ι m w ι m w := Step.refl L ι m w fun b _ _ => Nat.lt_or_ge b m.next

theorem Step.trans {L : Nat} {ι κ μ : Inj} {m m' m'' : Mem} {w w' w'' : World} (h : Step L ι m w κ m' w') (h' : Step L κ m' w' μ m'' w'') : Step L ι m w μ m'' w'' where
  le := Inj.le_trans h.le h'.le
  foreign := fun b e hb => by
    rcases h.foreign b e hb with h1 | h1
    · exact .inl h1
    · rcases h'.foreign b e (h.le _ _ hb) with h2 | h2
      · omega
      · exact .inr h2
  fresh := fun b e hb hn => by
    cases hk : κ b with
    | none =>
      obtain ⟨h1, h1', h2⟩ := h'.fresh b e hb hk
      refine ⟨Nat.le_trans h.next h1, h1', ?_⟩
      rcases h2 with h2 | ⟨b0, e0, hL, hlt, he0, hc⟩
      · exact .inl (Nat.le_trans h.size h2)
      · cases hi : ι b0 with
        | some e1 =>
          have := h.le _ _ hi
          rw [he0] at this
          cases this
          have hf := h.foreign _ _ hi
          exact .inr ⟨b0, e0, hL, by omega, hi, hc⟩
        | none =>
          obtain ⟨_, _, h4⟩ := h.fresh b0 e0 he0 hi
          rcases h4 with h4 | ⟨b1, e1, hL1, hl1, he1, hc1⟩
          · exact .inl (hc ▸ h4)
          · exact .inr ⟨b1, e1, hL1, hl1, he1, hc1.trans hc⟩
    | some e1 =>
      have := h'.le _ _ hk
      rw [hb] at this
      cases this
      obtain ⟨h1, h2, h3⟩ := h.fresh b e hk hn
      exact ⟨h1, Nat.lt_of_lt_of_le h2 h'.next, h3⟩
  next := Nat.le_trans h.next h'.next
  kept := fun b hL hb => (h'.kept b hL (Nat.lt_of_lt_of_le hb h.next)).trans (h.kept b hL hb)
  os := h'.os.trans h.os
  tape := h'.tape.trans h.tape
  output := h'.output.trans h.output
  size := Nat.le_trans h.size h'.size
  block := fun k hk hno => by
    rw [← h.block k hk hno]
    refine h'.block k (Nat.lt_of_lt_of_le hk h.size) fun b e hL hlt hb heq => ?_
    cases hi : ι b with
    | some e1 =>
      have := h.le _ _ hi
      rw [hb] at this
      cases this
      have hf := h.foreign _ _ hi
      exact hno b e hL (by omega) hi heq
    | none =>
      obtain ⟨_, _, h2⟩ := h.fresh b e hb hi
      rcases h2 with h2 | ⟨b0, e0, hL0, hl0, he0, hc0⟩
      · omega
      · exact hno b0 e0 hL0 hl0 he0 (hc0.trans heq)

theorem Step.mono {L L' : Nat} {ι κ : Inj} {m m' : Mem} {w w' : World} (hL : L ≤ L') (h : Step L' ι m w κ m' w') : Step L ι m w κ m' w' where
  le := h.le
  foreign := h.foreign
  fresh := fun b e hb hn => by
    obtain ⟨h1, h1', h2⟩ := h.fresh b e hb hn
    refine ⟨h1, h1', h2.imp id ?_⟩
    rintro ⟨b0, e0, hl, h3⟩
    exact ⟨b0, e0, Nat.le_trans hL hl, h3⟩
  next := h.next
  kept := fun b hb => h.kept b (Nat.lt_of_lt_of_le hb hL)
  os := h.os
  tape := h.tape
  output := h.output
  size := h.size
  block := fun k hk hno => h.block k hk fun b e hb => hno b e (Nat.le_trans hL hb)

/-- A world that differs in nothing that memory holds (draws). -/
theorem Step.same {L : Nat} {ι : Inj} {m : Mem} {w w' : World} (hh : w'.heap = w.heap) (h1 : w'.os = w.os) (h2 : w'.tape = w.tape) (h3 : w'.output = w.output) : Step L ι m w ι m w' :=
  ⟨Inj.le_refl _, fun b _ _ => Nat.lt_or_ge b m.next, fun b e h h' => (by rw [h] at h'; cases h'), Nat.le_refl _, fun _ _ _ => rfl, h1, h2, h3, by rw [hh]; exact Nat.le_refl _, fun k _ _ => by rw [hh]⟩

section
variable {G R U L : Nat} {B : World} {ι : Inj} {m : Mem} {w : World}

theorem Rel.world (h : Rel G R B U ι m w) {w' : World} (hh : w'.heap = w.heap) : Rel G R B U ι m w' := by
  have hc : ∀ a, w'.cell? a = w.cell? a := fun a => by simp [World.cell?, hh]
  exact ⟨h.ok, h.rlt, ⟨by rw [hh]; exact h.old.size, by rw [hh]; exact h.old.block⟩, h.gl, h.dom, by rw [hh]; exact h.size, h.ge,
    fun b e k h1 h2 h3 i v hv => by rw [hc]; exact h.cells b e k h1 h2 h3 i v hv, by rw [hh]; exact h.own, h.disj, by rw [hh]; exact h.maps⟩

/-- An id is given up. -/
theorem Rel.kill (h : Rel G R B U ι m w) {b : Nat} (hb : b < m.next) : Rel G R B U ι (m.put b none) w := by
  have key : ∀ c k, (m.put b none).rd c = some k → m.rd c = some k := fun c k hk => by
    by_cases hc : b = c
    · subst hc; rw [Mem.rd_put_same _ hb] at hk; cases hk
    · rwa [Mem.rd_put_ne h.ok _ hb hc] at hk
  exact ⟨h.ok, h.rlt, h.old, h.gl, h.dom, h.size, h.ge, fun c e k h1 h2 => h.cells c e k h1 (key _ _ h2), fun c e k h1 h2 h3 => h.own c e k h1 h2 (key _ _ h3),
    fun c c' e e' k k' h1 h2 h3 h4 h5 h6 => h.disj c c' e e' k k' h1 h2 h3 h4 (key _ _ h5) (key _ _ h6), fun c e k es h1 h2 => h.maps c e k es h1 (key _ _ h2)⟩

/-- A new id for a block of the run's own, which no other living id means. -/
theorem Rel.adopt (h : Rel G R B U ι m w) {w' : World} {cb base extra esz : Nat} {cells us : List Value} {c : Array Value} {t : TypeId} {m' : Mem}
    (hm : m.new ⟨esz, cells, none⟩ = some m') (hU : m'.next ≤ U) (hsz : w.heap.size ≤ w'.heap.size)
    (hoth : ∀ k, k < w.heap.size → k ≠ cb → w'.heap[k]? = w.heap[k]?) (hcb : w'.heap[cb]? = some (.cells c t (0, 0))) (hB : B.heap.size ≤ cb)
    (hal : ∀ b e k, ι b = some e → m.rd b = some k → e.cb ≠ cb) (hcs : c.size = base + cells.length + extra * esz)
    (hvl : VL ι cells us) (hus : ∀ (i : Nat) (u : Value), us[i]? = some u → c[base + i]? = some u) :
    Rel G R B U (ι.upd m.next ⟨cb, base, extra⟩) m' w' := by
  have hnone : ι m.next = none := by
    cases hi : ι m.next with
    | none => rfl
    | some e => have := h.dom _ _ hi; have := (Mem.new_next hm).1; omega
  have hle : ι.le (ι.upd m.next ⟨cb, base, extra⟩) := Inj.le_upd hnone _
  have hnx := (Mem.new_next hm).1
  have hcell : ∀ k o, k < w.heap.size → k ≠ cb → w'.cell? ⟨k, o, none⟩ = w.cell? ⟨k, o, none⟩ := fun k o h1 h2 => by simp [World.cell?, hoth k h1 h2]
  have hclt : cb < w'.heap.size := (Array.getElem?_eq_some_iff.1 hcb).1
  have split : ∀ b e, ι.upd m.next ⟨cb, base, extra⟩ b = some e → (b = m.next ∧ e = ⟨cb, base, extra⟩) ∨ (b ≠ m.next ∧ ι b = some e) := fun b e he => by
    by_cases hb : b = m.next
    · subst hb; rw [Inj.upd_same] at he; cases he; exact .inl ⟨rfl, rfl⟩
    · rw [Inj.upd_ne _ _ hb] at he; exact .inr ⟨hb, he⟩
  have low : ∀ b k, b ≠ m.next → m'.rd b = some k → b < m.next := fun b k hb hk => by
    have := Mem.rd_lt hk; omega
  refine ⟨Mem.new_ok hm, by have := h.rlt; omega, ⟨Nat.le_trans h.old.size hsz, fun k hk => (hoth k (Nat.lt_of_lt_of_le hk h.old.size) (by omega)).trans (h.old.block k hk)⟩, ?_, ?_, ?_, ?_, ?_, ?_, ?_, ?_⟩
  · intro g hg
    have h0 := h.gl g hg
    exact hle _ _ h0
  · intro b e he
    rcases split b e he with ⟨h1, _⟩ | ⟨_, h1⟩
    · left; omega
    · rcases h.dom _ _ h1 with h2 | h2
      · left; omega
      · exact .inr h2
  · intro b e he
    rcases split b e he with ⟨_, rfl⟩ | ⟨_, h1⟩
    · exact hclt
    · exact Nat.lt_of_lt_of_le (h.size _ _ h1) hsz
  · intro b e hR he
    rcases split b e he with ⟨_, rfl⟩ | ⟨_, h1⟩
    · exact hB
    · exact h.ge _ _ hR h1
  · intro b e k he hk hn i v hv
    rcases split b e he with ⟨rfl, rfl⟩ | ⟨hlt, h1⟩
    · rw [Mem.rd_new_same hm] at hk
      cases hk
      obtain ⟨u, hu, hvr⟩ := hvl.get hv
      exact ⟨u, hvr.mono hle, by simp [World.cell?, hcb, hus i u hu]⟩
    · rw [Mem.rd_new_lt hm (low _ _ hlt hk)] at hk
      obtain ⟨u, hvr, hu⟩ := h.cells b e k h1 hk hn i v hv
      refine ⟨u, hvr.mono hle, ?_⟩
      rw [hcell _ _ (h.size _ _ h1) (hal b e k h1 hk)]
      exact hu
  · intro b e k hR he hk hn
    rcases split b e he with ⟨rfl, rfl⟩ | ⟨hlt, h1⟩
    · rw [Mem.rd_new_same hm] at hk
      cases hk
      exact ⟨c, t, hcb, hcs⟩
    · rw [Mem.rd_new_lt hm (low _ _ hlt hk)] at hk
      rw [hoth _ (h.size _ _ h1) (hal b e k h1 hk)]
      exact h.own b e k hR h1 hk hn
  · intro b b' e e' k k' hR hne he he' hk hk'
    rcases split b e he with ⟨rfl, rfl⟩ | ⟨hlt, h1⟩
    · rcases split b' e' he' with ⟨rfl, rfl⟩ | ⟨hlt', h1'⟩
      · exact absurd rfl hne
      · rw [Mem.rd_new_lt hm (low _ _ hlt' hk')] at hk'
        exact (hal b' e' k' h1' hk').symm
    · rw [Mem.rd_new_lt hm (low _ _ hlt hk)] at hk
      rcases split b' e' he' with ⟨rfl, rfl⟩ | ⟨hlt', h1'⟩
      · exact hal b e k h1 hk
      · rw [Mem.rd_new_lt hm (low _ _ hlt' hk')] at hk'
        exact h.disj b b' e e' k k' hR hne h1 h1' hk hk'
  · intro b e k es he hk hes
    rcases split b e he with ⟨rfl, rfl⟩ | ⟨hlt, h1⟩
    · rw [Mem.rd_new_same hm] at hk
      cases hk
      cases hes
    · rw [Mem.rd_new_lt hm (low _ _ hlt hk)] at hk
      obtain ⟨les, clock, hh, hs, hp⟩ := h.maps b e k es h1 hk hes
      refine ⟨les, clock, ?_, hs, fun i kv me a1 a2 => ?_⟩
      · rw [hoth _ (h.size _ _ h1) (hal b e k h1 hk)]; exact hh
      · exact ⟨(hp i kv me a1 a2).1.mono hle, (hp i kv me a1 a2).2.mono hle⟩

theorem heapAllocNew (w : World) (o : Obj) : (w.alloc o).heap[w.heap.size]? = some o := by
  show (w.heap.push o)[w.heap.size]? = _
  simp
theorem heapAllocOld (w : World) (o : Obj) {k : Nat} (h : k < w.heap.size) : (w.alloc o).heap[k]? = w.heap[k]? := by
  show (w.heap.push o)[k]? = _
  rw [Array.getElem?_push, if_neg (by omega)]

/-- A new row of cells, with spare places behind. -/
theorem Rel.alloc (h : Rel G R B U ι m w) {esz extra : Nat} {cells us sp : List Value} (t : TypeId) {m' : Mem} (hm : m.new ⟨esz, cells, none⟩ = some m') (hU : m'.next ≤ U)
    (hvl : VL ι cells us) (hsp : sp.length = extra * esz) :
    Rel G R B U (ι.upd m.next ⟨w.heap.size, 0, extra⟩) m' (w.alloc (.cells (us ++ sp).toArray t)) ∧
      (∀ L, L ≤ m.next → Step L ι m w (ι.upd m.next ⟨w.heap.size, 0, extra⟩) m' (w.alloc (.cells (us ++ sp).toArray t))) := by
  have hnone : ι m.next = none := by
    cases hi : ι m.next with
    | none => rfl
    | some e => have := h.dom _ _ hi; have := (Mem.new_next hm).1; omega
  refine ⟨h.adopt hm hU (by simp) (fun k hk _ => heapAllocOld w _ hk) (heapAllocNew w _) h.old.size (fun b e k hb _ => Nat.ne_of_lt (h.size b e hb)) ?_ hvl ?_, ?_⟩
  · simp [hsp, ← hvl.1]
  · intro i u hu
    have hi : i < us.length := (List.getElem?_eq_some_iff.1 hu).1
    simp only [Nat.zero_add, List.getElem?_toArray]
    rw [List.getElem?_append_left hi]; exact hu
  · intro L hL
    have hnx := (Mem.new_next hm).1
    refine ⟨Inj.le_upd hnone _, fun b e he => (by have := h.dom _ _ he; omega), ?_, by omega, fun b _ hb => Mem.rd_new_lt hm hb, rfl, rfl, rfl, by simp, fun k hk _ => heapAllocOld w _ hk⟩
    intro b e he hn
    by_cases hb : b = m.next
    · subst hb; rw [Inj.upd_same] at he; cases he; exact ⟨Nat.le_refl _, by omega, .inl (Nat.le_refl _)⟩
    · rw [Inj.upd_ne _ _ hb] at he; rw [he] at hn; cases hn

/-- Cells of a block of the run's own are written. -/
theorem Rel.write (h : Rel G R B U ι m w) {b : Nat} {e : Ent} {k : Blk} (hR : R ≤ b) (he : ι b = some e) (hk : m.rd b = some k) (hn : k.ents = none)
    {o : Nat} {vs us : List Value} (ho : o + vs.length ≤ k.cells.length) (hvl : VL ι vs us) :
    ∃ c t, w.heap[e.cb]? = some (.cells c t (0, 0)) ∧ e.base + o + us.length ≤ c.size ∧
      Rel G R B U ι (m.put b (some { k with cells := k.cells.take o ++ vs ++ k.cells.drop (o + vs.length) })) (w.setRow e.cb (c.toList.take (e.base + o) ++ us ++ c.toList.drop (e.base + o + us.length)).toArray) ∧
      ∀ L, L ≤ b → Step L ι m w ι (m.put b (some { k with cells := k.cells.take o ++ vs ++ k.cells.drop (o + vs.length) })) (w.setRow e.cb (c.toList.take (e.base + o) ++ us ++ c.toList.drop (e.base + o + us.length)).toArray) := by
  obtain ⟨c, t, hh, hc⟩ := h.own b e k hR he hk hn
  have hb : b < m.next := Mem.rd_lt hk
  have hul : us.length = vs.length := hvl.1.symm
  have hfit : e.base + o + us.length ≤ c.size := by omega
  have hlen : (k.cells.take o ++ vs ++ k.cells.drop (o + vs.length)).length = k.cells.length := by simp; omega
  have hself : (w.setRow e.cb (c.toList.take (e.base + o) ++ us ++ c.toList.drop (e.base + o + us.length)).toArray).heap[e.cb]? = some (.cells (c.toList.take (e.base + o) ++ us ++ c.toList.drop (e.base + o + us.length)).toArray t (0, 0)) := setRow_heap w e.cb c _ t _ hh
  have hoth : ∀ j, j ≠ e.cb → (w.setRow e.cb (c.toList.take (e.base + o) ++ us ++ c.toList.drop (e.base + o + us.length)).toArray).heap[j]? = w.heap[j]? := fun j hj => setRow_other w e.cb j _ hj
  have hsize : (w.setRow e.cb (c.toList.take (e.base + o) ++ us ++ c.toList.drop (e.base + o + us.length)).toArray).heap.size = w.heap.size := by simp [World.setRow]
  refine ⟨c, t, hh, hfit, ?_⟩
  generalize hw' : w.setRow e.cb (c.toList.take (e.base + o) ++ us ++ c.toList.drop (e.base + o + us.length)).toArray = w' at *
  have hos : w'.os = w.os ∧ w'.tape = w.tape ∧ w'.output = w.output := by subst hw'; exact ⟨rfl, rfl, rfl⟩
  refine ⟨?_, ?_⟩
  · have key : ∀ d kd, (m.put b (some { k with cells := k.cells.take o ++ vs ++ k.cells.drop (o + vs.length) })).rd d = some kd → (d = b ∧ kd = { k with cells := k.cells.take o ++ vs ++ k.cells.drop (o + vs.length) }) ∨ (d ≠ b ∧ m.rd d = some kd) := fun d kd hd => by
      by_cases hdb : b = d
      · subst hdb; rw [Mem.rd_put_same _ hb] at hd; cases hd; exact .inl ⟨rfl, rfl⟩
      · rw [Mem.rd_put_ne h.ok _ hb hdb] at hd; exact .inr ⟨fun e => hdb e.symm, hd⟩
    have hother : ∀ d ed kd, d ≠ b → ι d = some ed → m.rd d = some kd → ed.cb ≠ e.cb := fun d ed kd hne h1 h2 => fun heq => h.disj b d e ed k kd hR (Ne.symm hne) he h1 hk h2 heq.symm
    refine ⟨h.ok, h.rlt, ⟨by rw [hsize]; exact h.old.size, fun j hj => (hoth j (by have := h.ge b e hR he; omega)).trans (h.old.block j hj)⟩, h.gl, h.dom, by rw [hsize]; exact h.size, h.ge, ?_, ?_, ?_, ?_⟩
    · intro d ed kd hd hkd hnd i v hv
      rcases key d kd hkd with ⟨rfl, rfl⟩ | ⟨hne, hkd'⟩
      · rw [he] at hd
        cases hd
        have hl : ∀ (x : Array Value), w'.heap[e.cb]? = some (.cells x t (0, 0)) → w'.cell? ⟨e.cb, e.base + i, none⟩ = x[e.base + i]? := fun x hx => by simp [World.cell?, hx]
        rw [hl _ hself]
        simp only [List.getElem?_toArray]
        simp only [] at hv
        by_cases h1 : i < o
        · have e1 : (k.cells.take o ++ vs ++ k.cells.drop (o + vs.length))[i]? = k.cells[i]? := by
            rw [List.append_assoc, List.getElem?_append_left (by simp; omega), List.getElem?_take, if_pos h1]
          rw [e1] at hv
          obtain ⟨u, hvr, hu⟩ := h.cells d e k he hk hn i v hv
          refine ⟨u, hvr, ?_⟩
          rw [List.append_assoc, List.getElem?_append_left (by simp; omega), List.getElem?_take, if_pos (by omega)]
          simpa [World.cell?, hh] using hu
        · by_cases h2 : i < o + vs.length
          · have e1 : (k.cells.take o ++ vs ++ k.cells.drop (o + vs.length))[i]? = vs[i - o]? := by
              have hlo : (k.cells.take o).length = o := by simp; omega
              rw [List.append_assoc, List.getElem?_append_right (by omega), hlo, List.getElem?_append_left (by omega)]
            rw [e1] at hv
            obtain ⟨u, hu, hvr⟩ := hvl.get hv
            refine ⟨u, hvr, ?_⟩
            have hlo : (c.toList.take (e.base + o)).length = e.base + o := by simp; omega
            rw [List.append_assoc, List.getElem?_append_right (by omega), hlo, List.getElem?_append_left (by omega)]
            rw [show e.base + i - (e.base + o) = i - o by omega]
            exact hu
          · have e1 : (k.cells.take o ++ vs ++ k.cells.drop (o + vs.length))[i]? = k.cells[i]? := by
              have hlo : (k.cells.take o ++ vs).length = o + vs.length := by simp; omega
              rw [List.getElem?_append_right (by omega), hlo, List.getElem?_drop]
              congr 1; omega
            rw [e1] at hv
            obtain ⟨u, hvr, hu⟩ := h.cells d e k he hk hn i v hv
            refine ⟨u, hvr, ?_⟩
            have hlo : (c.toList.take (e.base + o) ++ us).length = e.base + o + us.length := by simp; omega
            rw [List.getElem?_append_right (by omega), hlo, List.getElem?_drop]
            rw [show e.base + o + us.length + (e.base + i - (e.base + o + us.length)) = e.base + i by omega]
            simpa [World.cell?, hh] using hu
      · obtain ⟨u, hvr, hu⟩ := h.cells d ed kd hd hkd' hnd i v hv
        refine ⟨u, hvr, ?_⟩
        have := hoth ed.cb (hother d ed kd hne hd hkd')
        simp only [World.cell?, this]
        exact hu
    · intro d ed kd hRd hd hkd hnd
      rcases key d kd hkd with ⟨rfl, rfl⟩ | ⟨hne, hkd'⟩
      · rw [he] at hd
        cases hd
        exact ⟨_, t, hself, by simp [hul]; omega⟩
      · rw [hoth ed.cb (hother d ed kd hne hd hkd')]
        exact h.own d ed kd hRd hd hkd' hnd
    · intro d d' ed ed' kd kd' hRd hne hd hd' hkd hkd'
      rcases key d kd hkd with ⟨rfl, rfl⟩ | ⟨hne1, hkd1⟩
      · rw [he] at hd
        cases hd
        rcases key d' kd' hkd' with ⟨rfl, rfl⟩ | ⟨hne2, hkd2⟩
        · exact absurd rfl hne
        · exact (hother d' ed' kd' hne2 hd' hkd2).symm
      · rcases key d' kd' hkd' with ⟨rfl, rfl⟩ | ⟨hne2, hkd2⟩
        · rw [he] at hd'
          cases hd'
          exact hother d ed kd hne1 hd hkd1
        · exact h.disj d d' ed ed' kd kd' hRd hne hd hd' hkd1 hkd2
    · intro d ed kd es hd hkd hes
      rcases key d kd hkd with ⟨rfl, rfl⟩ | ⟨hne, hkd'⟩
      · simp only [] at hes; rw [hn] at hes; cases hes
      · rw [hoth ed.cb (hother d ed kd hne hd hkd')]
        exact h.maps d ed kd es hd hkd' hes
  · intro L hL
    refine ⟨Inj.le_refl _, fun d _ _ => Nat.lt_or_ge d m.next, fun d ed h1 h2 => (by rw [h1] at h2; cases h2), Nat.le_refl _, fun d hd _ => Mem.rd_put_ne h.ok _ hb (by omega), hos.1, hos.2.1, hos.2.2, by rw [hsize]; exact Nat.le_refl _, fun j hj hno => hoth j fun heq => hno b e hL hb he heq.symm⟩
end
end Go.Vit
