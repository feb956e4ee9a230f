/- Walking a shallow text with unknown inputs: one rule an operation. -/
import Derived.Test.YtgimcgdehgbljaaCoreC
set_option linter.unusedSimpArgs false
set_option linter.unusedVariables false
namespace Go.Vit
open Go

/-! ### Memory -/
/-- What was there is there as it was. -/
structure Gt (m m' : Mem) : Prop where
  next : m.next ≤ m'.next
  kept : ∀ b, b < m.next → m'.rd b = m.rd b
theorem Gt.refl (m : Mem) : Gt m m := ⟨Nat.le_refl _, fun _ _ => rfl⟩
theorem Gt.trans {a b c : Mem} (h : Gt a b) (h' : Gt b c) : Gt a c := ⟨Nat.le_trans h.next h'.next, fun x hx => (h'.kept x (Nat.lt_of_lt_of_le hx h.next)).trans (h.kept x hx)⟩
def Mem.push (m : Mem) (k : Blk) : Mem := ⟨Tr.set depth m.tr m.next (some k), Nat.succ m.next⟩
theorem Mem.new_eq (m : Mem) (k : Blk) : m.new k = some (m.push k) := rfl
theorem Mem.push_next (m : Mem) (k : Blk) : (m.push k).next = m.next + 1 := id rfl
theorem Mem.put_next' (m : Mem) (b : Nat) (k : Option Blk) : (m.put b k).next = m.next := rfl
theorem Mem.rd_push (m : Mem) (k : Blk) : (m.push k).rd m.next = some k := Mem.rd_new_same (Mem.new_eq m k)
theorem Mem.rd_push_lt (m : Mem) (k : Blk) {b : Nat} (h : b < m.next) : (m.push k).rd b = m.rd b := Mem.rd_new_lt (Mem.new_eq m k) h
theorem Mem.gt_push (m : Mem) (k : Blk) : Gt m (m.push k) := ⟨by rw [Mem.push_next]; omega, fun b h => Mem.rd_push_lt m k h⟩
theorem Mem.rd_put (m : Mem) (b c : Nat) (k : Option Blk) (h : b ≠ c) : (m.put b k).rd c = m.rd c := by
  unfold Mem.rd Mem.put
  simp only []
  rw [Tr.get_set_ne _ depth _ _ _ h]
theorem Mem.put_gt {m0 m : Mem} (h : Gt m0 m) {b : Nat} (k : Option Blk) (hb : m0.next ≤ b) : Gt m0 (m.put b k) :=
  ⟨h.next, fun c hc => (Mem.rd_put m b c k (by omega)).trans (h.kept c hc)⟩
theorem anew_eq (m : Mem) (s : Nat) (cs : List Value) (f : Nat → Value) : anew m s cs f = some (f m.next, m.push ⟨s, cs, none⟩) := by
  unfold anew
  rw [Mem.new_eq]
  simp only [natK_eq]

/-- A block of cells. -/
def At (m : Mem) (b : Nat) (cs : List Value) : Prop := m.rd b = some ⟨1, cs, none⟩
theorem At.lt {m : Mem} {b : Nat} {cs : List Value} (h : At m b cs) : b < m.next := Mem.rd_lt h
theorem At.mono {m m' : Mem} {b : Nat} {cs : List Value} (h : At m b cs) (e : Gt m m') : At m' b cs := (e.kept b h.lt).trans h
theorem At.push (m : Mem) (cs : List Value) : At (m.push ⟨1, cs, none⟩) m.next cs := Mem.rd_push _ _
theorem At.rd {m : Mem} {b : Nat} {cs : List Value} (h : At m b cs) : m.rd b = some ⟨1, cs, none⟩ := h
theorem At.rdk {m m' : Mem} {b : Nat} {cs : List Value} (h : At m b cs) (e : Gt m m') : m'.rd b = some ⟨1, cs, none⟩ := h.mono e
/-! Reads and writes in explicit memories. -/
theorem Mem.rd_push_eq (m : Mem) (k : Blk) {b : Nat} (h : b = m.next) : (m.push k).rd b = some k := by subst h; exact Mem.rd_push m k
theorem Mem.rd_put_eq (m : Mem) (k : Option Blk) {b : Nat} (h : b < m.next) : (m.put b k).rd b = k := Mem.rd_put_same k h
/-- One cell of a block. -/
def rdo (x : Option Blk) (o : Nat) : Option Value := match x with
  | some k => match k.ents with
    | none => k.cells[o]?
    | some _ => none
  | none => none
def rdn (x : Option Blk) (o s : Nat) : Option Value := match x with
  | some k => match k.ents with
    | none => match Nat.ble (o + s) k.cells.length with
      | true => some (.agg ⟨(k.cells.drop o).take s⟩)
      | false => none
    | some _ => none
  | none => none
theorem rdo_e (s : Nat) (cs : List Value) (o : Nat) : rdo (some ⟨s, cs, none⟩) o = cs[o]? := id rfl
theorem rdn_e (s' : Nat) (cs : List Value) (o s : Nat) (h : o + s ≤ cs.length) : rdn (some ⟨s', cs, none⟩) o s = some (.agg ⟨(cs.drop o).take s⟩) := by
  simp only [rdn, Nat.ble_eq_true_of_le h]
theorem ld1_u (m : Mem) (b o : Nat) : ld1 m (.pointer (some ⟨b, o, none⟩)) = rdo (m.rd b) o := by
  unfold ld1 rdo
  simp only []
  cases m.rd b with
  | none => rfl
  | some k =>
    simp only []
    cases k.ents with
    | none => simp only [lget_eq]
    | some _ => rfl
theorem ldN_u (m : Mem) (s b o : Nat) : ldN m s (.pointer (some ⟨b, o, none⟩)) = rdn (m.rd b) o s := by
  unfold ldN rdc rdn
  simp only []
  cases m.rd b with
  | none => rfl
  | some k =>
    simp only []
    cases k.ents with
    | none =>
      simp only []
      rw [show Nat.add o s = o + s from rfl]
      cases Nat.ble (o + s) k.cells.length <;> rfl
    | some _ => rfl
def stw (s L : Nat) (m : Mem) (b o : Nat) (vs : List Value) (x : Option Blk) : Option (Value × Mem) := match x with
  | some k => match k.ents with
    | none => match Nat.beq vs.length s && (Nat.ble L b && (Nat.ble (o + vs.length) k.cells.length && allOne vs)) with
      | true => some (Go.undef, m.put b (some { k with cells := k.cells.take o ++ (vs ++ k.cells.drop (o + vs.length)) }))
      | false => none
    | some _ => none
  | none => none
theorem st1_u (s L : Nat) (m : Mem) (b o : Nat) (v : Value) : st1 s L m (.pointer (some ⟨b, o, none⟩)) v = stw s L m b o v.cells.toList (m.rd b) := by
  unfold st1 awr stw
  simp only []
  generalize v.cells.toList = vs
  rw [show Nat.add o vs.length = o + vs.length from rfl]
  cases h1 : Nat.beq vs.length s <;> cases h2 : Nat.ble L b <;> cases h3 : m.rd b with
    | none => rfl
    | some k =>
      simp only []
      cases h4 : k.ents with
      | some _ => rfl
      | none =>
        simp only []
        cases h5 : (Nat.ble (o + vs.length) k.cells.length && allOne vs) <;> rfl
theorem stw_e {s L : Nat} {m : Mem} {b o : Nat} {vs cs : List Value} {s' : Nat} (hL : L ≤ b) (h1 : vs.length = s) (h2 : o + s ≤ cs.length) (h3 : allOne vs = true) :
    stw s L m b o vs (some ⟨s', cs, none⟩) = some (Go.undef, m.put b (some ⟨s', cs.take o ++ (vs ++ cs.drop (o + s)), none⟩)) := by
  subst h1
  have e : (Nat.beq vs.length vs.length && (Nat.ble L b && (Nat.ble (o + vs.length) cs.length && allOne vs))) = true := by
    rw [Nat.beq_refl, Nat.ble_eq_true_of_le hL, Nat.ble_eq_true_of_le h2, h3]; rfl
  simp only [stw, e]

/-- A slice that reads as n elements of sz cells. -/
def Sl (sz : Nat) (m : Mem) (v : Value) (n : Nat) (cs : List Value) : Prop := asrc m sz v = some (n, cs) ∧ (v = .slice none 0 0 ∨ ∃ b o x c, v = .slice (some ⟨b, o, x⟩) n c)
theorem Sl.mono {sz : Nat} {m m' : Mem} {v : Value} {n : Nat} {cs : List Value} (h : Sl sz m v n cs) (e : Gt m m') : Sl sz m' v n cs := by
  refine ⟨?_, h.2⟩
  have h1 := h.1
  unfold asrc at h1 ⊢
  split at h1
  · exact h1
  · split at h1
    · exact h1
    · split at h1
      · rename_i cs' hr
        unfold rdc at hr ⊢
        split at hr
        · rename_i k hk
          rw [e.kept _ (Mem.rd_lt hk), hk]
          simp only [] at hr ⊢
          rw [hr]
          exact h1
        · cases hr
      · cases h1
  · cases h1
/-- A slice of ints. -/
def IL (m : Mem) (v : Value) (l : List Int) : Prop := Sl 1 m v l.length (l.map (Value.int .i64))
theorem IL.mono {m m' : Mem} {v : Value} {l : List Int} (h : IL m v l) (e : Gt m m') : IL m' v l := Sl.mono h e
theorem Sl.ex {sz : Nat} {m : Mem} {v : Value} {n : Nat} {cs : List Value} (h : Sl sz m v n cs) : ∃ p c, v = .slice p n c := by
  rcases h with ⟨h1, rfl | ⟨b, o, x, c, rfl⟩⟩
  · cases h1; exact ⟨none, 0, rfl⟩
  · exact ⟨_, _, rfl⟩
theorem IL.ex {m : Mem} {v : Value} {l : List Int} (h : IL m v l) : ∃ p c, v = .slice p l.length c := Sl.ex h
theorem IL.nil (m : Mem) : IL m (.slice none 0 0) [] := ⟨rfl, .inl rfl⟩
theorem Sl.ln {sz : Nat} {m : Mem} {v : Value} {n : Nat} {cs : List Value} (h : Sl sz m v n cs) : Vit.ln v = some (.int .i64 (n : Int)) := by
  rcases h with ⟨h1, rfl | ⟨b, o, x, c, rfl⟩⟩
  · cases h1; rfl
  · simp only [Vit.ln, natK_eq]; rfl
theorem IL.ln {m : Mem} {v : Value} {l : List Int} (h : IL m v l) : Vit.ln v = some (.int .i64 (l.length : Int)) := Sl.ln h
/-- The address of an element. -/
def ep (sz : Nat) (v : Value) (i : Nat) : Value := match v with
  | .slice (some ⟨b, o, _⟩) _ _ => .pointer (some ⟨b, o + i * sz, none⟩)
  | _ => v
theorem Sl.at {sz : Nat} {m : Mem} {v : Value} {n : Nat} {cs : List Value} (h : Sl sz m v n cs) {i : Nat} (hi : i < n) : ∃ b o x c k, v = .slice (some ⟨b, o, x⟩) n c ∧ m.rd b = some k ∧ k.ents = none ∧ o + n * sz ≤ k.cells.length ∧ cs = (k.cells.drop o).take (n * sz) := by
  rcases h with ⟨h1, rfl | ⟨b, o, x, c, rfl⟩⟩
  · cases h1; exact absurd hi (by omega)
  · cases n with
    | zero => exact absurd hi (by omega)
    | succ n =>
      simp only [asrc] at h1
      split at h1
      · rename_i cs' hr
        unfold rdc at hr
        split at hr
        · rename_i k hk
          split at hr
          · rename_i he
            split at hr
            · rename_i hb
              cases hr
              cases h1
              exact ⟨b, o, x, c, k, rfl, hk, he, by simpa using hb, rfl⟩
            · cases hr
          · cases hr
        · cases hr
      · cases h1
theorem Sl.ia {sz : Nat} {m : Mem} {v : Value} {n : Nat} {cs : List Value} (h : Sl sz m v n cs) {i : Nat} (hi : i < n) : Vit.ia sz v (.int .i64 (i : Int)) = some (ep sz v i) := by
  obtain ⟨b, o, x, c, k, rfl, _⟩ := h.at hi
  have hb : Nat.blt i n = true := by simpa using hi
  show Vit.ia sz _ (.int .i64 (Int.ofNat i)) = _
  simp only [Vit.ia, hb, natK_eq, ep]
  rfl
theorem IL.ia {m : Mem} {v : Value} {l : List Int} (h : IL m v l) {i : Nat} (hi : i < l.length) : Vit.ia 1 v (.int .i64 (i : Int)) = some (ep 1 v i) := Sl.ia h hi
theorem Sl.ld {m : Mem} {v : Value} {n : Nat} {cs : List Value} (h : Sl 1 m v n cs) {i : Nat} {x : Value} (hi : i < n) (hx : cs[i]? = some x) : ld1 m (ep 1 v i) = some x := by
  obtain ⟨b, o, y, c, k, rfl, hk, he, hl, rfl⟩ := h.at hi
  simp only [ep, ld1, hk, he, lget_eq, Nat.mul_one]
  rw [List.getElem?_take] at hx
  split at hx
  · rw [List.getElem?_drop] at hx; exact hx
  · cases hx
theorem IL.ld {m : Mem} {v : Value} {l : List Int} (h : IL m v l) {i : Nat} (hi : i < l.length) : ld1 m (ep 1 v i) = some (.int .i64 l[i]) :=
  Sl.ld h hi (by simp [hi])

/-- A slice that was grown by appends: nil, or a whole block of the run's own. -/
def Gs (sz : Nat) (L : Nat) (m : Mem) (v : Value) (n : Nat) (cs : List Value) : Prop :=
  (v = .slice none 0 0 ∧ n = 0 ∧ cs = []) ∨ ∃ b, L ≤ b ∧ v = .slice (some ⟨b, 0, none⟩) n n ∧ m.rd b = some ⟨sz, cs, none⟩ ∧ cs.length = n * sz ∧ 0 < n
theorem Gs.sl {sz L : Nat} {m : Mem} {v : Value} {n : Nat} {cs : List Value} (h : Gs sz L m v n cs) : Sl sz m v n cs := by
  rcases h with ⟨rfl, rfl, rfl⟩ | ⟨b, _, rfl, hr, hl, hn⟩
  · exact ⟨rfl, .inl rfl⟩
  · refine ⟨?_, .inr ⟨_, _, _, _, rfl⟩⟩
    cases n with
    | zero => exact absurd hn (by omega)
    | succ n =>
      have e1 : rdc m b 0 ((n + 1) * sz) = some cs := by
        simp only [rdc, hr]
        have : Nat.ble (Nat.add 0 ((n + 1) * sz)) cs.length = true := by simp [hl]
        rw [this]
        simp only [List.drop_zero]
        rw [← hl, List.take_length]
      simp only [asrc]
      rw [show Nat.mul (n + 1) sz = (n + 1) * sz from rfl, e1]
theorem Gs.mono {sz L : Nat} {m m' : Mem} {v : Value} {n : Nat} {cs : List Value} (h : Gs sz L m v n cs) (e : Gt m m') : Gs sz L m' v n cs := by
  rcases h with h | ⟨b, h1, h2, h3, h4⟩
  · exact .inl h
  · exact .inr ⟨b, h1, h2, (e.kept b (Mem.rd_lt h3)).trans h3, h4⟩
theorem Gs.le {sz L L' : Nat} {m : Mem} {v : Value} {n : Nat} {cs : List Value} (h : Gs sz L m v n cs) (hl : L' ≤ L) : Gs sz L' m v n cs := by
  rcases h with h | ⟨b, h1, h2⟩
  · exact .inl h
  · exact .inr ⟨b, by omega, h2⟩
theorem Gs.nil (sz L : Nat) (m : Mem) : Gs sz L m (.slice none 0 0) 0 [] := .inl ⟨rfl, rfl, rfl⟩
/-- .. of ints. -/
def GL (L : Nat) (m : Mem) (v : Value) (l : List Int) : Prop := Gs 1 L m v l.length (l.map (Value.int .i64))
theorem GL.il {L : Nat} {m : Mem} {v : Value} {l : List Int} (h : GL L m v l) : IL m v l := Gs.sl h
theorem GL.mono {L : Nat} {m m' : Mem} {v : Value} {l : List Int} (h : GL L m v l) (e : Gt m m') : GL L m' v l := Gs.mono h e
theorem GL.le {L L' : Nat} {m : Mem} {v : Value} {l : List Int} (h : GL L m v l) (hl : L' ≤ L) : GL L' m v l := Gs.le h hl
theorem GL.nil (L : Nat) (m : Mem) : GL L m (.slice none 0 0) [] := Gs.nil 1 L m
theorem GL.ln {L : Nat} {m : Mem} {v : Value} {l : List Int} (h : GL L m v l) : Vit.ln v = some (.int .i64 (l.length : Int)) := h.il.ln

theorem allOne_map (l : List Int) : allOne (l.map (Value.int .i64)) = true := by
  induction l with
  | nil => rfl
  | cons x l ih => simp [allOne, oneCell, ih]
/-- Append to a grown slice. m0: what must stay. -/
theorem Gs.append {P : Program} {t : TypeId} {sz y L L0 : Nat} {m0 m : Mem} {v x : Value} {n j : Nat} {cs ds : List Value} (ht : aelem P t = some (sz, y)) (h : Gs sz L0 m v n cs) (hx : Sl sz m x j ds) (hj : 0 < j) (ho : allOne ds = true)
    (hr : roomy (n + j) y = true) (hd : ds.length = j * sz) (hL : L ≤ L0) (e : Gt m0 m) (hm : m0.next ≤ L0) : ∃ u m', aappend P L m t v x = some (u, m') ∧ Gs sz m.next m' u (n + j) (cs ++ ds) ∧ Gt m0 m' ∧ m.next ≤ m'.next := by
  obtain ⟨j, rfl⟩ : ∃ i, j = i + 1 := ⟨j - 1, by omega⟩
  rcases h with ⟨rfl, rfl, rfl⟩ | ⟨b, hb, rfl, hr', hl, hn⟩
  · have hr2 : roomy (Nat.succ j) y = true := by simpa using hr
    refine ⟨slTo (j + 1) m.next, m.push ⟨sz, ds, none⟩, ?_, .inr ⟨m.next, Nat.le_refl _, ?_, Mem.rd_push _ _, by simpa using hd, by omega⟩, e.trans (Mem.gt_push _ _), (Mem.gt_push _ _).next⟩
    · unfold aappend
      rw [ht]
      simp only [hx.1, hr2]
      exact anew_eq _ _ _ _
    · simp [slTo]
  · have hble : Nat.ble (Nat.add n (Nat.succ j)) n = false := by
      cases hb : Nat.ble (Nat.add n (Nat.succ j)) n with
      | false => rfl
      | true => have := Nat.le_of_ble_eq_true hb; simp at this; omega
    have hs : Sl sz m (.slice (some ⟨b, 0, none⟩) n n) n cs := Gs.sl (.inr ⟨b, Nat.le_refl _, rfl, hr', hl, hn⟩)
    have hold : rdc m b 0 (Nat.mul n sz) = some cs := by
      have := hs.1
      cases n with
      | zero => exact absurd hn (by omega)
      | succ n =>
        simp only [asrc] at this
        split at this
        · rename_i q hq; cases this; exact hq
        · cases this
    have hLb : Nat.ble L b = true := by rw [Nat.ble_eq]; omega
    have hnn : Nat.ble n n = true := by rw [Nat.ble_eq]; omega
    have hr2 : roomy (Nat.add n (Nat.succ j)) y = true := hr
    have hq : (Nat.beq sz sz && (Nat.beq (Nat.add 0 (Nat.mul n sz)) cs.length && allOne ds)) = true := by
      have : Nat.beq (Nat.add 0 (Nat.mul n sz)) cs.length = true := by rw [Nat.beq_eq, hl]; simp
      rw [this, ho, Nat.beq_refl]; rfl
    have hbn := Mem.rd_lt hr'
    refine ⟨slTo (n + (j + 1)) m.next, (m.put b none).push ⟨sz, cs ++ ds, none⟩, ?_, .inr ⟨m.next, Nat.le_refl _, rfl, Mem.rd_push (m.put b none) _, ?_, by omega⟩, (Mem.put_gt e none (by omega)).trans (Mem.gt_push _ _), (Mem.gt_push (m.put b none) _).next⟩
    · unfold aappend
      rw [ht]
      simp only [hx.1, natK_eq, hnn, hble, hr2, hold, hLb, hr', hq, anew_eq]
      rfl
    · rw [List.length_append, hl, hd, ← Nat.add_mul]
theorem roomy_of {n y : Nat} (h : n ≤ 1048576) (hy : y ≤ 134217728) : roomy n y = true := by
  have h2 : n * y ≤ 1048576 * 134217728 := Nat.mul_le_mul h hy
  unfold roomy
  have h3 : n * y ≤ 140737488355328 := by omega
  rw [show Nat.mul n y = n * y from rfl, Nat.ble_eq_true_of_le h, Nat.ble_eq_true_of_le h3]
  rfl
/-- A literal of one element is appended. -/
theorem GL.snoc {P : Program} {t : TypeId} {y L L0 : Nat} {m0 m : Mem} {v : Value} {l : List Int} (x : Int) (ht : aelem P t = some (1, y)) (hy : y ≤ 134217728) (h : GL L0 m v l) (hl : l.length < 1048576) (hL : L ≤ L0) (e : Gt m0 m) (hm : m0.next ≤ L0) :
    ∃ u m', aappend P L (m.push ⟨1, [.int .i64 x], none⟩) t v (slTo 1 m.next) = some (u, m') ∧ GL m.next m' u (l ++ [x]) ∧ Gt m0 m' ∧ m.next ≤ m'.next := by
  have h1 : Sl 1 (m.push ⟨1, [.int .i64 x], none⟩) (slTo 1 m.next) 1 [.int .i64 x] := Gs.sl (L := m.next) (.inr ⟨m.next, Nat.le_refl _, rfl, Mem.rd_push _ _, rfl, by omega⟩)
  obtain ⟨u, m', h2, h3, h4, h5⟩ := Gs.append (P := P) (L := L) (m0 := m0) ht (Gs.mono h (Mem.gt_push _ ⟨1, [.int .i64 x], none⟩)) h1 (by omega) rfl (roomy_of (by omega) hy) rfl hL (e.trans (Mem.gt_push _ _)) hm
  have h6 := (Mem.gt_push m ⟨1, [.int .i64 x], none⟩).next
  refine ⟨u, m', h2, ?_, h4, by omega⟩
  have h7 : Gs 1 m.next m' u (l.length + 1) (l.map (Value.int .i64) ++ [.int .i64 x]) := Gs.le h3 h6
  simpa [GL] using h7
end Go.Vit
