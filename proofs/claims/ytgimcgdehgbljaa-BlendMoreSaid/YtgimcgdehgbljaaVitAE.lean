/- Slices of slices of ints; blocks kept but one. -/
import Derived.Test.YtgimcgdehgbljaaVitAB
import Derived.Test.YtgimcgdehgbljaaVitZ
set_option linter.unusedSimpArgs false
set_option linter.unusedVariables false
namespace Go.Vit
open Go
theorem Sl.keep {sz : Nat} {m m' : Mem} {v : Value} {n : Nat} {cs : List Value} (h : Sl sz m v n cs) (hk : ∀ c, bid v = some c → m'.rd c = m.rd c) : Sl sz m' v n cs := by
  refine ⟨?_, h.2⟩
  have h1 := h.1
  unfold asrc at h1 ⊢
  split at h1
  · exact h1
  · split at h1
    · exact h1
    · split at h1
      · rename_i cs' hr
        unfold rdc at hr ⊢
        rw [hk _ rfl]
        rw [hr]
        exact h1
      · cases h1
  · cases h1
theorem IN.keep {m m' : Mem} {v : Value} {l : List Nat} (h : IN m v l) (hk : ∀ c, bid v = some c → m'.rd c = m.rd c) : IN m' v l := Sl.keep h hk
theorem Gs.bid_lt {sz L : Nat} {m : Mem} {v : Value} {n : Nat} {cs : List Value} (h : Gs sz L m v n cs) : ∀ c, bid v = some c → L ≤ c ∧ c < m.next := by
  intro c hc
  rcases h with ⟨rfl, _⟩ | ⟨b, h1, rfl, hr, _⟩
  · cases hc
  · cases hc; exact ⟨h1, Mem.rd_lt hr⟩
/-- A slice of slices, read. -/
def LL (m : Mem) (u : Value) (ll : List (List Nat)) : Prop :=
  ∃ cs, Sl 1 m u ll.length cs ∧ ∀ i (h : i < ll.length), ∃ v, cs[i]? = some v ∧ IN m v ll[i]
theorem LL.mono {m m' : Mem} {u : Value} {ll : List (List Nat)} (h : LL m u ll) (e : Gt m m') : LL m' u ll := by
  obtain ⟨cs, h1, h2⟩ := h
  refine ⟨cs, h1.mono e, fun i hi => ?_⟩
  obtain ⟨v, g1, g2⟩ := h2 i hi
  exact ⟨v, g1, g2.mono e⟩
theorem LL.nil (m : Mem) : LL m (.slice none 0 0) [] := ⟨[], ⟨rfl, .inl rfl⟩, fun i hi => by cases hi⟩
theorem LL.ln {m : Mem} {u : Value} {ll : List (List Nat)} (h : LL m u ll) : Vit.ln u = some (.int .i64 (ll.length : Int)) := by
  obtain ⟨cs, h1, _⟩ := h; exact h1.ln
theorem LL.ex {m : Mem} {u : Value} {ll : List (List Nat)} (h : LL m u ll) : ∃ p c, u = .slice p ll.length c := by
  obtain ⟨cs, h1, _⟩ := h; exact h1.ex
theorem LL.ia {m : Mem} {u : Value} {ll : List (List Nat)} (h : LL m u ll) {i : Nat} (hi : i < ll.length) : Vit.ia 1 u (.int .i64 (i : Int)) = some (ep 1 u i) := by
  obtain ⟨cs, h1, _⟩ := h; exact h1.ia hi
theorem LL.ld {m : Mem} {u : Value} {ll : List (List Nat)} (h : LL m u ll) {i : Nat} (hi : i < ll.length) : ∃ v, ld1 m (ep 1 u i) = some v ∧ IN m v ll[i] := by
  obtain ⟨cs, h1, h2⟩ := h
  obtain ⟨v, g1, g2⟩ := h2 i hi
  exact ⟨v, h1.ld hi g1, g2⟩
/-- A grown slice of slices. -/
def LG (lo : Nat) (m : Mem) (u : Value) (ll : List (List Nat)) : Prop :=
  ∃ L1 cs, lo ≤ L1 ∧ L1 ≤ m.next ∧ Gs 1 L1 m u ll.length cs ∧ ∀ i (h : i < ll.length), ∃ v, cs[i]? = some v ∧ IN m v ll[i] ∧ ∀ c, bid v = some c → lo ≤ c ∧ c < L1
theorem LG.ll {lo : Nat} {m : Mem} {u : Value} {ll : List (List Nat)} (h : LG lo m u ll) : LL m u ll := by
  obtain ⟨L1, cs, h1, h2, h3, h4⟩ := h
  refine ⟨cs, h3.sl, fun i hi => ?_⟩
  obtain ⟨v, g1, g2, g3⟩ := h4 i hi
  exact ⟨v, g1, g2⟩
theorem LG.keep {lo : Nat} {m m' : Mem} {u : Value} {ll : List (List Nat)} (h : LG lo m u ll) (hk : ∀ c, lo ≤ c → c < m.next → m'.rd c = m.rd c) (hn : m.next ≤ m'.next) : LG lo m' u ll := by
  obtain ⟨L1, cs, h1, h2, h3, h4⟩ := h
  refine ⟨L1, cs, h1, by omega, ?_, fun i hi => ?_⟩
  · rcases h3 with h3 | ⟨b, g1, g2, g3, g4⟩
    · exact .inl h3
    · exact .inr ⟨b, g1, g2, (hk b (by omega) (Mem.rd_lt g3)).trans g3, g4⟩
  · obtain ⟨v, g1, g2, g3⟩ := h4 i hi
    exact ⟨v, g1, g2.keep fun c hc => hk c (g3 c hc).1 (by have := g3 c hc; omega), g3⟩
theorem LG.mono {lo : Nat} {m m' : Mem} {u : Value} {ll : List (List Nat)} (h : LG lo m u ll) (e : Gt m m') : LG lo m' u ll := h.keep (fun c _ hc => e.kept c hc) e.next
theorem LG.le {lo lo' : Nat} {m : Mem} {u : Value} {ll : List (List Nat)} (h : LG lo m u ll) (hl : lo' ≤ lo) : LG lo' m u ll := by
  obtain ⟨L1, cs, h1, h2, h3, h4⟩ := h
  refine ⟨L1, cs, by omega, h2, h3, fun i hi => ?_⟩
  obtain ⟨v, g1, g2, g3⟩ := h4 i hi
  exact ⟨v, g1, g2, fun c hc => ⟨by have := (g3 c hc).1; omega, (g3 c hc).2⟩⟩
theorem LG.nil {lo : Nat} {m : Mem} (h : lo ≤ m.next) : LG lo m (.slice none 0 0) [] := ⟨lo, [], Nat.le_refl _, h, Gs.nil _ _ _, fun i hi => by cases hi⟩
theorem LG.ln {lo : Nat} {m : Mem} {u : Value} {ll : List (List Nat)} (h : LG lo m u ll) : Vit.ln u = some (.int .i64 (ll.length : Int)) := h.ll.ln
theorem LG.fr {lo : Nat} {m : Mem} {u : Value} {ll : List (List Nat)} (h : LG lo m u ll) : ∀ c, bid u = some c → lo ≤ c ∧ c < m.next := by
  obtain ⟨L1, cs, h1, h2, h3, h4⟩ := h
  intro c hc
  have := h3.bid_lt c hc
  omega
/-- .. all of it within some blocks. -/
def LR (m : Mem) (u : Value) (ll : List (List Nat)) (lo hi : Nat) : Prop :=
  ∃ cs, Sl 1 m u ll.length cs ∧ (∀ c, bid u = some c → lo ≤ c ∧ c < hi) ∧ ∀ i (h : i < ll.length), ∃ v, cs[i]? = some v ∧ IN m v ll[i] ∧ ∀ c, bid v = some c → lo ≤ c ∧ c < hi
theorem LR.keep {m m' : Mem} {u : Value} {ll : List (List Nat)} {lo hi : Nat} (h : LR m u ll lo hi) (hk : ∀ c, lo ≤ c → c < hi → m'.rd c = m.rd c) : LR m' u ll lo hi := by
  obtain ⟨cs, h1, h2, h3⟩ := h
  refine ⟨cs, h1.keep fun c hc => hk c (h2 c hc).1 (h2 c hc).2, h2, fun i hi' => ?_⟩
  obtain ⟨v, g1, g2, g3⟩ := h3 i hi'
  exact ⟨v, g1, g2.keep fun c hc => hk c (g3 c hc).1 (g3 c hc).2, g3⟩
theorem LR.ll {m : Mem} {u : Value} {ll : List (List Nat)} {lo hi : Nat} (h : LR m u ll lo hi) : LL m u ll := by
  obtain ⟨cs, h1, h2, h3⟩ := h
  refine ⟨cs, h1, fun i hi' => ?_⟩
  obtain ⟨v, g1, g2, g3⟩ := h3 i hi'
  exact ⟨v, g1, g2⟩
theorem LG.lr {lo : Nat} {m : Mem} {u : Value} {ll : List (List Nat)} (h : LG lo m u ll) : LR m u ll lo m.next := by
  have hf := h.fr
  obtain ⟨L1, cs, h1, h2, h3, h4⟩ := h
  refine ⟨cs, h3.sl, hf, fun i hi => ?_⟩
  obtain ⟨v, g1, g2, g3⟩ := h4 i hi
  exact ⟨v, g1, g2, fun c hc => by have := g3 c hc; omega⟩
/-- A literal of one slice. -/
theorem LG.one {lo : Nat} {m : Mem} {v : Value} {w : List Nat} (hw : IN m v w) (hvb : ∀ c, bid v = some c → lo ≤ c ∧ c < m.next) (hlo : lo ≤ m.next) : LG lo (m.push ⟨1, [v], none⟩) (slTo 1 m.next) [w] := by
  have gp := Mem.gt_push m ⟨1, [v], none⟩
  refine ⟨m.next, [v], hlo, gp.next, .inr ⟨m.next, Nat.le_refl _, rfl, Mem.rd_push _ _, rfl, Nat.zero_lt_one⟩, fun i hi => ?_⟩
  have : i = 0 := by simp at hi; omega
  subst this
  exact ⟨v, rfl, hw.mono gp, hvb⟩
theorem LG.snoc {P : Program} {t : TypeId} {y lo L : Nat} {m0 m : Mem} {u v : Value} {ll : List (List Nat)} {w : List Nat} (ht : aelem P t = some (1, y)) (hy : y ≤ 134217728) (h : LG lo m u ll) (hw : IN m v w) (hvb : ∀ c, bid v = some c → lo ≤ c ∧ c < m.next) (hne : ∀ c, bid v = some c → bid u ≠ some c)
    (hl : ll.length < 1000000) (hL : L ≤ lo) (e : Gt m0 m) (hm : m0.next ≤ lo) :
    ∃ x m', aappend P L (m.push ⟨1, [v], none⟩) t u (slTo 1 m.next) = some (x, m') ∧ LG lo m' x (ll ++ [w]) ∧ Gt m0 m' ∧ (∀ c, bid x = some c → m.next ≤ c) ∧ m.next ≤ m'.next ∧ ∀ c, c < m.next → bid u ≠ some c → m'.rd c = m.rd c := by
  obtain ⟨L1, cs, h1, h2, h3, h4⟩ := h
  have gp := Mem.gt_push m ⟨1, [v], none⟩
  have hx : Sl 1 (m.push ⟨1, [v], none⟩) (slTo 1 m.next) 1 [v] := Gs.sl (L := m.next) (.inr ⟨m.next, Nat.le_refl _, rfl, Mem.rd_push _ _, rfl, by omega⟩)
  have ho : allOne [v] = true := by
    obtain ⟨p, c, rfl⟩ := hw.ex
    rfl
  have hnx : (m.push ⟨1, [v], none⟩).next = m.next + 1 := Mem.push_next _ _
  obtain ⟨x, m', g1, g2, g3, g4, g5⟩ := Gs.append2 (P := P) (L := L) (m0 := m0) ht (h3.mono gp) hx (by omega) ho (roomy_of (by omega) hy) rfl (by omega) (e.trans gp) (by omega)
  have hkeep : ∀ c, c < m.next → bid u ≠ some c → m'.rd c = m.rd c := fun c hc hb => (g5 c (by omega) hb).trans (gp.kept c hc)
  have hub : ∀ c, c < L1 → bid u ≠ some c := fun c hc hb => by have := h3.fr c hb; omega
  have hcl : cs.length = ll.length := by
    rcases h3 with ⟨_, a2, a3⟩ | ⟨_, _, _, _, a5, _⟩
    · rw [a2, a3]; rfl
    · omega
  refine ⟨x, m', g1, ⟨m.next + 1, cs ++ [v], by omega, by omega, ?_, fun i hi => ?_⟩, g3, fun c hc => ?_, by omega, hkeep⟩
  · rw [List.length_append]
    exact g2.le (by omega)
  · rw [List.length_append] at hi
    by_cases hil : i < ll.length
    · obtain ⟨y, k1, k2, k3⟩ := h4 i hil
      refine ⟨y, ?_, ?_, fun c hc => by have := k3 c hc; omega⟩
      · rw [List.getElem?_append_left (by omega)]; exact k1
      · rw [List.getElem_append_left hil]
        exact k2.keep fun c hc => hkeep c (by have := k3 c hc; omega) (hub c (k3 c hc).2)
    · have hie : i = ll.length := by simp at hi; omega
      subst hie
      refine ⟨v, ?_, ?_, fun c hc => by have := hvb c hc; omega⟩
      · rw [List.getElem?_append_right (by omega), hcl, Nat.sub_self]; rfl
      · rw [List.getElem_append_right (by omega)]
        simp only [Nat.sub_self, List.getElem_cons_zero]
        exact hw.keep fun c hc => hkeep c (hvb c hc).2 (hne c hc)
  · have := g2.fr c hc; omega
end Go.Vit
