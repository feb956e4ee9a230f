/- Slices of slices of ints; all arrangements, as the reference lists them. -/
import Derived.Test.YtffomiamkiakcaaW7
import Derived.Test.YtffomiamkiakcaaCoreD
set_option linter.unusedSimpArgs false
set_option linter.unusedVariables false
set_option maxRecDepth 20000
namespace Go.Vit
open Go Go.Proofs
/-- A slice of slices, read. -/
def LI (m : Mem) (u : Value) (ll : List (List Int)) : Prop :=
  ∃ cs, Sl 1 m u ll.length cs ∧ ∀ i (h : i < ll.length), ∃ v, cs[i]? = some v ∧ IL m v ll[i]
theorem LI.mono {m m' : Mem} {u : Value} {ll : List (List Int)} (h : LI m u ll) (e : Gt m m') : LI m' u ll := by
  obtain ⟨cs, h1, h2⟩ := h
  refine ⟨cs, h1.mono e, fun i hi => ?_⟩
  obtain ⟨v, g1, g2⟩ := h2 i hi
  exact ⟨v, g1, g2.mono e⟩
theorem LI.nil (m : Mem) : LI m (.slice none 0 0) [] := ⟨[], ⟨rfl, .inl rfl⟩, fun i hi => by cases hi⟩
theorem LI.ln {m : Mem} {u : Value} {ll : List (List Int)} (h : LI m u ll) : Vit.ln u = some (.int .i64 (ll.length : Int)) := by
  obtain ⟨cs, h1, _⟩ := h; exact h1.ln
theorem LI.ex {m : Mem} {u : Value} {ll : List (List Int)} (h : LI m u ll) : ∃ p c, u = .slice p ll.length c := by
  obtain ⟨cs, h1, _⟩ := h; exact h1.ex
theorem LI.ia {m : Mem} {u : Value} {ll : List (List Int)} (h : LI m u ll) {i : Nat} (hi : i < ll.length) : Vit.ia 1 u (.int .i64 (i : Int)) = some (ep 1 u i) := by
  obtain ⟨cs, h1, _⟩ := h; exact h1.ia hi
theorem LI.ld {m : Mem} {u : Value} {ll : List (List Int)} (h : LI m u ll) {i : Nat} (hi : i < ll.length) : ∃ v, ld1 m (ep 1 u i) = some v ∧ IL m v ll[i] := by
  obtain ⟨cs, h1, h2⟩ := h
  obtain ⟨v, g1, g2⟩ := h2 i hi
  exact ⟨v, h1.ld hi g1, g2⟩
/-- A grown slice of slices. -/
def LJ (lo : Nat) (m : Mem) (u : Value) (ll : List (List Int)) : Prop :=
  ∃ L1 cs, lo ≤ L1 ∧ L1 ≤ m.next ∧ Gs 1 L1 m u ll.length cs ∧ ∀ i (h : i < ll.length), ∃ v, cs[i]? = some v ∧ IL m v ll[i] ∧ ∀ c, bid v = some c → lo ≤ c ∧ c < L1
theorem LJ.li {lo : Nat} {m : Mem} {u : Value} {ll : List (List Int)} (h : LJ lo m u ll) : LI m u ll := by
  obtain ⟨L1, cs, h1, h2, h3, h4⟩ := h
  refine ⟨cs, h3.sl, fun i hi => ?_⟩
  obtain ⟨v, g1, g2, g3⟩ := h4 i hi
  exact ⟨v, g1, g2⟩
theorem LJ.keep {lo : Nat} {m m' : Mem} {u : Value} {ll : List (List Int)} (h : LJ lo m u ll) (hk : ∀ c, lo ≤ c → c < m.next → m'.rd c = m.rd c) (hn : m.next ≤ m'.next) : LJ lo m' u ll := by
  obtain ⟨L1, cs, h1, h2, h3, h4⟩ := h
  refine ⟨L1, cs, h1, by omega, ?_, fun i hi => ?_⟩
  · rcases h3 with h3 | ⟨b, g1, g2, g3, g4⟩
    · exact .inl h3
    · exact .inr ⟨b, g1, g2, (hk b (by omega) (Mem.rd_lt g3)).trans g3, g4⟩
  · obtain ⟨v, g1, g2, g3⟩ := h4 i hi
    exact ⟨v, g1, g2.keep fun c hc => hk c (g3 c hc).1 (by have := g3 c hc; omega), g3⟩
theorem LJ.mono {lo : Nat} {m m' : Mem} {u : Value} {ll : List (List Int)} (h : LJ lo m u ll) (e : Gt m m') : LJ lo m' u ll := h.keep (fun c _ hc => e.kept c hc) e.next
theorem LJ.le {lo lo' : Nat} {m : Mem} {u : Value} {ll : List (List Int)} (h : LJ lo m u ll) (hl : lo' ≤ lo) : LJ lo' m u ll := by
  obtain ⟨L1, cs, h1, h2, h3, h4⟩ := h
  refine ⟨L1, cs, by omega, h2, h3, fun i hi => ?_⟩
  obtain ⟨v, g1, g2, g3⟩ := h4 i hi
  exact ⟨v, g1, g2, fun c hc => ⟨by have := (g3 c hc).1; omega, (g3 c hc).2⟩⟩
theorem LJ.nil {lo : Nat} {m : Mem} (h : lo ≤ m.next) : LJ lo m (.slice none 0 0) [] := ⟨lo, [], Nat.le_refl _, h, Gs.nil _ _ _, fun i hi => by cases hi⟩
theorem LJ.ln {lo : Nat} {m : Mem} {u : Value} {ll : List (List Int)} (h : LJ lo m u ll) : Vit.ln u = some (.int .i64 (ll.length : Int)) := h.li.ln
theorem LJ.fr {lo : Nat} {m : Mem} {u : Value} {ll : List (List Int)} (h : LJ lo m u ll) : ∀ c, bid u = some c → lo ≤ c ∧ c < m.next := by
  obtain ⟨L1, cs, h1, h2, h3, h4⟩ := h
  intro c hc
  have := h3.bid_lt c hc
  omega
/-- A literal of one slice. -/
theorem LJ.one {lo : Nat} {m : Mem} {v : Value} {w : List Int} (hw : IL m v w) (hvb : ∀ c, bid v = some c → lo ≤ c ∧ c < m.next) (hlo : lo ≤ m.next) : LJ lo (m.push ⟨1, [v], none⟩) (slTo 1 m.next) [w] := by
  have gp := Mem.gt_push m ⟨1, [v], none⟩
  refine ⟨m.next, [v], hlo, gp.next, .inr ⟨m.next, Nat.le_refl _, rfl, Mem.rd_push _ _, rfl, Nat.zero_lt_one⟩, fun i hi => ?_⟩
  have : i = 0 := by simp at hi; omega
  subst this
  exact ⟨v, rfl, hw.mono gp, hvb⟩
theorem LJ.snoc {P : Program} {t : TypeId} {y lo L : Nat} {m0 m : Mem} {u v : Value} {ll : List (List Int)} {w : List Int} (ht : aelem P t = some (1, y)) (hy : y ≤ 134217728) (h : LJ lo m u ll) (hw : IL m v w) (hvb : ∀ c, bid v = some c → lo ≤ c ∧ c < m.next) (hne : ∀ c, bid v = some c → bid u ≠ some c)
    (hl : ll.length < 1000000) (hL : L ≤ lo) (e : Gt m0 m) (hm : m0.next ≤ lo) :
    ∃ x m', aappend P L (m.push ⟨1, [v], none⟩) t u (slTo 1 m.next) = some (x, m') ∧ LJ lo m' x (ll ++ [w]) ∧ Gt m0 m' ∧ (∀ c, bid x = some c → m.next ≤ c) ∧ m.next ≤ m'.next ∧ ∀ c, c < m.next → bid u ≠ some c → m'.rd c = m.rd c := by
  obtain ⟨L1, cs, h1, h2, h3, h4⟩ := h
  have gp := Mem.gt_push m ⟨1, [v], none⟩
  have hx : Sl 1 (m.push ⟨1, [v], none⟩) (slTo 1 m.next) 1 [v] := Gs.sl (L := m.next) (.inr ⟨m.next, Nat.le_refl _, rfl, Mem.rd_push _ _, rfl, by omega⟩)
  have ho : allOne [v] = true := by
    obtain ⟨p, c, rfl⟩ := hw.ex
    rfl
  have hnx : (m.push ⟨1, [v], none⟩).next = m.next + 1 := Mem.push_next _ _
  obtain ⟨x, m', g1, g2, g3, g4, g5⟩ := Gs.append2 (P := P) (L := L) (m0 := m0) ht (h3.mono gp) hx (by omega) ho (roomy_of (by omega) hy) rfl (by omega) (e.trans gp) (by omega)
  have hkeep : ∀ c, c < m.next → bid u ≠ some c → m'.rd c = m.rd c := fun c hc hb => (g5 c (by omega) hb).trans (gp.kept c hc)
  have hub : ∀ c, c < L1 → bid u ≠ some c := fun c hc hb => by have := h3.fr c hb; omega
  have hcl : cs.length = ll.length := by
    rcases h3 with ⟨_, a2, a3⟩ | ⟨_, _, _, _, a5, _⟩
    · rw [a2, a3]; rfl
    · omega
  refine ⟨x, m', g1, ⟨m.next + 1, cs ++ [v], by omega, by omega, ?_, fun i hi => ?_⟩, g3, fun c hc => ?_, by omega, hkeep⟩
  · rw [List.length_append]
    exact g2.le (by omega)
  · rw [List.length_append] at hi
    by_cases hil : i < ll.length
    · obtain ⟨y, k1, k2, k3⟩ := h4 i hil
      refine ⟨y, ?_, ?_, fun c hc => by have := k3 c hc; omega⟩
      · rw [List.getElem?_append_left (by omega)]; exact k1
      · rw [List.getElem_append_left hil]
        exact k2.keep fun c hc => hkeep c (by have := k3 c hc; omega) (hub c (k3 c hc).2)
    · have hie : i = ll.length := by simp at hi; omega
      subst hie
      refine ⟨v, ?_, ?_, fun c hc => by have := hvb c hc; omega⟩
      · rw [List.getElem?_append_right (by omega), hcl, Nat.sub_self]; rfl
      · rw [List.getElem_append_right (by omega)]
        simp only [Nat.sub_self, List.getElem_cons_zero]
        exact hw.keep fun c hc => hkeep c (hvb c hc).2 (hne c hc)
  · have := g2.fr c hc; omega

theorem allOne_of : ∀ {cs : List Value}, (∀ v ∈ cs, oneCell v = true) → allOne cs = true
  | [], _ => rfl
  | v :: cs, h => by
    show (oneCell v && allOne cs) = true
    rw [h v (by simp), allOne_of fun w hw => h w (List.mem_cons_of_mem _ hw)]; rfl
theorem LJ.cl {lo : Nat} {m : Mem} {u : Value} {ll : List (List Int)} {L1 : Nat} {cs : List Value} (h3 : Gs 1 L1 m u ll.length cs) : cs.length = ll.length := by
  rcases h3 with ⟨_, a2, a3⟩ | ⟨_, _, _, _, a5, _⟩
  · rw [a2, a3]; rfl
  · omega
theorem LJ.app {P : Program} {t : TypeId} {y lo lo' L : Nat} {m : Mem} {u x : Value} {ll l2 : List (List Int)} (ht : aelem P t = some (1, y)) (hy : y ≤ 134217728) (h : LJ lo m u ll) (hx : LJ lo' m x l2) (h0 : 0 < l2.length) (hlo : lo ≤ lo') (hub : ∀ c, bid u = some c → c < lo')
    (hl : ll.length + l2.length < 1000000) (hL : L ≤ lo) :
    ∃ z m', aappend P L m t u x = some (z, m') ∧ LJ lo m' z (ll ++ l2) ∧ (∀ c, bid z = some c → m.next ≤ c) ∧ m.next ≤ m'.next ∧ ∀ c, c < m.next → bid u ≠ some c → m'.rd c = m.rd c := by
  obtain ⟨L1, cs, h1, h2, h3, h4⟩ := h
  obtain ⟨L2, ds, k1, k2, k3, k4⟩ := hx
  have hcl := LJ.cl (lo := lo) h3
  have hdl := LJ.cl (lo := lo') k3
  have ho : allOne ds = true := allOne_of fun v hv => by
    obtain ⟨i, hi, rfl⟩ := List.getElem_of_mem hv
    obtain ⟨w, w1, w2, _⟩ := k4 i (by omega)
    rw [List.getElem?_eq_getElem hi] at w1
    injection w1 with w1
    rw [w1]
    obtain ⟨p, c, rfl⟩ := w2.ex
    rfl
  obtain ⟨z, m', g1, g2, g3, g4, g5⟩ := Gs.append2 (P := P) (L := L) (m0 := ⟨.e, 0⟩) ht h3 k3.sl h0 ho (roomy_of (by omega) hy) (by omega) (by omega) (gt0 _) (Nat.zero_le _)
  have hub2 : ∀ c, c < L1 → bid u ≠ some c := fun c hc hb => by have := h3.fr c hb; omega
  refine ⟨z, m', g1, ⟨m.next, cs ++ ds, by omega, g4, ?_, fun i hi => ?_⟩, fun c hc => g2.fr c hc, g4, g5⟩
  · rw [List.length_append]
    exact g2
  · rw [List.length_append] at hi
    by_cases hil : i < ll.length
    · obtain ⟨y, q1, q2, q3⟩ := h4 i hil
      refine ⟨y, ?_, ?_, fun c hc => by have := q3 c hc; omega⟩
      · rw [List.getElem?_append_left (by omega)]; exact q1
      · rw [List.getElem_append_left hil]
        exact q2.keep fun c hc => g5 c (by have := q3 c hc; omega) (hub2 c (q3 c hc).2)
    · have hi2 : i - ll.length < l2.length := by omega
      obtain ⟨y, q1, q2, q3⟩ := k4 (i - ll.length) hi2
      refine ⟨y, ?_, ?_, fun c hc => by have := q3 c hc; omega⟩
      · rw [List.getElem?_append_right (by omega), hcl]; exact q1
      · rw [List.getElem_append_right (by omega)]
        exact q2.keep fun c hc => g5 c (by have := q3 c hc; omega) fun hb => by have := hub c hb; have := q3 c hc; omega
theorem ael63 : aelem Try.prog 63 = some (1, 24) := by kernel_rfl
theorem bs631 (m : Mem) (v : Value) {l : List Int} (hv : IL m v l) : bs Try.prog m 63 1 [(0, v)] = some (slTo 1 m.next, m.push ⟨1, [v], none⟩) := by
  obtain ⟨p, c, rfl⟩ := hv.ex
  exact (show _ = anew m 1 [.slice p l.length c] (slTo 1) by kernel_rfl).trans (anew_eq ..)
attribute [local irreducible] runT loopS
section
variable {lf n L : Nat} {m : Mem} {k : Value → Mem → Option Unit}
theorem has_sp {v : Value} {l : List Int} (x : Int) (hlf : 1000000 ≤ lf) (hv : IL m v l) (hl : l.length < 1000000) (hk : k (.bool (decide (x ∈ l))) m = some ()) : runT (tab lf) (n + 1) 79 [v, .int .i64 x] L m k = some () := by
  rw [r79]; dsimp only [S79, iofNat, inegSucc]
  try simp (disch := first | omega | with_unfolding_all exact id rfl | with_unfolding_all exact Nat.le_of_ble_eq_true rfl | (simp only [Jd, Je, Jr, Js, Jt, Nat.reduceAdd, allOne, oneCell, Bool.and_self, Jc]; first | done | omega)) only [↓Qa, ↓Qb, ↓Qc, Qd, Qe, Qf, Qg, Qh, Qi, Qj, Qk, Ql, Qm, Qn, Qo, Qp, Qq, Qr, Qs, Qt, Qu, Qv, Qw, Qx, Qy, ptrTo, Qz, QA, QB, QC, QD, QE, QF, QG, QH, QI, QJ, QK, QL, QM, QN, QO, QP, QQ, QR, QS, QT, QU, QV, QW, QX, QY, QZ, Ja, Jb, Jc, Jd, Je, Jf, Jg, Jh, Ji, Jj, Jk, Jl, Jm, Jn, Jo, Jp, Jq, Jr, Js, Jt, Nat.reduceAdd]
  refine loop_up l.length (fun i vs m' => vs = [.int .i64 (i : Int)] ∧ m' = m ∧ ∀ j (h : j < l.length), j < i → l[j] ≠ x) (by omega) ⟨rfl, rfl, fun j h hj => by omega⟩ ?_
  rintro i vs m' hi ⟨rfl, rfl, hno⟩ self hself
  try simp (disch := first | omega | with_unfolding_all exact id rfl | with_unfolding_all exact Nat.le_of_ble_eq_true rfl | (simp only [Jd, Je, Jr, Js, Jt, Nat.reduceAdd, allOne, oneCell, Bool.and_self, Jc]; first | done | omega)) only [hv.ln, ↓Qa, ↓Qb, ↓Qc, Qd, Qe, Qf, Qg, Qh, Qi, Qj, Qk, Ql, Qm, Qn, Qo, Qp, Qq, Qr, Qs, Qt, Qu, Qv, Qw, Qx, Qy, ptrTo, Qz, QA, QB, QC, QD, QE, QF, QG, QH, QI, QJ, QK, QL, QM, QN, QO, QP, QQ, QR, QS, QT, QU, QV, QW, QX, QY, QZ, Ja, Jb, Jc, Jd, Je, Jf, Jg, Jh, Ji, Jj, Jk, Jl, Jm, Jn, Jo, Jp, Jq, Jr, Js, Jt, Nat.reduceAdd]
  refine oIf_dec (fun h => ?_) (fun h => ?_)
  · have hil : i < l.length := by omega
    try simp (disch := first | omega | with_unfolding_all exact id rfl | with_unfolding_all exact Nat.le_of_ble_eq_true rfl | (simp only [Jd, Je, Jr, Js, Jt, Nat.reduceAdd, allOne, oneCell, Bool.and_self, Jc]; first | done | omega)) only [hv.ia hil, hv.ld hil, ↓Qa, ↓Qb, ↓Qc, Qd, Qe, Qf, Qg, Qh, Qi, Qj, Qk, Ql, Qm, Qn, Qo, Qp, Qq, Qr, Qs, Qt, Qu, Qv, Qw, Qx, Qy, ptrTo, Qz, QA, QB, QC, QD, QE, QF, QG, QH, QI, QJ, QK, QL, QM, QN, QO, QP, QQ, QR, QS, QT, QU, QV, QW, QX, QY, QZ, Ja, Jb, Jc, Jd, Je, Jf, Jg, Jh, Ji, Jj, Jk, Jl, Jm, Jn, Jo, Jp, Jq, Jr, Js, Jt, Nat.reduceAdd]
    refine oIf_dec (fun h2 => ?_) (fun h2 => ?_)
    · have : x ∈ l := h2 ▸ List.getElem_mem hil
      rw [decide_eq_true this] at hk
      exact hk
    · rw [oInt_add ⟨by omega, by omega⟩]
      refine hself hil _ _ ⟨rfl, rfl, fun j hj hji => ?_⟩
      by_cases hje : j = i
      · subst hje; exact h2
      · exact hno j hj (by omega)
  · have : ¬ x ∈ l := fun hx => by
      obtain ⟨j, hj, he⟩ := List.getElem_of_mem hx
      exact hno j hj (by omega) he
    rw [decide_eq_false this] at hk
    exact hk
theorem sl_pre {v : Value} {l : List Int} (hv : IL m v l) (ho : Opn v) (h0 : 0 < l.length) {i : Nat} (hi : i ≤ l.length) : ∃ u, sl Try.prog 22 v none (some (.int .i64 (i : Int))) none = some u ∧ IL m u (l.take i) := by
  obtain ⟨u, h1, _, h2⟩ := Opn.preI (P := Try.prog) u22 ts3 ho hv hi h0
  exact ⟨u, h1, h2⟩
theorem sl_suf {v : Value} {l : List Int} (hv : IL m v l) (ho : Opn v) {k : Nat} (h0 : 0 < k) (hk : k ≤ l.length) : ∃ u, sl Try.prog 22 v (some (.int .i64 (k : Int))) none none = some u ∧ IL m u (l.drop k) := by
  obtain ⟨b, o, x, c, kb, rfl, hr, he, hle, hcs⟩ := Sl.at hv (i := 0) (by omega)
  rw [Nat.mul_one] at hle hcs
  have hkb : kb = ⟨kb.esz, kb.cells, none⟩ := by cases kb; cases he; rfl
  have hcells : (kb.cells.drop (o + k)).take (l.length - k) = (l.drop k).map (Value.int .i64) := by
    have := congrArg (List.drop k) hcs
    rw [List.drop_take, List.drop_drop] at this
    rw [← this, ← List.map_drop]
  have hdl : (l.drop k).length = l.length - k := List.length_drop
  rw [hkb] at hr
  have h1 : abound (tri (some (.int .i64 (k : Int))) none none) (some (.tmp 0)) 0 = some k := by
    show anat (.int .i64 (Int.ofNat k)) = _
    simp only [anat, natK_eq]
  have hil : IL m (.slice (some ⟨b, o + k, x⟩) (l.length - k) (c - k)) (l.drop k) := by
    exact IL.of hr (by omega) hcells
  rcases ho with h | ⟨b', o', x', n', c', h, hc, hx⟩
  · cases h
  · injection h with h1' h2 h3
    injection h1' with h1'
    injection h1' with h4 h5 h6
    subst h4; subst h5; subst h6; subst h2; subst h3
    have h2 : abounds (tri (some (.int .i64 (k : Int))) none none) l.length c (some (.tmp 0)) none none = some (k, l.length, c) := by
      unfold abounds
      simp only [abound_none, h1, ble_t hk, ble_t hc, ble_t (Nat.le_refl c), Bool.and_self]
    have hemp : ∀ y c2, c = k → IL m (.slice (some ⟨b, o, y⟩) 0 c2) (l.drop k) := fun y c2 hck => by
      have : l.drop k = [] := List.drop_eq_nil_of_le (by omega)
      rw [this]
      exact ⟨rfl, .inr ⟨_, _, _, _, rfl⟩⟩
    unfold sl aslice
    rw [u22]
    simp only [ts3, Option.map_some, Option.map_none]
    rcases hx with rfl | rfl
    · simp only [h2, beq_f (show k ≠ 0 by omega)]
      by_cases hck : c = k
      · have hb : Nat.beq c k = true := by rw [Nat.beq_eq]; exact hck
        simp only [hb]
        exact ⟨_, rfl, hemp _ _ hck⟩
      · simp only [beq_f hck]
        refine ⟨_, rfl, ?_⟩
        have e1 : Nat.add o (Nat.mul k 1) = o + k := by show o + k * 1 = o + k; omega
        rw [e1]
        exact hil
    · simp only [h2]
      by_cases hck : c = k
      · have hb : Nat.beq c k = true := by rw [Nat.beq_eq]; exact hck
        simp only [hb]
        refine ⟨_, rfl, ?_⟩
        have e1 : Nat.sub l.length k = 0 := by show l.length - k = 0; omega
        rw [e1]
        exact hemp _ _ hck
      · simp only [beq_f hck]
        refine ⟨_, rfl, ?_⟩
        have e1 : Nat.add o (Nat.mul k 1) = o + k := by show o + k * 1 = o + k; omega
        rw [e1]
        exact hil
/-- A grown slice, or an empty one. -/
theorem IL.nil0 (m : Mem) (b : Nat) : IL m (slTo0 0 b) [] := ⟨rfl, .inr ⟨_, _, _, _, rfl⟩⟩
theorem Opn.nil0 (b : Nat) : Opn (slTo0 0 b) := .inr ⟨_, _, _, _, _, rfl, Nat.le_refl _, .inr rfl⟩
/-- What is appended to a grown slice, all at once. -/
theorem GL.app {L L0 : Nat} {m0 m : Mem} {u x : Value} {l d : List Int} (hu : GL L0 m u l) (hx : IL m x d) (hl : l.length + d.length < 1000000) (hL : L ≤ L0) (hL0 : L0 ≤ m.next) (e : Gt m0 m) (hm : m0.next ≤ L0) :
    ∃ z m', aappend Try.prog L m 22 u x = some (z, m') ∧ GL L0 m' z (l ++ d) ∧ Gt m0 m' ∧ m.next ≤ m'.next := by
  by_cases h0 : d.length = 0
  · have := List.length_eq_zero_iff.1 h0
    subst this
    have h1 := hx.1
    simp only [List.length_nil] at h1
    rw [List.append_nil]
    refine ⟨u, m, ?_, hu, e, Nat.le_refl _⟩
    rcases hu with ⟨rfl, _⟩ | ⟨b, hb, rfl, hr, hlen, hn⟩
    · unfold aappend
      rw [ael22]
      simp only [h1]
    · unfold aappend
      rw [ael22]
      simp only [h1, Nat.ble_eq_true_of_le (Nat.le_refl _)]
  · obtain ⟨z, m', g1, g2, g3, g4⟩ := Gs.append (P := Try.prog) (L := L) (m0 := m0) ael22 hu hx (by omega) (allOne_map _) (roomy_of (by omega) (by omega)) (by simp) hL e hm
    refine ⟨z, m', g1, ?_, g3, g4⟩
    unfold GL
    rw [List.map_append, List.length_append]
    exact Gs.le (show Gs 1 m.next m' z _ _ from g2) hL0
end
end Go.Vit
