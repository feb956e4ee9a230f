/- Walks: literals, clones, parts of slices. -/
import Derived.Test.YtffomiamkiakcaaW4
import Derived.Test.YtffomiamkiakcaaCoreD
set_option linter.unusedSimpArgs false
set_option linter.unusedVariables false
set_option maxRecDepth 20000
namespace Go.Vit
open Go Go.Proofs
attribute [local irreducible] runT loopS
theorem bs220 (m : Mem) : bs Try.prog m 22 0 [] = some (slTo0 0 m.next, m.push ⟨1, [], none⟩) :=
  (show _ = anew m 1 [] (slTo0 0) by kernel_rfl).trans (anew_eq ..)
/-- Numbers are appended to an empty literal. -/
theorem app_e0 {L : Nat} {m : Mem} {b : Nat} {v : Value} {l : List Int} (hb : m.rd b = some ⟨1, [], none⟩) (hv : IL m v l) (h0 : 0 < l.length) (hl : l.length < 1000000) :
    aappend Try.prog L m 22 (slTo0 0 b) v = some (slTo l.length m.next, m.push ⟨1, l.map (Value.int .i64), none⟩) := by
  obtain ⟨j, hl0⟩ : ∃ j, l.length = j + 1 := ⟨l.length - 1, by omega⟩
  have h1 : Sl 1 m v l.length (l.map (Value.int .i64)) := hv
  have hr := roomy_of (n := l.length) (y := 8) (by omega) (by omega)
  unfold aappend slTo0
  rw [ael22]
  rw [hl0] at h1 hr ⊢
  simp only [h1.1, natK_eq]
  have hrd : rdc m b 0 (Nat.mul 0 1) = some [] := rdc_e (s := 1) hb (by decide)
  have hn0 : Nat.add 0 (Nat.succ j) = j + 1 := Nat.zero_add _
  simp only [hn0, hr, hrd, hb, Nat.ble_eq_true_of_le (Nat.le_refl 0), List.nil_append, anew_eq]
  rfl
theorem app_nil {L : Nat} {m : Mem} {b : Nat} {v : Value} (hv : IL m v []) : aappend Try.prog L m 22 (slTo0 0 b) v = some (slTo0 0 b, m) := by
  have h1 := hv.1
  unfold aappend slTo0
  rw [ael22]
  simp only [List.length_nil] at h1
  simp only [h1, natK_eq]
theorem gl_new {m : Mem} {l : List Int} (h0 : 0 < l.length) {L : Nat} (hL : L ≤ m.next) : GL L (m.push ⟨1, l.map (Value.int .i64), none⟩) (slTo l.length m.next) l :=
  .inr ⟨m.next, hL, rfl, Mem.rd_push m _, by simp, h0⟩
/-- A number more than a list, in a block of its own. -/
theorem app2 {L L' : Nat} {m : Mem} {v : Value} {e : List Int} (x : Int) (hL : L ≤ m.next) (hv : IL m v e) (hl : e.length < 1000) :
    ∃ w1 m1 u m2, aappend Try.prog L' (m.push ⟨1, [], none⟩) 22 (slTo0 0 m.next) v = some (w1, m1) ∧ Gt m m1 ∧ aappend Try.prog L (m1.push ⟨1, [.int .i64 x], none⟩) 22 w1 (slTo 1 m1.next) = some (u, m2) ∧ Gt m m2 ∧ GL m.next m2 u (e ++ [x]) := by
  have g1 := Mem.gt_push m ⟨1, [], none⟩
  have n1 : (m.push ⟨1, [], none⟩).next = m.next + 1 := Mem.push_next _ _
  have p1 : (m.push ⟨1, [], none⟩).rd m.next = some ⟨1, [], none⟩ := Mem.rd_push _ _
  have hv1 := hv.mono g1
  generalize m.push ⟨1, [], none⟩ = m1 at g1 n1 p1 hv1 ⊢
  by_cases h0 : e.length = 0
  · have := List.length_eq_zero_iff.1 h0
    subst this
    have g2 := Mem.gt_push m1 ⟨1, [.int .i64 x], none⟩
    have hx : IL (m1.push ⟨1, [.int .i64 x], none⟩) (slTo 1 m1.next) [x] := Gs.sl (L := m1.next) (.inr ⟨m1.next, Nat.le_refl _, rfl, Mem.rd_push _ _, rfl, Nat.zero_lt_one⟩)
    have p2 := (g2.kept m.next (by omega)).trans p1
    have n2 := g2.next
    refine ⟨_, m1, _, _, app_nil hv1, g1, app_e0 p2 hx Nat.zero_lt_one (show 1 < 1000000 by omega), (g1.trans g2).trans (Mem.gt_push _ _), gl_new (l := [x]) Nat.zero_lt_one (by omega)⟩
  · have G : Gt m (m1.push ⟨1, e.map (Value.int .i64), none⟩) := g1.trans (Mem.gt_push _ _)
    have hg := gl_new (m := m1) (l := e) (by omega) (L := m.next) (by omega)
    have ha := app_e0 (L := L') p1 hv1 (by omega) (by omega)
    generalize m1.push ⟨1, e.map (Value.int .i64), none⟩ = m2 at G hg ha
    obtain ⟨u, m3, q1, q2, q3, q4, _⟩ := GL.snocV (P := Try.prog) (L := L) (m0 := m) x ael22 (by omega) hg (by omega) hL G (Nat.le_refl _)
    exact ⟨_, m2, u, m3, ha, G, q1, q3, q2.le (by have := G.next; omega)⟩
theorem abin_snil (p : Option Addr) (n c : Nat) : abin Try.prog .eql 22 (.slice p n c) (.slice none 0 0) = some (.bool p.isNone) := by
  cases p with
  | none => kernel_rfl
  | some a => kernel_rfl
theorem gt0 (m : Mem) : Gt (⟨.e, 0⟩ : Mem) m := ⟨Nat.zero_le _, fun b h => absurd h (Nat.not_lt_zero b)⟩
theorem rdn_all {s : Nat} {cs : List Value} {n : Nat} (h : cs.length = n) : rdn (some ⟨s, cs, none⟩) 0 n = some (.agg ⟨cs⟩) := by
  rw [rdn_e _ _ _ _ (by omega), List.drop_zero, List.take_of_length_le (by omega)]
theorem iaA_u {b n o i : Nat} (h : i < n) : iaA n 1 (.pointer (some ⟨b, o, none⟩)) (.int .i64 (i : Int)) = some (.pointer (some ⟨b, o + i, none⟩)) := by
  show iaA n 1 _ (.int .i64 (Int.ofNat i)) = _
  have hb : Nat.blt i n = true := by simpa using h
  simp only [iaA, hb, natK_eq]
  rw [show Nat.add o (Nat.mul i 1) = o + i by show o + i * 1 = o + i; omega]
section
variable {lf n L : Nat} {m : Mem} {k : Value → Mem → Option Unit}
theorem clone_sp {v : Value} {l : List Int} (hL : L ≤ m.next) (hv : IL m v l) (hl : l.length < 1000) (hne : 0 < l.length) (hk : ∀ u m', Gt m m' → GL m.next m' u l → k u m' = some ()) : runT (tab lf) (n + 1) 46 [v] L m k = some () := by
  rw [r46]; dsimp only [S46, iofNat, inegSucc]
  obtain ⟨q, c, rfl⟩ := hv.ex
  cases q with
  | none =>
    rcases hv with ⟨h1, h2 | ⟨b, o, x, c', h2⟩⟩
    · injection h2 with _ h3 _; omega
    · cases h2
  | some q =>
    try simp (disch := first | omega | with_unfolding_all exact id rfl | with_unfolding_all exact Nat.le_of_ble_eq_true rfl | (simp only [Jd, Je, Jr, Js, Jt, Nat.reduceAdd, allOne, oneCell, Bool.and_self, Jc]; first | done | omega)) only [abin_snil, Option.isNone_some, bs220, ↓Qa, ↓Qb, ↓Qc, Qd, Qe, Qf, Qg, Qh, Qi, Qj, Qk, Ql, Qm, Qn, Qo, Qp, Qq, Qr, Qs, Qt, Qu, Qv, Qw, Qx, Qy, ptrTo, Qz, QA, QB, QC, QD, QE, QF, QG, QH, QI, QJ, QK, QL, QM, QN, QO, QP, QQ, QR, QS, QT, QU, QV, QW, QX, QY, QZ, Ja, Jb, Jc, Jd, Je, Jf, Jg, Jh, Ji, Jj, Jk, Jl, Jm, Jn, Jo, Jp, Jq, Jr, Js, Jt, Nat.reduceAdd]
    have g1 := Mem.gt_push m ⟨1, [], none⟩
    have n1 : (m.push ⟨1, [], none⟩).next = m.next + 1 := Mem.push_next _ _
    have p1 : (m.push ⟨1, [], none⟩).rd m.next = some ⟨1, [], none⟩ := Mem.rd_push _ _
    have hx := hv.mono g1
    generalize m.push ⟨1, [], none⟩ = m1 at g1 n1 p1 hx ⊢
    rw [app_e0 p1 hx hne (by omega), oRes_e]
    exact hk _ _ (g1.trans (Mem.gt_push _ _)) (gl_new hne (by omega))
theorem has_sp {v : Value} {l : List Int} (x : Int) (hlf : 1000000 ≤ lf) (hv : IL m v l) (hl : l.length < 1000000) (hk : k (.bool (decide (x ∈ l))) m = some ()) : runT (tab lf) (n + 1) 79 [v, .int .i64 x] L m k = some () := by
  rw [r79]; dsimp only [S79, iofNat, inegSucc]
  try simp (disch := first | omega | with_unfolding_all exact id rfl | with_unfolding_all exact Nat.le_of_ble_eq_true rfl | (simp only [Jd, Je, Jr, Js, Jt, Nat.reduceAdd, allOne, oneCell, Bool.and_self, Jc]; first | done | omega)) only [↓Qa, ↓Qb, ↓Qc, Qd, Qe, Qf, Qg, Qh, Qi, Qj, Qk, Ql, Qm, Qn, Qo, Qp, Qq, Qr, Qs, Qt, Qu, Qv, Qw, Qx, Qy, ptrTo, Qz, QA, QB, QC, QD, QE, QF, QG, QH, QI, QJ, QK, QL, QM, QN, QO, QP, QQ, QR, QS, QT, QU, QV, QW, QX, QY, QZ, Ja, Jb, Jc, Jd, Je, Jf, Jg, Jh, Ji, Jj, Jk, Jl, Jm, Jn, Jo, Jp, Jq, Jr, Js, Jt, Nat.reduceAdd]
  refine loop_up l.length (fun i vs m' => vs = [.int .i64 (i : Int)] ∧ m' = m ∧ ∀ j (h : j < l.length), j < i → l[j] ≠ x) (by omega) ⟨rfl, rfl, fun j h hj => by omega⟩ ?_
  rintro i vs m' hi ⟨rfl, rfl, hno⟩ self hself
  try simp (disch := first | omega | with_unfolding_all exact id rfl | with_unfolding_all exact Nat.le_of_ble_eq_true rfl | (simp only [Jd, Je, Jr, Js, Jt, Nat.reduceAdd, allOne, oneCell, Bool.and_self, Jc]; first | done | omega)) only [hv.ln, ↓Qa, ↓Qb, ↓Qc, Qd, Qe, Qf, Qg, Qh, Qi, Qj, Qk, Ql, Qm, Qn, Qo, Qp, Qq, Qr, Qs, Qt, Qu, Qv, Qw, Qx, Qy, ptrTo, Qz, QA, QB, QC, QD, QE, QF, QG, QH, QI, QJ, QK, QL, QM, QN, QO, QP, QQ, QR, QS, QT, QU, QV, QW, QX, QY, QZ, Ja, Jb, Jc, Jd, Je, Jf, Jg, Jh, Ji, Jj, Jk, Jl, Jm, Jn, Jo, Jp, Jq, Jr, Js, Jt, Nat.reduceAdd]
  refine oIf_dec (fun h => ?_) (fun h => ?_)
  · have hil : i < l.length := by omega
    try simp (disch := first | omega | with_unfolding_all exact id rfl | with_unfolding_all exact Nat.le_of_ble_eq_true rfl | (simp only [Jd, Je, Jr, Js, Jt, Nat.reduceAdd, allOne, oneCell, Bool.and_self, Jc]; first | done | omega)) only [hv.ia hil, hv.ld hil, ↓Qa, ↓Qb, ↓Qc, Qd, Qe, Qf, Qg, Qh, Qi, Qj, Qk, Ql, Qm, Qn, Qo, Qp, Qq, Qr, Qs, Qt, Qu, Qv, Qw, Qx, Qy, ptrTo, Qz, QA, QB, QC, QD, QE, QF, QG, QH, QI, QJ, QK, QL, QM, QN, QO, QP, QQ, QR, QS, QT, QU, QV, QW, QX, QY, QZ, Ja, Jb, Jc, Jd, Je, Jf, Jg, Jh, Ji, Jj, Jk, Jl, Jm, Jn, Jo, Jp, Jq, Jr, Js, Jt, Nat.reduceAdd]
    refine oIf_dec (fun h2 => ?_) (fun h2 => ?_)
    · have : x ∈ l := h2 ▸ List.getElem_mem hil
      rw [decide_eq_true this] at hk
      exact hk
    · rw [oInt_add ⟨by omega, by omega⟩]
      refine hself hil _ _ ⟨rfl, rfl, fun j hj hji => ?_⟩
      by_cases hje : j = i
      · subst hje; exact h2
      · exact hno j hj (by omega)
  · have : ¬ x ∈ l := fun hx => by
      obtain ⟨j, hj, he⟩ := List.getElem_of_mem hx
      exact hno j hj (by omega) he
    rw [decide_eq_false this] at hk
    exact hk
theorem sl_pre {v : Value} {l : List Int} (hv : IL m v l) (ho : Opn v) (h0 : 0 < l.length) {i : Nat} (hi : i ≤ l.length) : ∃ u, sl Try.prog 22 v none (some (.int .i64 (i : Int))) none = some u ∧ IL m u (l.take i) := by
  obtain ⟨u, h1, _, h2⟩ := Opn.preI (P := Try.prog) u22 ts3 ho hv hi h0
  exact ⟨u, h1, h2⟩
theorem sl_suf {v : Value} {l : List Int} (hv : IL m v l) (ho : Opn v) {k : Nat} (h0 : 0 < k) (hk : k ≤ l.length) : ∃ u, sl Try.prog 22 v (some (.int .i64 (k : Int))) none none = some u ∧ IL m u (l.drop k) := by
  obtain ⟨b, o, x, c, kb, rfl, hr, he, hle, hcs⟩ := Sl.at hv (i := 0) (by omega)
  rw [Nat.mul_one] at hle hcs
  have hkb : kb = ⟨kb.esz, kb.cells, none⟩ := by cases kb; cases he; rfl
  have hcells : (kb.cells.drop (o + k)).take (l.length - k) = (l.drop k).map (Value.int .i64) := by
    have := congrArg (List.drop k) hcs
    rw [List.drop_take, List.drop_drop] at this
    rw [← this, ← List.map_drop]
  have hdl : (l.drop k).length = l.length - k := List.length_drop
  rw [hkb] at hr
  have h1 : abound (tri (some (.int .i64 (k : Int))) none none) (some (.tmp 0)) 0 = some k := by
    show anat (.int .i64 (Int.ofNat k)) = _
    simp only [anat, natK_eq]
  have hil : IL m (.slice (some ⟨b, o + k, x⟩) (l.length - k) (c - k)) (l.drop k) := by
    exact IL.of hr (by omega) hcells
  rcases ho with h | ⟨b', o', x', n', c', h, hc, hx⟩
  · cases h
  · injection h with h1' h2 h3
    injection h1' with h1'
    injection h1' with h4 h5 h6
    subst h4; subst h5; subst h6; subst h2; subst h3
    have h2 : abounds (tri (some (.int .i64 (k : Int))) none none) l.length c (some (.tmp 0)) none none = some (k, l.length, c) := by
      unfold abounds
      simp only [abound_none, h1, ble_t hk, ble_t hc, ble_t (Nat.le_refl c), Bool.and_self]
    have hemp : ∀ y c2, c = k → IL m (.slice (some ⟨b, o, y⟩) 0 c2) (l.drop k) := fun y c2 hck => by
      have : l.drop k = [] := List.drop_eq_nil_of_le (by omega)
      rw [this]
      exact ⟨rfl, .inr ⟨_, _, _, _, rfl⟩⟩
    unfold sl aslice
    rw [u22]
    simp only [ts3, Option.map_some, Option.map_none]
    rcases hx with rfl | rfl
    · simp only [h2, beq_f (show k ≠ 0 by omega)]
      by_cases hck : c = k
      · have hb : Nat.beq c k = true := by rw [Nat.beq_eq]; exact hck
        simp only [hb]
        exact ⟨_, rfl, hemp _ _ hck⟩
      · simp only [beq_f hck]
        refine ⟨_, rfl, ?_⟩
        have e1 : Nat.add o (Nat.mul k 1) = o + k := by show o + k * 1 = o + k; omega
        rw [e1]
        exact hil
    · simp only [h2]
      by_cases hck : c = k
      · have hb : Nat.beq c k = true := by rw [Nat.beq_eq]; exact hck
        simp only [hb]
        refine ⟨_, rfl, ?_⟩
        have e1 : Nat.sub l.length k = 0 := by show l.length - k = 0; omega
        rw [e1]
        exact hemp _ _ hck
      · simp only [beq_f hck]
        refine ⟨_, rfl, ?_⟩
        have e1 : Nat.add o (Nat.mul k 1) = o + k := by show o + k * 1 = o + k; omega
        rw [e1]
        exact hil
/-- A grown slice, or an empty one. -/
theorem IL.nil0 (m : Mem) (b : Nat) : IL m (slTo0 0 b) [] := ⟨rfl, .inr ⟨_, _, _, _, rfl⟩⟩
theorem Opn.nil0 (b : Nat) : Opn (slTo0 0 b) := .inr ⟨_, _, _, _, _, rfl, Nat.le_refl _, .inr rfl⟩
/-- What is appended to a grown slice, all at once. -/
theorem GL.app {L L0 : Nat} {m0 m : Mem} {u x : Value} {l d : List Int} (hu : GL L0 m u l) (hx : IL m x d) (hl : l.length + d.length < 1000000) (hL : L ≤ L0) (hL0 : L0 ≤ m.next) (e : Gt m0 m) (hm : m0.next ≤ L0) :
    ∃ z m', aappend Try.prog L m 22 u x = some (z, m') ∧ GL L0 m' z (l ++ d) ∧ Gt m0 m' ∧ m.next ≤ m'.next := by
  by_cases h0 : d.length = 0
  · have := List.length_eq_zero_iff.1 h0
    subst this
    have h1 := hx.1
    simp only [List.length_nil] at h1
    rw [List.append_nil]
    refine ⟨u, m, ?_, hu, e, Nat.le_refl _⟩
    rcases hu with ⟨rfl, _⟩ | ⟨b, hb, rfl, hr, hlen, hn⟩
    · unfold aappend
      rw [ael22]
      simp only [h1]
    · unfold aappend
      rw [ael22]
      simp only [h1, Nat.ble_eq_true_of_le (Nat.le_refl _)]
  · obtain ⟨z, m', g1, g2, g3, g4⟩ := Gs.append (P := Try.prog) (L := L) (m0 := m0) ael22 hu hx (by omega) (allOne_map _) (roomy_of (by omega) (by omega)) (by simp) hL e hm
    refine ⟨z, m', g1, ?_, g3, g4⟩
    unfold GL
    rw [List.map_append, List.length_append]
    exact Gs.le (show Gs 1 m.next m' z _ _ from g2) hL0
end
end Go.Vit
