/- Walks: the round of the reference. -/
import Derived.Test.YtgimcgdehgbljaaW7
set_option linter.unusedSimpArgs false
set_option linter.unusedVariables false
set_option maxRecDepth 20000
namespace Go.Vit
open Go Go.Proofs
attribute [local irreducible] runT loopS
/-- Numbers are appended to an empty literal. -/
theorem app_e0 {L : Nat} {m : Mem} {b : Nat} {v : Value} {l : List Nat} (hb : m.rd b = some ⟨1, [], none⟩) (hL : L ≤ b) (hv : IN m v l) (h0 : 0 < l.length) (hl : l.length < 1000000) :
    aappend Try.prog L m 22 (slTo 0 b) v = some (slTo l.length m.next, (m.put b none).push ⟨1, (ci l).map (Value.int .i64), none⟩) := by
  obtain ⟨j, hl0⟩ : ∃ j, l.length = j + 1 := ⟨l.length - 1, by omega⟩
  have h1 : Sl 1 m v l.length ((ci l).map (Value.int .i64)) := by
    have := hv; unfold IN IL at this; rwa [ci_length] at this
  have hr := roomy_of (n := l.length) (y := 8) (by omega) (by omega)
  unfold aappend slTo
  rw [ael22]
  rw [hl0] at h1 hr ⊢
  simp only [h1.1, natK_eq]
  have hrd : rdc m b 0 (Nat.mul 0 1) = some [] := rdc_e (s := 1) hb (by decide)
  have hn0 : Nat.add 0 (Nat.succ j) = j + 1 := Nat.zero_add _
  simp only [hn0, hr, hrd, ble_t hL, hb, Nat.ble_eq_true_of_le (Nat.le_refl 0), List.nil_append, anew_eq, allOne_map]
  rfl
theorem app_nil {L : Nat} {m : Mem} {b : Nat} {v : Value} (hv : IN m v []) : aappend Try.prog L m 22 (slTo 0 b) v = some (slTo 0 b, m) := by
  have h1 := hv.1
  unfold aappend slTo
  rw [ael22]
  have : ((ci []).length) = 0 := rfl
  simp only [this] at h1
  simp only [h1, natK_eq]
theorem gn_new {m : Mem} {b : Nat} {l : List Nat} (h0 : 0 < l.length) {L : Nat} (hL : L ≤ m.next) : GN L ((m.put b none).push ⟨1, (ci l).map (Value.int .i64), none⟩) (slTo l.length m.next) l := by
  refine .inr ⟨m.next, hL, ?_, Mem.rd_push (m.put b none) _, ?_, ?_⟩
  · rw [ci_length]; rfl
  · simp [ci]
  · rw [ci_length]; exact h0
/-- A number more than a list, in a block of its own. -/
theorem app2 {L : Nat} {m : Mem} {v : Value} {e : List Nat} (x : Nat) (hL : L ≤ m.next) (hv : IN m v e) (hl : e.length < 1000) :
    ∃ w1 m1 u m2, aappend Try.prog L (m.push ⟨1, [], none⟩) 22 (slTo 0 m.next) v = some (w1, m1) ∧ aappend Try.prog L (m1.push ⟨1, [.int .i64 (x : Int)], none⟩) 22 w1 (slTo 1 m1.next) = some (u, m2) ∧ Gt m m2 ∧ GN m.next m2 u (e ++ [x]) := by
  have g1 := Mem.gt_push m ⟨1, [], none⟩
  have n1 : (m.push ⟨1, [], none⟩).next = m.next + 1 := Mem.push_next _ _
  have p1 : (m.push ⟨1, [], none⟩).rd m.next = some ⟨1, [], none⟩ := Mem.rd_push _ _
  have hv1 := hv.mono g1
  generalize m.push ⟨1, [], none⟩ = m1 at g1 n1 p1 hv1 ⊢
  rcases List.eq_nil_or_concat e with rfl | ⟨e', y, he⟩
  · have g2 := Mem.gt_push m1 ⟨1, [.int .i64 (x : Int)], none⟩
    have hx : IN (m1.push ⟨1, [.int .i64 (x : Int)], none⟩) (slTo 1 m1.next) [x] := Gs.sl (L := m1.next) (.inr ⟨m1.next, Nat.le_refl _, rfl, Mem.rd_push _ _, rfl, Nat.zero_lt_one⟩)
    have n2 : (m1.push ⟨1, [.int .i64 (x : Int)], none⟩).next = m1.next + 1 := Mem.push_next _ _
    have p2 := (g2.kept m.next (by omega)).trans p1
    refine ⟨_, m1, _, _, app_nil hv1, app_e0 p2 hL hx Nat.zero_lt_one (show 1 < 1000000 by omega), ?_, gn_new (l := [x]) Nat.zero_lt_one (by omega)⟩
    exact (Mem.put_gt (g1.trans g2) none (Nat.le_refl _)).trans (Mem.gt_push _ _)
  · have h0 : 0 < e.length := by rw [he]; simp
    have G : Gt m ((m1.put m.next none).push ⟨1, (ci e).map (Value.int .i64), none⟩) := (Mem.put_gt g1 none (Nat.le_refl _)).trans (Mem.gt_push _ _)
    have hg := gn_new (m := m1) (b := m.next) (l := e) h0 (L := m.next) (by omega)
    have ha := app_e0 p1 hL hv1 h0 (by omega)
    generalize (m1.put m.next none).push ⟨1, (ci e).map (Value.int .i64), none⟩ = m2 at G hg ha
    obtain ⟨u, m3, q1, q2, q3, q4⟩ := GN.snoc (P := Try.prog) (t := 22) (L := L) (m0 := m) x ael22 (by omega) hg (by omega) hL G (Nat.le_refl _)
    exact ⟨_, m2, u, m3, ha, q1, q3, q2.le (by have := G.next; omega)⟩
theorem LL.ld2 {m m' : Mem} {u : Value} {ll : List (List Nat)} (h : LL m u ll) (e : Gt m m') {i : Nat} (hi : i < ll.length) : ∃ v, ld1 m' (ep 1 u i) = some v ∧ IN m v ll[i] := by
  obtain ⟨cs, h1, h2⟩ := h
  obtain ⟨v, g1, g2⟩ := h2 i hi
  exact ⟨v, (h1.mono e).ld hi g1, g2⟩
section
variable {lf L : Nat}
theorem all_sp {n N : Nat} {m : Mem} {k : Value → Mem → Option Unit} (hlf : 1000000 ≤ lf) (hL : L ≤ m.next) (hN : N ≤ 10) (hk : ∀ u m', Gt m m' → GN m.next m' u (List.range N) → k u m' = some ()) : runT (tab lf) (n + 1) 89 [.int .i64 (N : Int)] L m k = some () := by
  rw [r89]; dsimp only [S89, iofNat, inegSucc]
  try simp (disch := first | omega | with_unfolding_all exact id rfl | with_unfolding_all exact Nat.le_of_ble_eq_true rfl | (simp only [Jd, Je, Jr, Js, Jt, Nat.reduceAdd, allOne, oneCell, Bool.and_self, Jc]; first | done | omega)) only [↓Qa, ↓Qb, ↓Qc, Qd, Qe, Qf, Qg, Qh, Qi, Qj, Qk, Ql, Qm, Qn, Qo, Qp, Qq, Qr, Qs, Qt, Qu, Qv, Qw, Qx, Qy, ptrTo, Qz, QA, QB, QC, QD, QE, QF, QG, QH, QI, QJ, QK, QL, QM, QN, QO, QP, QQ, QR, QS, QT, QU, QV, QW, QX, QY, QZ, Ja, Jb, Jc, Jd, Je, Jf, Jg, Jh, Ji, Jj, Jk, Jl, Jm, Jn, Jo, Jp, Jq, Jr, Js, Jt, Nat.reduceAdd]
  refine loop_up N (fun i vs m' => ∃ u, vs = [u, .int .i64 (i : Int)] ∧ Gt m m' ∧ GN m.next m' u (List.range i)) (by omega) ⟨_, rfl, Gt.refl _, GN.nil _ _⟩ ?_
  rintro i vs m5 hi ⟨w, rfl, e5, hw⟩ self hself
  have n5 := e5.next
  try simp (disch := first | omega | with_unfolding_all exact id rfl | with_unfolding_all exact Nat.le_of_ble_eq_true rfl | (simp only [Jd, Je, Jr, Js, Jt, Nat.reduceAdd, allOne, oneCell, Bool.and_self, Jc]; first | done | omega)) only [↓Qa, ↓Qb, ↓Qc, Qd, Qe, Qf, Qg, Qh, Qi, Qj, Qk, Ql, Qm, Qn, Qo, Qp, Qq, Qr, Qs, Qt, Qu, Qv, Qw, Qx, Qy, ptrTo, Qz, QA, QB, QC, QD, QE, QF, QG, QH, QI, QJ, QK, QL, QM, QN, QO, QP, QQ, QR, QS, QT, QU, QV, QW, QX, QY, QZ, Ja, Jb, Jc, Jd, Je, Jf, Jg, Jh, Ji, Jj, Jk, Jl, Jm, Jn, Jo, Jp, Jq, Jr, Js, Jt, Nat.reduceAdd]
  refine oIf_dec (fun h3 => ?_) (fun h3 => ?_)
  · obtain ⟨w2, m6, h8, h9, h10, h11⟩ := GN.snoc (P := Try.prog) (t := 22) (L := L) (m0 := m) i ael22 (by omega) hw (by rw [List.length_range]; omega) (by omega) e5 (Nat.le_refl _)
    rw [bs22, oRes_e, h8, oRes_e, oInt_add ⟨by omega, by omega⟩]
    refine hself (by omega) _ _ ⟨w2, rfl, h10, ?_⟩
    rw [List.range_succ]
    exact h9.le n5
  · have : i = N := by omega
    subst this
    exact hk _ _ e5 hw
theorem round_sp (hlf : 1000000 ≤ lf) : ∀ (N : Nat) {kk n : Nat} {m : Mem} {k : Value → Mem → Option Unit}, N ≤ 10 → kk ≤ N → L ≤ m.next → (∀ u m', Gt m m' → LG m.next m' u (rnd N kk) → k u m' = some ()) → runT (tab lf) (n + N + 2) 62 [.int .i64 (N : Int), .int .i64 (kk : Int)] L m k = some () := by
  have hzero : ∀ (N : Nat) {n : Nat} {m : Mem} {k : Value → Mem → Option Unit}, L ≤ m.next → (∀ u m', Gt m m' → LG m.next m' u [[]] → k u m' = some ()) → runT (tab lf) (n + 1) 62 [.int .i64 (N : Int), .int .i64 ((0 : Nat) : Int)] L m k = some () := by
    intro N n m k hL hk
    rw [r62]; dsimp only [S62, iofNat, inegSucc]
    have d0 : decide (((0 : Nat) : Int) = 0) = true := by decide
    have hin : IN (m.push ⟨1, [], none⟩) (slTo 0 m.next) [] := ⟨rfl, .inr ⟨_, _, _, _, rfl⟩⟩
    have g1 := Mem.gt_push m ⟨1, [], none⟩
    have n1 : (m.push ⟨1, [], none⟩).next = m.next + 1 := Mem.push_next _ _
    try simp (disch := first | omega | with_unfolding_all exact id rfl | with_unfolding_all exact Nat.le_of_ble_eq_true rfl | (simp only [Jd, Je, Jr, Js, Jt, Nat.reduceAdd, allOne, oneCell, Bool.and_self, Jc]; first | done | omega)) only [d0, bs220, ↓Qa, ↓Qb, ↓Qc, Qd, Qe, Qf, Qg, Qh, Qi, Qj, Qk, Ql, Qm, Qn, Qo, Qp, Qq, Qr, Qs, Qt, Qu, Qv, Qw, Qx, Qy, ptrTo, Qz, QA, QB, QC, QD, QE, QF, QG, QH, QI, QJ, QK, QL, QM, QN, QO, QP, QQ, QR, QS, QT, QU, QV, QW, QX, QY, QZ, Ja, Jb, Jc, Jd, Je, Jf, Jg, Jh, Ji, Jj, Jk, Jl, Jm, Jn, Jo, Jp, Jq, Jr, Js, Jt, Nat.reduceAdd]
    generalize m.push ⟨1, [], none⟩ = m1 at g1 n1 hin ⊢
    rw [bs37L hin, oRes_e]
    exact hk _ _ (g1.trans (Mem.gt_push _ _)) (LG.one hin (fun c hc => by cases hc; omega) (by omega))
  have hfull : ∀ (N : Nat) {n : Nat} {m : Mem} {k : Value → Mem → Option Unit}, 0 < N → N ≤ 10 → L ≤ m.next → (∀ u m', Gt m m' → LG m.next m' u [List.range N] → k u m' = some ()) → runT (tab lf) (n + 2) 62 [.int .i64 (N : Int), .int .i64 (N : Int)] L m k = some () := by
    intro N n m k h0 hN hL hk
    rw [r62]; dsimp only [S62, iofNat, inegSucc]
    have d0 : decide ((N : Int) = 0) = false := decide_eq_false (by omega)
    have d1 : decide ((N : Int) = (N : Int)) = true := decide_eq_true rfl
    try simp (disch := first | omega | with_unfolding_all exact id rfl | with_unfolding_all exact Nat.le_of_ble_eq_true rfl | (simp only [Jd, Je, Jr, Js, Jt, Nat.reduceAdd, allOne, oneCell, Bool.and_self, Jc]; first | done | omega)) only [d0, d1, ↓Qa, ↓Qb, ↓Qc, Qd, Qe, Qf, Qg, Qh, Qi, Qj, Qk, Ql, Qm, Qn, Qo, Qp, Qq, Qr, Qs, Qt, Qu, Qv, Qw, Qx, Qy, ptrTo, Qz, QA, QB, QC, QD, QE, QF, QG, QH, QI, QJ, QK, QL, QM, QN, QO, QP, QQ, QR, QS, QT, QU, QV, QW, QX, QY, QZ, Ja, Jb, Jc, Jd, Je, Jf, Jg, Jh, Ji, Jj, Jk, Jl, Jm, Jn, Jo, Jp, Jq, Jr, Js, Jt, Nat.reduceAdd]
    refine all_sp hlf hL hN fun u m1 e1 hu => ?_
    rw [bs37L hu.inn, oRes_e]
    exact hk _ _ (e1.trans (Mem.gt_push _ _)) (LG.one hu.inn hu.bid_lt e1.next)
  intro N
  induction N with
  | zero =>
    intro kk n m k hN hkk hL hk
    obtain rfl : kk = 0 := by omega
    exact hzero 0 hL hk
  | succ N ih =>
    intro kk n m k hN hkk hL hk
    cases kk with
    | zero => exact hzero (N + 1) hL hk
    | succ kk =>
      by_cases hkn : kk = N
      · subst hkn
        refine hfull (kk + 1) (by omega) hN hL fun u m' e hu => hk u m' e ?_
        unfold rnd; rw [if_pos rfl]; exact hu
      · have hrn : rnd (N + 1) (kk + 1) = rnd N (kk + 1) ++ (rnd N kk).reverse.map (· ++ [N]) := by
          conv => lhs; unfold rnd
          rw [if_neg hkn]
        rw [show n + (N + 1) + 2 = (n + N + 2) + 1 by omega, r62]; dsimp only [S62, iofNat, inegSucc]
        have d0 : decide (((kk + 1 : Nat) : Int) = 0) = false := decide_eq_false (by omega)
        have d1 : decide (((kk + 1 : Nat) : Int) = ((N + 1 : Nat) : Int)) = false := decide_eq_false (by omega)
        have s1 : ∀ K : Value → Option Unit, oInt .sub .i64 (.int .i64 ((N + 1 : Nat) : Int)) (.int .i64 1) K = K (.int .i64 (N : Int)) := fun K => by
          rw [oInt_sub ⟨by omega, by omega⟩, show ((N + 1 : Nat) : Int) - 1 = (N : Int) by omega]
        have s2 : ∀ K : Value → Option Unit, oInt .sub .i64 (.int .i64 ((kk + 1 : Nat) : Int)) (.int .i64 1) K = K (.int .i64 (kk : Int)) := fun K => by
          rw [oInt_sub ⟨by omega, by omega⟩, show ((kk + 1 : Nat) : Int) - 1 = (kk : Int) by omega]
        try simp (disch := first | omega | with_unfolding_all exact id rfl | with_unfolding_all exact Nat.le_of_ble_eq_true rfl | (simp only [Jd, Je, Jr, Js, Jt, Nat.reduceAdd, allOne, oneCell, Bool.and_self, Jc]; first | done | omega)) only [d0, d1, s1, ↓Qa, ↓Qb, ↓Qc, Qd, Qe, Qf, Qg, Qh, Qi, Qj, Qk, Ql, Qm, Qn, Qo, Qp, Qq, Qr, Qs, Qt, Qu, Qv, Qw, Qx, Qy, ptrTo, Qz, QA, QB, QC, QD, QE, QF, QG, QH, QI, QJ, QK, QL, QM, QN, QO, QP, QQ, QR, QS, QT, QU, QV, QW, QX, QY, QZ, Ja, Jb, Jc, Jd, Je, Jf, Jg, Jh, Ji, Jj, Jk, Jl, Jm, Jn, Jo, Jp, Jq, Jr, Js, Jt, Nat.reduceAdd]
        refine ih (by omega) (by omega) hL fun u1 m1 e1 hu1 => ?_
        have n1 := e1.next
        try simp (disch := first | omega | with_unfolding_all exact id rfl | with_unfolding_all exact Nat.le_of_ble_eq_true rfl | (simp only [Jd, Je, Jr, Js, Jt, Nat.reduceAdd, allOne, oneCell, Bool.and_self, Jc]; first | done | omega)) only [s1, s2, ↓Qa, ↓Qb, ↓Qc, Qd, Qe, Qf, Qg, Qh, Qi, Qj, Qk, Ql, Qm, Qn, Qo, Qp, Qq, Qr, Qs, Qt, Qu, Qv, Qw, Qx, Qy, ptrTo, Qz, QA, QB, QC, QD, QE, QF, QG, QH, QI, QJ, QK, QL, QM, QN, QO, QP, QQ, QR, QS, QT, QU, QV, QW, QX, QY, QZ, Ja, Jb, Jc, Jd, Je, Jf, Jg, Jh, Ji, Jj, Jk, Jl, Jm, Jn, Jo, Jp, Jq, Jr, Js, Jt, Nat.reduceAdd]
        refine ih (by omega) (by omega) (by omega) fun u2 m2 e2 hu2 => ?_
        have n2 := e2.next
        have hBl := rnd_len (N := N) (k := kk) (by omega) (by omega)
        have hB0 := chs_pos (n := N) (k := kk) (by omega) (by omega)
        have hB1 := chs_le (n := N) (k := kk) (by omega)
        have hA1 := chs_le (n := N) (k := kk + 1) (by omega)
        have hAl := rnd_len (N := N) (k := kk + 1) (by omega) (by omega)
        have hBb := rnd_bl N kk (by omega)
        have hu1' := hu1.mono e2
        have hf1 : ∀ c, bid u1 = some c → c < m1.next := fun c hc => (hu1.fr c hc).2
        rw [hrn] at hk
        generalize rnd N (kk + 1) = A at hk hu1 hu1' hAl
        generalize rnd N kk = B at hk hu2 hBl hBb
        rw [hu2.ln, oOpt_e, oInt_sub ⟨by omega, by omega⟩]
        refine loop_up B.length (fun j vs m' => ∃ out, vs = [out, .int .i64 ((B.length : Int) - 1 - (j : Int))] ∧ Gt m m' ∧ m2.next ≤ m'.next ∧ LR m' u2 B m1.next m2.next ∧ LG m.next m' out (A ++ (B.reverse.take j).map (· ++ [N])) ∧ ∀ c, bid out = some c → c < m1.next ∨ m2.next ≤ c) (by omega)
          ⟨u1, by simp, e1.trans e2, Nat.le_refl _, hu2.lr, by simpa using hu1', fun c hc => .inl (hf1 c hc)⟩ ?_
        rintro j vs m5 hj ⟨out, rfl, e5, n5, hB, hout, hfo⟩ self hself
        have m5n := e5.next
        try simp (disch := first | omega | with_unfolding_all exact id rfl | with_unfolding_all exact Nat.le_of_ble_eq_true rfl | (simp only [Jd, Je, Jr, Js, Jt, Nat.reduceAdd, allOne, oneCell, Bool.and_self, Jc]; first | done | omega)) only [↓Qa, ↓Qb, ↓Qc, Qd, Qe, Qf, Qg, Qh, Qi, Qj, Qk, Ql, Qm, Qn, Qo, Qp, Qq, Qr, Qs, Qt, Qu, Qv, Qw, Qx, Qy, ptrTo, Qz, QA, QB, QC, QD, QE, QF, QG, QH, QI, QJ, QK, QL, QM, QN, QO, QP, QQ, QR, QS, QT, QU, QV, QW, QX, QY, QZ, Ja, Jb, Jc, Jd, Je, Jf, Jg, Jh, Ji, Jj, Jk, Jl, Jm, Jn, Jo, Jp, Jq, Jr, Js, Jt, Nat.reduceAdd]
        by_cases hjB : j = B.length
        · have d2 : decide ((0 : Int) ≤ (B.length : Int) - 1 - (j : Int)) = false := decide_eq_false (by omega)
          try simp (disch := first | omega | with_unfolding_all exact id rfl | with_unfolding_all exact Nat.le_of_ble_eq_true rfl | (simp only [Jd, Je, Jr, Js, Jt, Nat.reduceAdd, allOne, oneCell, Bool.and_self, Jc]; first | done | omega)) only [d2, ↓Qa, ↓Qb, ↓Qc, Qd, Qe, Qf, Qg, Qh, Qi, Qj, Qk, Ql, Qm, Qn, Qo, Qp, Qq, Qr, Qs, Qt, Qu, Qv, Qw, Qx, Qy, ptrTo, Qz, QA, QB, QC, QD, QE, QF, QG, QH, QI, QJ, QK, QL, QM, QN, QO, QP, QQ, QR, QS, QT, QU, QV, QW, QX, QY, QZ, Ja, Jb, Jc, Jd, Je, Jf, Jg, Jh, Ji, Jj, Jk, Jl, Jm, Jn, Jo, Jp, Jq, Jr, Js, Jt, Nat.reduceAdd]
          rw [hjB, List.take_of_length_le (by rw [List.length_reverse]; omega)] at hout
          exact hk _ _ e5 hout
        · have d2 : decide ((0 : Int) ≤ (B.length : Int) - 1 - (j : Int)) = true := decide_eq_true (by omega)
          obtain ⟨q, hq⟩ : ∃ q : Nat, (B.length : Int) - 1 - (j : Int) = (q : Int) := ⟨B.length - 1 - j, by omega⟩
          have hqB : q < B.length := by omega
          rw [hq]
          have d2 : decide ((0 : Int) ≤ (q : Int)) = true := decide_eq_true (by omega)
          have g6 := Mem.gt_push m5 ⟨1, [], none⟩
          obtain ⟨v, v1, v2⟩ := hB.ll.ld2 g6 hqB
          have hel := (hBb _ (List.getElem_mem hqB)).len
          obtain ⟨w1, x1, u, x2, a1, a2, a3, a4⟩ := app2 (L := L) N (by omega) v2 (by omega)
          try simp (disch := first | omega | with_unfolding_all exact id rfl | with_unfolding_all exact Nat.le_of_ble_eq_true rfl | (simp only [Jd, Je, Jr, Js, Jt, Nat.reduceAdd, allOne, oneCell, Bool.and_self, Jc]; first | done | omega)) only [d2, bs220, hB.ll.ia hqB, v1, a1, s1, bs22, a2, ↓Qa, ↓Qb, ↓Qc, Qd, Qe, Qf, Qg, Qh, Qi, Qj, Qk, Ql, Qm, Qn, Qo, Qp, Qq, Qr, Qs, Qt, Qu, Qv, Qw, Qx, Qy, ptrTo, Qz, QA, QB, QC, QD, QE, QF, QG, QH, QI, QJ, QK, QL, QM, QN, QO, QP, QQ, QR, QS, QT, QU, QV, QW, QX, QY, QZ, Ja, Jb, Jc, Jd, Je, Jf, Jg, Jh, Ji, Jj, Jk, Jl, Jm, Jn, Jo, Jp, Jq, Jr, Js, Jt, Nat.reduceAdd]
          have a4n := a4.bid_lt
          have a3n := a3.next
          rw [bs37L a4.inn, oRes_e]
          obtain ⟨y, m10, t1, t2, t3, t4, t5, t6⟩ := LG.snoc (P := Try.prog) (t := 37) (L := L) (m0 := m) ael37 (by omega) (hout.mono a3) a4.inn (fun c hc => by have := a4n c hc; omega) (fun c hc hu => by have := a4n c hc; have := hout.fr _ hu; omega) (by rw [List.length_append, List.length_map, List.length_take, List.length_reverse]; omega) hL (e5.trans a3) (Nat.le_refl _)
          rw [t1, oRes_e, oInt_sub ⟨by omega, by omega⟩]
          refine hself (by omega) _ _ ⟨y, ?_, t3, by omega, hB.keep fun c h1 h2 => (t6 c (by omega) (fun h => by have := hfo c h; omega)).trans (a3.kept c (by omega)), ?_, fun c hc => .inr (by have := t4 c hc; omega)⟩
          · rw [show (q : Int) - 1 = (B.length : Int) - 1 - ((j + 1 : Nat) : Int) by omega]
          · have hjr : j < B.reverse.length := by rw [List.length_reverse]; omega
            have hel2 : B.reverse[j] = B[q] := by
              rw [List.getElem_reverse]
              congr 1; omega
            rw [List.take_add_one, List.getElem?_eq_getElem hjr, Option.toList_some, List.map_append, List.map_cons, List.map_nil, ← List.append_assoc, hel2]
            exact t2
end
end Go.Vit
