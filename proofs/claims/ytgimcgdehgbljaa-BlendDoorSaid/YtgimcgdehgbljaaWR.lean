/- Joined: W8 W9 W10. -/
import Derived.Test.YtgimcgdehgbljaaWA
set_option linter.unusedSimpArgs false
set_option linter.unusedVariables false
set_option maxRecDepth 20000
/- Walks: the round of the reference. -/
namespace Go.Vit
open Go Go.Proofs
attribute [local irreducible] runT loopS
/-- Numbers are appended to an empty literal. -/
theorem app_e0 {L : Nat} {m : Mem} {b : Nat} {v : Value} {l : List Nat} (hb : m.rd b = some ⟨1, [], none⟩) (hL : L ≤ b) (hv : IN m v l) (h0 : 0 < l.length) (hl : l.length < 1000000) :
    aappend Try.prog L m 22 (slTo 0 b) v = some (slTo l.length m.next, (m.put b none).push ⟨1, (ci l).map (Value.int .i64), none⟩) := by
  obtain ⟨j, hl0⟩ : ∃ j, l.length = j + 1 := ⟨l.length - 1, by omega⟩
  have h1 : Sl 1 m v l.length ((ci l).map (Value.int .i64)) := by
    have := hv; unfold IN IL at this; rwa [ci_length] at this
  have hr := roomy_of (n := l.length) (y := 8) (by omega) (by omega)
  unfold aappend slTo
  rw [ael22]
  rw [hl0] at h1 hr ⊢
  simp only [h1.1, natK_eq]
  have hrd : rdc m b 0 (Nat.mul 0 1) = some [] := rdc_e (s := 1) hb (by decide)
  have hn0 : Nat.add 0 (Nat.succ j) = j + 1 := Nat.zero_add _
  simp only [hn0, hr, hrd, ble_t hL, hb, Nat.ble_eq_true_of_le (Nat.le_refl 0), List.nil_append, anew_eq, allOne_map]
  rfl
theorem app_nil {L : Nat} {m : Mem} {b : Nat} {v : Value} (hv : IN m v []) : aappend Try.prog L m 22 (slTo 0 b) v = some (slTo 0 b, m) := by
  have h1 := hv.1
  unfold aappend slTo
  rw [ael22]
  have : ((ci []).length) = 0 := rfl
  simp only [this] at h1
  simp only [h1, natK_eq]
theorem gn_new {m : Mem} {b : Nat} {l : List Nat} (h0 : 0 < l.length) {L : Nat} (hL : L ≤ m.next) : GN L ((m.put b none).push ⟨1, (ci l).map (Value.int .i64), none⟩) (slTo l.length m.next) l := by
  refine .inr ⟨m.next, hL, ?_, Mem.rd_push (m.put b none) _, ?_, ?_⟩
  · rw [ci_length]; rfl
  · simp [ci]
  · rw [ci_length]; exact h0
/-- A number more than a list, in a block of its own. -/
theorem app2 {L : Nat} {m : Mem} {v : Value} {e : List Nat} (x : Nat) (hL : L ≤ m.next) (hv : IN m v e) (hl : e.length < 1000) :
    ∃ w1 m1 u m2, aappend Try.prog L (m.push ⟨1, [], none⟩) 22 (slTo 0 m.next) v = some (w1, m1) ∧ aappend Try.prog L (m1.push ⟨1, [.int .i64 (x : Int)], none⟩) 22 w1 (slTo 1 m1.next) = some (u, m2) ∧ Gt m m2 ∧ GN m.next m2 u (e ++ [x]) := by
  have g1 := Mem.gt_push m ⟨1, [], none⟩
  have n1 : (m.push ⟨1, [], none⟩).next = m.next + 1 := Mem.push_next _ _
  have p1 : (m.push ⟨1, [], none⟩).rd m.next = some ⟨1, [], none⟩ := Mem.rd_push _ _
  have hv1 := hv.mono g1
  generalize m.push ⟨1, [], none⟩ = m1 at g1 n1 p1 hv1 ⊢
  rcases List.eq_nil_or_concat e with rfl | ⟨e', y, he⟩
  · have g2 := Mem.gt_push m1 ⟨1, [.int .i64 (x : Int)], none⟩
    have hx : IN (m1.push ⟨1, [.int .i64 (x : Int)], none⟩) (slTo 1 m1.next) [x] := Gs.sl (L := m1.next) (.inr ⟨m1.next, Nat.le_refl _, rfl, Mem.rd_push _ _, rfl, Nat.zero_lt_one⟩)
    have n2 : (m1.push ⟨1, [.int .i64 (x : Int)], none⟩).next = m1.next + 1 := Mem.push_next _ _
    have p2 := (g2.kept m.next (by omega)).trans p1
    refine ⟨_, m1, _, _, app_nil hv1, app_e0 p2 hL hx Nat.zero_lt_one (show 1 < 1000000 by omega), ?_, gn_new (l := [x]) Nat.zero_lt_one (by omega)⟩
    exact (Mem.put_gt (g1.trans g2) none (Nat.le_refl _)).trans (Mem.gt_push _ _)
  · have h0 : 0 < e.length := by rw [he]; simp
    have G : Gt m ((m1.put m.next none).push ⟨1, (ci e).map (Value.int .i64), none⟩) := (Mem.put_gt g1 none (Nat.le_refl _)).trans (Mem.gt_push _ _)
    have hg := gn_new (m := m1) (b := m.next) (l := e) h0 (L := m.next) (by omega)
    have ha := app_e0 p1 hL hv1 h0 (by omega)
    generalize (m1.put m.next none).push ⟨1, (ci e).map (Value.int .i64), none⟩ = m2 at G hg ha
    obtain ⟨u, m3, q1, q2, q3, q4⟩ := GN.snoc (P := Try.prog) (t := 22) (L := L) (m0 := m) x ael22 (by omega) hg (by omega) hL G (Nat.le_refl _)
    exact ⟨_, m2, u, m3, ha, q1, q3, q2.le (by have := G.next; omega)⟩
theorem LL.ld2 {m m' : Mem} {u : Value} {ll : List (List Nat)} (h : LL m u ll) (e : Gt m m') {i : Nat} (hi : i < ll.length) : ∃ v, ld1 m' (ep 1 u i) = some v ∧ IN m v ll[i] := by
  obtain ⟨cs, h1, h2⟩ := h
  obtain ⟨v, g1, g2⟩ := h2 i hi
  exact ⟨v, (h1.mono e).ld hi g1, g2⟩
section
variable {lf L : Nat}
theorem all_sp {n N : Nat} {m : Mem} {k : Value → Mem → Option Unit} (hlf : 1000000 ≤ lf) (hL : L ≤ m.next) (hN : N ≤ 10) (hk : ∀ u m', Gt m m' → GN m.next m' u (List.range N) → k u m' = some ()) : runT (tab lf) (n + 1) 89 [.int .i64 (N : Int)] L m k = some () := by
  rw [r89]; dsimp only [S89, iofNat, inegSucc]
  try simp (disch := first | omega | with_unfolding_all exact id rfl | with_unfolding_all exact Nat.le_of_ble_eq_true rfl | (simp only [Jd, Je, Jr, Js, Jt, Nat.reduceAdd, allOne, oneCell, Bool.and_self, Jc]; first | done | omega)) only [↓Qa, ↓Qb, ↓Qc, Qd, Qe, Qf, Qg, Qh, Qi, Qj, Qk, Ql, Qm, Qn, Qo, Qp, Qq, Qr, Qs, Qt, Qu, Qv, Qw, Qx, Qy, ptrTo, Qz, QA, QB, QC, QD, QE, QF, QG, QH, QI, QJ, QK, QL, QM, QN, QO, QP, QQ, QR, QS, QT, QU, QV, QW, QX, QY, QZ, Ja, Jb, Jc, Jd, Je, Jf, Jg, Jh, Ji, Jj, Jk, Jl, Jm, Jn, Jo, Jp, Jq, Jr, Js, Jt, Nat.reduceAdd]
  refine loop_up N (fun i vs m' => ∃ u, vs = [u, .int .i64 (i : Int)] ∧ Gt m m' ∧ GN m.next m' u (List.range i)) (by omega) ⟨_, rfl, Gt.refl _, GN.nil _ _⟩ ?_
  rintro i vs m5 hi ⟨w, rfl, e5, hw⟩ self hself
  have n5 := e5.next
  try simp (disch := first | omega | with_unfolding_all exact id rfl | with_unfolding_all exact Nat.le_of_ble_eq_true rfl | (simp only [Jd, Je, Jr, Js, Jt, Nat.reduceAdd, allOne, oneCell, Bool.and_self, Jc]; first | done | omega)) only [↓Qa, ↓Qb, ↓Qc, Qd, Qe, Qf, Qg, Qh, Qi, Qj, Qk, Ql, Qm, Qn, Qo, Qp, Qq, Qr, Qs, Qt, Qu, Qv, Qw, Qx, Qy, ptrTo, Qz, QA, QB, QC, QD, QE, QF, QG, QH, QI, QJ, QK, QL, QM, QN, QO, QP, QQ, QR, QS, QT, QU, QV, QW, QX, QY, QZ, Ja, Jb, Jc, Jd, Je, Jf, Jg, Jh, Ji, Jj, Jk, Jl, Jm, Jn, Jo, Jp, Jq, Jr, Js, Jt, Nat.reduceAdd]
  refine oIf_dec (fun h3 => ?_) (fun h3 => ?_)
  · obtain ⟨w2, m6, h8, h9, h10, h11⟩ := GN.snoc (P := Try.prog) (t := 22) (L := L) (m0 := m) i ael22 (by omega) hw (by rw [List.length_range]; omega) (by omega) e5 (Nat.le_refl _)
    rw [bs22, oRes_e, h8, oRes_e, oInt_add ⟨by omega, by omega⟩]
    refine hself (by omega) _ _ ⟨w2, rfl, h10, ?_⟩
    rw [List.range_succ]
    exact h9.le n5
  · have : i = N := by omega
    subst this
    exact hk _ _ e5 hw
theorem round_sp (hlf : 1000000 ≤ lf) : ∀ (N : Nat) {kk n : Nat} {m : Mem} {k : Value → Mem → Option Unit}, N ≤ 10 → kk ≤ N → L ≤ m.next → (∀ u m', Gt m m' → LG m.next m' u (rnd N kk) → k u m' = some ()) → runT (tab lf) (n + N + 2) 62 [.int .i64 (N : Int), .int .i64 (kk : Int)] L m k = some () := by
  have hzero : ∀ (N : Nat) {n : Nat} {m : Mem} {k : Value → Mem → Option Unit}, L ≤ m.next → (∀ u m', Gt m m' → LG m.next m' u [[]] → k u m' = some ()) → runT (tab lf) (n + 1) 62 [.int .i64 (N : Int), .int .i64 ((0 : Nat) : Int)] L m k = some () := by
    intro N n m k hL hk
    rw [r62]; dsimp only [S62, iofNat, inegSucc]
    have d0 : decide (((0 : Nat) : Int) = 0) = true := by decide
    have hin : IN (m.push ⟨1, [], none⟩) (slTo 0 m.next) [] := ⟨rfl, .inr ⟨_, _, _, _, rfl⟩⟩
    have g1 := Mem.gt_push m ⟨1, [], none⟩
    have n1 : (m.push ⟨1, [], none⟩).next = m.next + 1 := Mem.push_next _ _
    try simp (disch := first | omega | with_unfolding_all exact id rfl | with_unfolding_all exact Nat.le_of_ble_eq_true rfl | (simp only [Jd, Je, Jr, Js, Jt, Nat.reduceAdd, allOne, oneCell, Bool.and_self, Jc]; first | done | omega)) only [d0, bs220, ↓Qa, ↓Qb, ↓Qc, Qd, Qe, Qf, Qg, Qh, Qi, Qj, Qk, Ql, Qm, Qn, Qo, Qp, Qq, Qr, Qs, Qt, Qu, Qv, Qw, Qx, Qy, ptrTo, Qz, QA, QB, QC, QD, QE, QF, QG, QH, QI, QJ, QK, QL, QM, QN, QO, QP, QQ, QR, QS, QT, QU, QV, QW, QX, QY, QZ, Ja, Jb, Jc, Jd, Je, Jf, Jg, Jh, Ji, Jj, Jk, Jl, Jm, Jn, Jo, Jp, Jq, Jr, Js, Jt, Nat.reduceAdd]
    generalize m.push ⟨1, [], none⟩ = m1 at g1 n1 hin ⊢
    rw [bs37L hin, oRes_e]
    exact hk _ _ (g1.trans (Mem.gt_push _ _)) (LG.one hin (fun c hc => by cases hc; omega) (by omega))
  have hfull : ∀ (N : Nat) {n : Nat} {m : Mem} {k : Value → Mem → Option Unit}, 0 < N → N ≤ 10 → L ≤ m.next → (∀ u m', Gt m m' → LG m.next m' u [List.range N] → k u m' = some ()) → runT (tab lf) (n + 2) 62 [.int .i64 (N : Int), .int .i64 (N : Int)] L m k = some () := by
    intro N n m k h0 hN hL hk
    rw [r62]; dsimp only [S62, iofNat, inegSucc]
    have d0 : decide ((N : Int) = 0) = false := decide_eq_false (by omega)
    have d1 : decide ((N : Int) = (N : Int)) = true := decide_eq_true rfl
    try simp (disch := first | omega | with_unfolding_all exact id rfl | with_unfolding_all exact Nat.le_of_ble_eq_true rfl | (simp only [Jd, Je, Jr, Js, Jt, Nat.reduceAdd, allOne, oneCell, Bool.and_self, Jc]; first | done | omega)) only [d0, d1, ↓Qa, ↓Qb, ↓Qc, Qd, Qe, Qf, Qg, Qh, Qi, Qj, Qk, Ql, Qm, Qn, Qo, Qp, Qq, Qr, Qs, Qt, Qu, Qv, Qw, Qx, Qy, ptrTo, Qz, QA, QB, QC, QD, QE, QF, QG, QH, QI, QJ, QK, QL, QM, QN, QO, QP, QQ, QR, QS, QT, QU, QV, QW, QX, QY, QZ, Ja, Jb, Jc, Jd, Je, Jf, Jg, Jh, Ji, Jj, Jk, Jl, Jm, Jn, Jo, Jp, Jq, Jr, Js, Jt, Nat.reduceAdd]
    refine all_sp hlf hL hN fun u m1 e1 hu => ?_
    rw [bs37L hu.inn, oRes_e]
    exact hk _ _ (e1.trans (Mem.gt_push _ _)) (LG.one hu.inn hu.bid_lt e1.next)
  intro N
  induction N with
  | zero =>
    intro kk n m k hN hkk hL hk
    obtain rfl : kk = 0 := by omega
    exact hzero 0 hL hk
  | succ N ih =>
    intro kk n m k hN hkk hL hk
    cases kk with
    | zero => exact hzero (N + 1) hL hk
    | succ kk =>
      by_cases hkn : kk = N
      · subst hkn
        refine hfull (kk + 1) (by omega) hN hL fun u m' e hu => hk u m' e ?_
        unfold rnd; rw [if_pos rfl]; exact hu
      · have hrn : rnd (N + 1) (kk + 1) = rnd N (kk + 1) ++ (rnd N kk).reverse.map (· ++ [N]) := by
          conv => lhs; unfold rnd
          rw [if_neg hkn]
        rw [show n + (N + 1) + 2 = (n + N + 2) + 1 by omega, r62]; dsimp only [S62, iofNat, inegSucc]
        have d0 : decide (((kk + 1 : Nat) : Int) = 0) = false := decide_eq_false (by omega)
        have d1 : decide (((kk + 1 : Nat) : Int) = ((N + 1 : Nat) : Int)) = false := decide_eq_false (by omega)
        have s1 : ∀ K : Value → Option Unit, oInt .sub .i64 (.int .i64 ((N + 1 : Nat) : Int)) (.int .i64 1) K = K (.int .i64 (N : Int)) := fun K => by
          rw [oInt_sub ⟨by omega, by omega⟩, show ((N + 1 : Nat) : Int) - 1 = (N : Int) by omega]
        have s2 : ∀ K : Value → Option Unit, oInt .sub .i64 (.int .i64 ((kk + 1 : Nat) : Int)) (.int .i64 1) K = K (.int .i64 (kk : Int)) := fun K => by
          rw [oInt_sub ⟨by omega, by omega⟩, show ((kk + 1 : Nat) : Int) - 1 = (kk : Int) by omega]
        try simp (disch := first | omega | with_unfolding_all exact id rfl | with_unfolding_all exact Nat.le_of_ble_eq_true rfl | (simp only [Jd, Je, Jr, Js, Jt, Nat.reduceAdd, allOne, oneCell, Bool.and_self, Jc]; first | done | omega)) only [d0, d1, s1, ↓Qa, ↓Qb, ↓Qc, Qd, Qe, Qf, Qg, Qh, Qi, Qj, Qk, Ql, Qm, Qn, Qo, Qp, Qq, Qr, Qs, Qt, Qu, Qv, Qw, Qx, Qy, ptrTo, Qz, QA, QB, QC, QD, QE, QF, QG, QH, QI, QJ, QK, QL, QM, QN, QO, QP, QQ, QR, QS, QT, QU, QV, QW, QX, QY, QZ, Ja, Jb, Jc, Jd, Je, Jf, Jg, Jh, Ji, Jj, Jk, Jl, Jm, Jn, Jo, Jp, Jq, Jr, Js, Jt, Nat.reduceAdd]
        refine ih (by omega) (by omega) hL fun u1 m1 e1 hu1 => ?_
        have n1 := e1.next
        try simp (disch := first | omega | with_unfolding_all exact id rfl | with_unfolding_all exact Nat.le_of_ble_eq_true rfl | (simp only [Jd, Je, Jr, Js, Jt, Nat.reduceAdd, allOne, oneCell, Bool.and_self, Jc]; first | done | omega)) only [s1, s2, ↓Qa, ↓Qb, ↓Qc, Qd, Qe, Qf, Qg, Qh, Qi, Qj, Qk, Ql, Qm, Qn, Qo, Qp, Qq, Qr, Qs, Qt, Qu, Qv, Qw, Qx, Qy, ptrTo, Qz, QA, QB, QC, QD, QE, QF, QG, QH, QI, QJ, QK, QL, QM, QN, QO, QP, QQ, QR, QS, QT, QU, QV, QW, QX, QY, QZ, Ja, Jb, Jc, Jd, Je, Jf, Jg, Jh, Ji, Jj, Jk, Jl, Jm, Jn, Jo, Jp, Jq, Jr, Js, Jt, Nat.reduceAdd]
        refine ih (by omega) (by omega) (by omega) fun u2 m2 e2 hu2 => ?_
        have n2 := e2.next
        have hBl := rnd_len (N := N) (k := kk) (by omega) (by omega)
        have hB0 := chs_pos (n := N) (k := kk) (by omega) (by omega)
        have hB1 := chs_le (n := N) (k := kk) (by omega)
        have hA1 := chs_le (n := N) (k := kk + 1) (by omega)
        have hAl := rnd_len (N := N) (k := kk + 1) (by omega) (by omega)
        have hBb := rnd_bl N kk (by omega)
        have hu1' := hu1.mono e2
        have hf1 : ∀ c, bid u1 = some c → c < m1.next := fun c hc => (hu1.fr c hc).2
        rw [hrn] at hk
        generalize rnd N (kk + 1) = A at hk hu1 hu1' hAl
        generalize rnd N kk = B at hk hu2 hBl hBb
        rw [hu2.ln, oOpt_e, oInt_sub ⟨by omega, by omega⟩]
        refine loop_up B.length (fun j vs m' => ∃ out, vs = [out, .int .i64 ((B.length : Int) - 1 - (j : Int))] ∧ Gt m m' ∧ m2.next ≤ m'.next ∧ LR m' u2 B m1.next m2.next ∧ LG m.next m' out (A ++ (B.reverse.take j).map (· ++ [N])) ∧ ∀ c, bid out = some c → c < m1.next ∨ m2.next ≤ c) (by omega)
          ⟨u1, by simp, e1.trans e2, Nat.le_refl _, hu2.lr, by simpa using hu1', fun c hc => .inl (hf1 c hc)⟩ ?_
        rintro j vs m5 hj ⟨out, rfl, e5, n5, hB, hout, hfo⟩ self hself
        have m5n := e5.next
        try simp (disch := first | omega | with_unfolding_all exact id rfl | with_unfolding_all exact Nat.le_of_ble_eq_true rfl | (simp only [Jd, Je, Jr, Js, Jt, Nat.reduceAdd, allOne, oneCell, Bool.and_self, Jc]; first | done | omega)) only [↓Qa, ↓Qb, ↓Qc, Qd, Qe, Qf, Qg, Qh, Qi, Qj, Qk, Ql, Qm, Qn, Qo, Qp, Qq, Qr, Qs, Qt, Qu, Qv, Qw, Qx, Qy, ptrTo, Qz, QA, QB, QC, QD, QE, QF, QG, QH, QI, QJ, QK, QL, QM, QN, QO, QP, QQ, QR, QS, QT, QU, QV, QW, QX, QY, QZ, Ja, Jb, Jc, Jd, Je, Jf, Jg, Jh, Ji, Jj, Jk, Jl, Jm, Jn, Jo, Jp, Jq, Jr, Js, Jt, Nat.reduceAdd]
        by_cases hjB : j = B.length
        · have d2 : decide ((0 : Int) ≤ (B.length : Int) - 1 - (j : Int)) = false := decide_eq_false (by omega)
          try simp (disch := first | omega | with_unfolding_all exact id rfl | with_unfolding_all exact Nat.le_of_ble_eq_true rfl | (simp only [Jd, Je, Jr, Js, Jt, Nat.reduceAdd, allOne, oneCell, Bool.and_self, Jc]; first | done | omega)) only [d2, ↓Qa, ↓Qb, ↓Qc, Qd, Qe, Qf, Qg, Qh, Qi, Qj, Qk, Ql, Qm, Qn, Qo, Qp, Qq, Qr, Qs, Qt, Qu, Qv, Qw, Qx, Qy, ptrTo, Qz, QA, QB, QC, QD, QE, QF, QG, QH, QI, QJ, QK, QL, QM, QN, QO, QP, QQ, QR, QS, QT, QU, QV, QW, QX, QY, QZ, Ja, Jb, Jc, Jd, Je, Jf, Jg, Jh, Ji, Jj, Jk, Jl, Jm, Jn, Jo, Jp, Jq, Jr, Js, Jt, Nat.reduceAdd]
          rw [hjB, List.take_of_length_le (by rw [List.length_reverse]; omega)] at hout
          exact hk _ _ e5 hout
        · have d2 : decide ((0 : Int) ≤ (B.length : Int) - 1 - (j : Int)) = true := decide_eq_true (by omega)
          obtain ⟨q, hq⟩ : ∃ q : Nat, (B.length : Int) - 1 - (j : Int) = (q : Int) := ⟨B.length - 1 - j, by omega⟩
          have hqB : q < B.length := by omega
          rw [hq]
          have d2 : decide ((0 : Int) ≤ (q : Int)) = true := decide_eq_true (by omega)
          have g6 := Mem.gt_push m5 ⟨1, [], none⟩
          obtain ⟨v, v1, v2⟩ := hB.ll.ld2 g6 hqB
          have hel := (hBb _ (List.getElem_mem hqB)).len
          obtain ⟨w1, x1, u, x2, a1, a2, a3, a4⟩ := app2 (L := L) N (by omega) v2 (by omega)
          try simp (disch := first | omega | with_unfolding_all exact id rfl | with_unfolding_all exact Nat.le_of_ble_eq_true rfl | (simp only [Jd, Je, Jr, Js, Jt, Nat.reduceAdd, allOne, oneCell, Bool.and_self, Jc]; first | done | omega)) only [d2, bs220, hB.ll.ia hqB, v1, a1, s1, bs22, a2, ↓Qa, ↓Qb, ↓Qc, Qd, Qe, Qf, Qg, Qh, Qi, Qj, Qk, Ql, Qm, Qn, Qo, Qp, Qq, Qr, Qs, Qt, Qu, Qv, Qw, Qx, Qy, ptrTo, Qz, QA, QB, QC, QD, QE, QF, QG, QH, QI, QJ, QK, QL, QM, QN, QO, QP, QQ, QR, QS, QT, QU, QV, QW, QX, QY, QZ, Ja, Jb, Jc, Jd, Je, Jf, Jg, Jh, Ji, Jj, Jk, Jl, Jm, Jn, Jo, Jp, Jq, Jr, Js, Jt, Nat.reduceAdd]
          have a4n := a4.bid_lt
          have a3n := a3.next
          rw [bs37L a4.inn, oRes_e]
          obtain ⟨y, m10, t1, t2, t3, t4, t5, t6⟩ := LG.snoc (P := Try.prog) (t := 37) (L := L) (m0 := m) ael37 (by omega) (hout.mono a3) a4.inn (fun c hc => by have := a4n c hc; omega) (fun c hc hu => by have := a4n c hc; have := hout.fr _ hu; omega) (by rw [List.length_append, List.length_map, List.length_take, List.length_reverse]; omega) hL (e5.trans a3) (Nat.le_refl _)
          rw [t1, oRes_e, oInt_sub ⟨by omega, by omega⟩]
          refine hself (by omega) _ _ ⟨y, ?_, t3, by omega, hB.keep fun c h1 h2 => (t6 c (by omega) (fun h => by have := hfo c h; omega)).trans (a3.kept c (by omega)), ?_, fun c hc => .inr (by have := t4 c hc; omega)⟩
          · rw [show (q : Int) - 1 = (B.length : Int) - 1 - ((j + 1 : Nat) : Int) by omega]
          · have hjr : j < B.reverse.length := by rw [List.length_reverse]; omega
            have hel2 : B.reverse[j] = B[q] := by
              rw [List.getElem_reverse]
              congr 1; omega
            rw [List.take_add_one, List.getElem?_eq_getElem hjr, Option.toList_some, List.map_append, List.map_cons, List.map_nil, ← List.append_assoc, hel2]
            exact t2
end
end Go.Vit

/- Walks: Count, Number, Nth, Next, both ways. -/
namespace Go.Vit
open Go Go.Proofs
attribute [local irreducible] runT loopS
theorem szE0 {N s : Int} (h : szE N s = 0) : ∃ n q : Nat, N = n ∧ s = q ∧ 1 ≤ n ∧ n ≤ 10 ∧ q ≤ n := by
  unfold szE at h
  split at h
  · exact ⟨N.toNat, s.toNat, by omega, by omega, by omega, by omega, by omega⟩
  · cases h
def cntX (N s : Int) : Int := if szE N s = 0 then (chs N.toNat s.toNat : Int) else 0
def numX (N : Int) (l : List Int) : Int := if chkB N l = 0 then numK (nni l) l.length else 0
def inX (N s t : Int) : Prop := 0 ≤ t ∧ t ≤ cntX N s - 1
instance (N s t : Int) : Decidable (inX N s t) := inferInstanceAs (Decidable (0 ≤ t ∧ t ≤ cntX N s - 1))
def nthL (N s t : Int) : List Nat := if szE N s = 0 ∧ inX N s t then nthK s.toNat t.toNat else []
def nthE (N s t : Int) : Int := if szE N s = 0 then (if inX N s t then 0 else 2) else szE N s
/-- The next one of a round of more than one. -/
def nxK (n : Nat) (l : List Nat) : List Nat := nthK l.length (((numK l l.length).toNat + 1) % chs n l.length)
def nxtE (N : Int) (l : List Int) : Int := if chkB N l = 0 then (if chs N.toNat l.length = 1 then 12 else 0) else chkB N l
def nxtL (N : Int) (l : List Int) : List Nat := if nxtE N l = 0 then nxK N.toNat (nni l) else []
def nxtO (N : Int) (l : List Int) : Int := if nxtE N l = 0 then misI (nni l) (nxtL N l) else 0
def nxtI (N : Int) (l : List Int) : Int := if nxtE N l = 0 then misI (nxtL N l) (nni l) else 0
theorem rnd_get {N k i : Nat} (hN : N ≤ 10) (hk : k ≤ N) (hi : i < chs N k) (h : i < (rnd N k).length) : (rnd N k)[i] = nthK k i := by
  rw [(rnd_at hN hk hi).1, List.getD_eq_getElem?_getD, List.getElem?_eq_getElem h]; rfl
section
variable {lf n L : Nat} {m : Mem} {k : Value → Mem → Option Unit}
theorem count_sp {N s : Int} (hlf : 1000000 ≤ lf) (hk : k (.tuple ⟨[.int .i64 (cntX N s), .int .i64 (szE N s)]⟩) m = some ()) : runT (tab lf) (n + 3) 16 [.int .i64 N, .int .i64 s] L m k = some () := by
  rw [r16]; dsimp only [S16, iofNat, inegSucc]
  try simp (disch := first | omega | with_unfolding_all exact id rfl | with_unfolding_all exact Nat.le_of_ble_eq_true rfl | (simp only [Jd, Je, Jr, Js, Jt, Nat.reduceAdd, allOne, oneCell, Bool.and_self, Jc]; first | done | omega)) only [↓Qa, ↓Qb, ↓Qc, Qd, Qe, Qf, Qg, Qh, Qi, Qj, Qk, Ql, Qm, Qn, Qo, Qp, Qq, Qr, Qs, Qt, Qu, Qv, Qw, Qx, Qy, ptrTo, Qz, QA, QB, QC, QD, QE, QF, QG, QH, QI, QJ, QK, QL, QM, QN, QO, QP, QQ, QR, QS, QT, QU, QV, QW, QX, QY, QZ, Ja, Jb, Jc, Jd, Je, Jf, Jg, Jh, Ji, Jj, Jk, Jl, Jm, Jn, Jo, Jp, Jq, Jr, Js, Jt, Nat.reduceAdd]
  refine sized_sp ?_
  unfold cntX at hk
  by_cases h : szE N s = 0
  · obtain ⟨a, q, rfl, rfl, h1, h10, hq⟩ := szE0 h
    rw [if_pos h] at hk
    rw [h] at hk ⊢
    try simp (disch := first | omega | with_unfolding_all exact id rfl | with_unfolding_all exact Nat.le_of_ble_eq_true rfl | (simp only [Jd, Je, Jr, Js, Jt, Nat.reduceAdd, allOne, oneCell, Bool.and_self, Jc]; first | done | omega)) only [↓Qa, ↓Qb, ↓Qc, Qd, Qe, Qf, Qg, Qh, Qi, Qj, Qk, Ql, Qm, Qn, Qo, Qp, Qq, Qr, Qs, Qt, Qu, Qv, Qw, Qx, Qy, ptrTo, Qz, QA, QB, QC, QD, QE, QF, QG, QH, QI, QJ, QK, QL, QM, QN, QO, QP, QQ, QR, QS, QT, QU, QV, QW, QX, QY, QZ, Ja, Jb, Jc, Jd, Je, Jf, Jg, Jh, Ji, Jj, Jk, Jl, Jm, Jn, Jo, Jp, Jq, Jr, Js, Jt, Nat.reduceAdd]
    refine choose_sp hlf (by omega) (by omega) ?_
    try simp (disch := first | omega | with_unfolding_all exact id rfl | with_unfolding_all exact Nat.le_of_ble_eq_true rfl | (simp only [Jd, Je, Jr, Js, Jt, Nat.reduceAdd, allOne, oneCell, Bool.and_self, Jc]; first | done | omega)) only [↓Qa, ↓Qb, ↓Qc, Qd, Qe, Qf, Qg, Qh, Qi, Qj, Qk, Ql, Qm, Qn, Qo, Qp, Qq, Qr, Qs, Qt, Qu, Qv, Qw, Qx, Qy, ptrTo, Qz, QA, QB, QC, QD, QE, QF, QG, QH, QI, QJ, QK, QL, QM, QN, QO, QP, QQ, QR, QS, QT, QU, QV, QW, QX, QY, QZ, Ja, Jb, Jc, Jd, Je, Jf, Jg, Jh, Ji, Jj, Jk, Jl, Jm, Jn, Jo, Jp, Jq, Jr, Js, Jt, Nat.reduceAdd]
    exact hk
  · rw [if_neg h] at hk
    try simp (disch := first | omega | with_unfolding_all exact id rfl | with_unfolding_all exact Nat.le_of_ble_eq_true rfl | (simp only [Jd, Je, Jr, Js, Jt, Nat.reduceAdd, allOne, oneCell, Bool.and_self, Jc]; first | done | omega)) only [decide_eq_false h, ↓Qa, ↓Qb, ↓Qc, Qd, Qe, Qf, Qg, Qh, Qi, Qj, Qk, Ql, Qm, Qn, Qo, Qp, Qq, Qr, Qs, Qt, Qu, Qv, Qw, Qx, Qy, ptrTo, Qz, QA, QB, QC, QD, QE, QF, QG, QH, QI, QJ, QK, QL, QM, QN, QO, QP, QQ, QR, QS, QT, QU, QV, QW, QX, QY, QZ, Ja, Jb, Jc, Jd, Je, Jf, Jg, Jh, Ji, Jj, Jk, Jl, Jm, Jn, Jo, Jp, Jq, Jr, Js, Jt, Nat.reduceAdd]
    exact hk
theorem refcount_sp {N s : Int} (hlf : 1000000 ≤ lf) (hL : L ≤ m.next) (hk : ∀ m', Gt m m' → k (.tuple ⟨[.int .i64 (cntX N s), .int .i64 (szE N s)]⟩) m' = some ()) : runT (tab lf) (n + 14) 17 [.int .i64 N, .int .i64 s] L m k = some () := by
  rw [r17]; dsimp only [S17, iofNat, inegSucc]
  try simp (disch := first | omega | with_unfolding_all exact id rfl | with_unfolding_all exact Nat.le_of_ble_eq_true rfl | (simp only [Jd, Je, Jr, Js, Jt, Nat.reduceAdd, allOne, oneCell, Bool.and_self, Jc]; first | done | omega)) only [↓Qa, ↓Qb, ↓Qc, Qd, Qe, Qf, Qg, Qh, Qi, Qj, Qk, Ql, Qm, Qn, Qo, Qp, Qq, Qr, Qs, Qt, Qu, Qv, Qw, Qx, Qy, ptrTo, Qz, QA, QB, QC, QD, QE, QF, QG, QH, QI, QJ, QK, QL, QM, QN, QO, QP, QQ, QR, QS, QT, QU, QV, QW, QX, QY, QZ, Ja, Jb, Jc, Jd, Je, Jf, Jg, Jh, Ji, Jj, Jk, Jl, Jm, Jn, Jo, Jp, Jq, Jr, Js, Jt, Nat.reduceAdd]
  refine sized61_sp ?_
  by_cases h : szE N s = 0
  · obtain ⟨a, q, rfl, rfl, h1, h10, hq⟩ := szE0 h
    have hc : cntX (a : Int) (q : Int) = (chs a q : Int) := by unfold cntX; rw [if_pos h]; rfl
    rw [hc, h] at hk
    rw [h]
    try simp (disch := first | omega | with_unfolding_all exact id rfl | with_unfolding_all exact Nat.le_of_ble_eq_true rfl | (simp only [Jd, Je, Jr, Js, Jt, Nat.reduceAdd, allOne, oneCell, Bool.and_self, Jc]; first | done | omega)) only [↓Qa, ↓Qb, ↓Qc, Qd, Qe, Qf, Qg, Qh, Qi, Qj, Qk, Ql, Qm, Qn, Qo, Qp, Qq, Qr, Qs, Qt, Qu, Qv, Qw, Qx, Qy, ptrTo, Qz, QA, QB, QC, QD, QE, QF, QG, QH, QI, QJ, QK, QL, QM, QN, QO, QP, QQ, QR, QS, QT, QU, QV, QW, QX, QY, QZ, Ja, Jb, Jc, Jd, Je, Jf, Jg, Jh, Ji, Jj, Jk, Jl, Jm, Jn, Jo, Jp, Jq, Jr, Js, Jt, Nat.reduceAdd]
    rw [show n + 13 = (n + 11 - a) + a + 2 by omega]
    refine round_sp hlf a h10 hq hL fun u m' e hu => ?_
    rw [hu.ln, oOpt_e, rnd_len h10 hq]
    exact hk _ e
  · have hc : cntX N s = 0 := by unfold cntX; rw [if_neg h]
    rw [hc] at hk
    try simp (disch := first | omega | with_unfolding_all exact id rfl | with_unfolding_all exact Nat.le_of_ble_eq_true rfl | (simp only [Jd, Je, Jr, Js, Jt, Nat.reduceAdd, allOne, oneCell, Bool.and_self, Jc]; first | done | omega)) only [decide_eq_false h, ↓Qa, ↓Qb, ↓Qc, Qd, Qe, Qf, Qg, Qh, Qi, Qj, Qk, Ql, Qm, Qn, Qo, Qp, Qq, Qr, Qs, Qt, Qu, Qv, Qw, Qx, Qy, ptrTo, Qz, QA, QB, QC, QD, QE, QF, QG, QH, QI, QJ, QK, QL, QM, QN, QO, QP, QQ, QR, QS, QT, QU, QV, QW, QX, QY, QZ, Ja, Jb, Jc, Jd, Je, Jf, Jg, Jh, Ji, Jj, Jk, Jl, Jm, Jn, Jo, Jp, Jq, Jr, Js, Jt, Nat.reduceAdd]
    exact hk _ (Gt.refl _)
theorem number18_sp {N : Int} {v : Value} {l : List Int} (hlf : 1000000 ≤ lf) (hv : IL m v l) (ho : Opn v) (hl : l.length < 1000000) (hk : k (.tuple ⟨[.int .i64 (numX N l), .int .i64 (chkB N l)]⟩) m = some ()) : runT (tab lf) (n + 14) 18 [.int .i64 N, v] L m k = some () := by
  rw [r18]; dsimp only [S18, iofNat, inegSucc]
  try simp (disch := first | omega | with_unfolding_all exact id rfl | with_unfolding_all exact Nat.le_of_ble_eq_true rfl | (simp only [Jd, Je, Jr, Js, Jt, Nat.reduceAdd, allOne, oneCell, Bool.and_self, Jc]; first | done | omega)) only [↓Qa, ↓Qb, ↓Qc, Qd, Qe, Qf, Qg, Qh, Qi, Qj, Qk, Ql, Qm, Qn, Qo, Qp, Qq, Qr, Qs, Qt, Qu, Qv, Qw, Qx, Qy, ptrTo, Qz, QA, QB, QC, QD, QE, QF, QG, QH, QI, QJ, QK, QL, QM, QN, QO, QP, QQ, QR, QS, QT, QU, QV, QW, QX, QY, QZ, Ja, Jb, Jc, Jd, Je, Jf, Jg, Jh, Ji, Jj, Jk, Jl, Jm, Jn, Jo, Jp, Jq, Jr, Js, Jt, Nat.reduceAdd]
  refine check_sp hlf hv hl ?_
  unfold numX at hk
  by_cases h : chkB N l = 0
  · obtain ⟨a, l', rfl, h1, h10, rfl, hb⟩ := chkB_bl h
    have hle := hb.le
    rw [if_pos h, nni_ci, ci_length] at hk
    rw [h] at hk ⊢
    try simp (disch := first | omega | with_unfolding_all exact id rfl | with_unfolding_all exact Nat.le_of_ble_eq_true rfl | (simp only [Jd, Je, Jr, Js, Jt, Nat.reduceAdd, allOne, oneCell, Bool.and_self, Jc]; first | done | omega)) only [↓Qa, ↓Qb, ↓Qc, Qd, Qe, Qf, Qg, Qh, Qi, Qj, Qk, Ql, Qm, Qn, Qo, Qp, Qq, Qr, Qs, Qt, Qu, Qv, Qw, Qx, Qy, ptrTo, Qz, QA, QB, QC, QD, QE, QF, QG, QH, QI, QJ, QK, QL, QM, QN, QO, QP, QQ, QR, QS, QT, QU, QV, QW, QX, QY, QZ, Ja, Jb, Jc, Jd, Je, Jf, Jg, Jh, Ji, Jj, Jk, Jl, Jm, Jn, Jo, Jp, Jq, Jr, Js, Jt, Nat.reduceAdd]
    rw [show n + 13 = (n + 11 - l'.length) + l'.length + 2 by omega]
    refine number_sp hlf l'.length (by omega) hv ho rfl (fun x hx => by have := hb.lt x hx; omega) ?_
    try simp (disch := first | omega | with_unfolding_all exact id rfl | with_unfolding_all exact Nat.le_of_ble_eq_true rfl | (simp only [Jd, Je, Jr, Js, Jt, Nat.reduceAdd, allOne, oneCell, Bool.and_self, Jc]; first | done | omega)) only [↓Qa, ↓Qb, ↓Qc, Qd, Qe, Qf, Qg, Qh, Qi, Qj, Qk, Ql, Qm, Qn, Qo, Qp, Qq, Qr, Qs, Qt, Qu, Qv, Qw, Qx, Qy, ptrTo, Qz, QA, QB, QC, QD, QE, QF, QG, QH, QI, QJ, QK, QL, QM, QN, QO, QP, QQ, QR, QS, QT, QU, QV, QW, QX, QY, QZ, Ja, Jb, Jc, Jd, Je, Jf, Jg, Jh, Ji, Jj, Jk, Jl, Jm, Jn, Jo, Jp, Jq, Jr, Js, Jt, Nat.reduceAdd]
    exact hk
  · rw [if_neg h] at hk
    try simp (disch := first | omega | with_unfolding_all exact id rfl | with_unfolding_all exact Nat.le_of_ble_eq_true rfl | (simp only [Jd, Je, Jr, Js, Jt, Nat.reduceAdd, allOne, oneCell, Bool.and_self, Jc]; first | done | omega)) only [decide_eq_false h, ↓Qa, ↓Qb, ↓Qc, Qd, Qe, Qf, Qg, Qh, Qi, Qj, Qk, Ql, Qm, Qn, Qo, Qp, Qq, Qr, Qs, Qt, Qu, Qv, Qw, Qx, Qy, ptrTo, Qz, QA, QB, QC, QD, QE, QF, QG, QH, QI, QJ, QK, QL, QM, QN, QO, QP, QQ, QR, QS, QT, QU, QV, QW, QX, QY, QZ, Ja, Jb, Jc, Jd, Je, Jf, Jg, Jh, Ji, Jj, Jk, Jl, Jm, Jn, Jo, Jp, Jq, Jr, Js, Jt, Nat.reduceAdd]
    exact hk
theorem number19_sp {N : Int} {v : Value} {l : List Int} (hlf : 1000000 ≤ lf) (hL : L ≤ m.next) (hv : IL m v l) (hl : l.length < 1000000) (hk : ∀ m', Gt m m' → k (.tuple ⟨[.int .i64 (numX N l), .int .i64 (chkB N l)]⟩) m' = some ()) : runT (tab lf) (n + 14) 19 [.int .i64 N, v] L m k = some () := by
  rw [r19]; dsimp only [S19, iofNat, inegSucc]
  try simp (disch := first | omega | with_unfolding_all exact id rfl | with_unfolding_all exact Nat.le_of_ble_eq_true rfl | (simp only [Jd, Je, Jr, Js, Jt, Nat.reduceAdd, allOne, oneCell, Bool.and_self, Jc]; first | done | omega)) only [↓Qa, ↓Qb, ↓Qc, Qd, Qe, Qf, Qg, Qh, Qi, Qj, Qk, Ql, Qm, Qn, Qo, Qp, Qq, Qr, Qs, Qt, Qu, Qv, Qw, Qx, Qy, ptrTo, Qz, QA, QB, QC, QD, QE, QF, QG, QH, QI, QJ, QK, QL, QM, QN, QO, QP, QQ, QR, QS, QT, QU, QV, QW, QX, QY, QZ, Ja, Jb, Jc, Jd, Je, Jf, Jg, Jh, Ji, Jj, Jk, Jl, Jm, Jn, Jo, Jp, Jq, Jr, Js, Jt, Nat.reduceAdd]
  refine check26_sp hlf hv hl ?_
  by_cases h : chkB N l = 0
  · obtain ⟨a, l', rfl, h1, h10, rfl, hb⟩ := chkB_bl h
    have hle := hb.le
    have hc : numX (a : Int) (ci l') = numK l' l'.length := by unfold numX; rw [if_pos h, nni_ci, ci_length]
    rw [hc, h] at hk
    rw [h]
    have hv : IN m v l' := hv
    try simp (disch := first | omega | with_unfolding_all exact id rfl | with_unfolding_all exact Nat.le_of_ble_eq_true rfl | (simp only [Jd, Je, Jr, Js, Jt, Nat.reduceAdd, allOne, oneCell, Bool.and_self, Jc]; first | done | omega)) only [hv.ln, ↓Qa, ↓Qb, ↓Qc, Qd, Qe, Qf, Qg, Qh, Qi, Qj, Qk, Ql, Qm, Qn, Qo, Qp, Qq, Qr, Qs, Qt, Qu, Qv, Qw, Qx, Qy, ptrTo, Qz, QA, QB, QC, QD, QE, QF, QG, QH, QI, QJ, QK, QL, QM, QN, QO, QP, QQ, QR, QS, QT, QU, QV, QW, QX, QY, QZ, Ja, Jb, Jc, Jd, Je, Jf, Jg, Jh, Ji, Jj, Jk, Jl, Jm, Jn, Jo, Jp, Jq, Jr, Js, Jt, Nat.reduceAdd]
    rw [show n + 13 = (n + 11 - a) + a + 2 by omega]
    refine round_sp hlf a h10 hle hL fun u m1 e1 hu => ?_
    obtain ⟨i, hi, g1, g2, g3⟩ := bl_num h10 hb
    rw [g2] at hk
    have hrl := rnd_len h10 hle
    have hcl := chs_le (n := a) (k := l'.length) (by omega)
    refine loop_up i (fun p vs m' => vs = [.int .i64 (p : Int)] ∧ m' = m1) (by omega) ⟨rfl, rfl⟩ ?_
    rintro p vs m' hp ⟨rfl, rfl⟩ self hself
    have hpl : p < (rnd a l'.length).length := by omega
    obtain ⟨x, x1, x2⟩ := hu.ll.ld hpl
    try simp (disch := first | omega | with_unfolding_all exact id rfl | with_unfolding_all exact Nat.le_of_ble_eq_true rfl | (simp only [Jd, Je, Jr, Js, Jt, Nat.reduceAdd, allOne, oneCell, Bool.and_self, Jc]; first | done | omega)) only [hu.ll.ia hpl, x1, ↓Qa, ↓Qb, ↓Qc, Qd, Qe, Qf, Qg, Qh, Qi, Qj, Qk, Ql, Qm, Qn, Qo, Qp, Qq, Qr, Qs, Qt, Qu, Qv, Qw, Qx, Qy, ptrTo, Qz, QA, QB, QC, QD, QE, QF, QG, QH, QI, QJ, QK, QL, QM, QN, QO, QP, QQ, QR, QS, QT, QU, QV, QW, QX, QY, QZ, Ja, Jb, Jc, Jd, Je, Jf, Jg, Jh, Ji, Jj, Jk, Jl, Jm, Jn, Jo, Jp, Jq, Jr, Js, Jt, Nat.reduceAdd]
    rw [show n + 11 - a + a + 2 = (n + 12) + 1 by omega]
    refine same64_sp hlf x2 (hv.mono e1) (by rw [ci_length, (rnd_bl a _ hle _ (List.getElem_mem hpl)).len]; omega) ?_
    have hg := rnd_get h10 hle (show p < chs a l'.length by omega) hpl
    by_cases hpi : p = i
    · subst hpi
      rw [hg, g3, decide_eq_true rfl]
      try simp (disch := first | omega | with_unfolding_all exact id rfl | with_unfolding_all exact Nat.le_of_ble_eq_true rfl | (simp only [Jd, Je, Jr, Js, Jt, Nat.reduceAdd, allOne, oneCell, Bool.and_self, Jc]; first | done | omega)) only [↓Qa, ↓Qb, ↓Qc, Qd, Qe, Qf, Qg, Qh, Qi, Qj, Qk, Ql, Qm, Qn, Qo, Qp, Qq, Qr, Qs, Qt, Qu, Qv, Qw, Qx, Qy, ptrTo, Qz, QA, QB, QC, QD, QE, QF, QG, QH, QI, QJ, QK, QL, QM, QN, QO, QP, QQ, QR, QS, QT, QU, QV, QW, QX, QY, QZ, Ja, Jb, Jc, Jd, Je, Jf, Jg, Jh, Ji, Jj, Jk, Jl, Jm, Jn, Jo, Jp, Jq, Jr, Js, Jt, Nat.reduceAdd]
      exact hk _ e1
    · have hne : ci (rnd a l'.length)[p] ≠ ci l' := fun he => by
        have he : (rnd a l'.length)[p] = l' := List.map_inj_right (fun x y h => Int.ofNat.inj h) |>.1 he
        have h5 := (rnd_at h10 hle (show p < chs a l'.length by omega)).2
        rw [List.getD_eq_getElem?_getD, List.getElem?_eq_getElem hpl, Option.getD_some, he, g2] at h5
        omega
      rw [decide_eq_false hne]
      try simp (disch := first | omega | with_unfolding_all exact id rfl | with_unfolding_all exact Nat.le_of_ble_eq_true rfl | (simp only [Jd, Je, Jr, Js, Jt, Nat.reduceAdd, allOne, oneCell, Bool.and_self, Jc]; first | done | omega)) only [↓Qa, ↓Qb, ↓Qc, Qd, Qe, Qf, Qg, Qh, Qi, Qj, Qk, Ql, Qm, Qn, Qo, Qp, Qq, Qr, Qs, Qt, Qu, Qv, Qw, Qx, Qy, ptrTo, Qz, QA, QB, QC, QD, QE, QF, QG, QH, QI, QJ, QK, QL, QM, QN, QO, QP, QQ, QR, QS, QT, QU, QV, QW, QX, QY, QZ, Ja, Jb, Jc, Jd, Je, Jf, Jg, Jh, Ji, Jj, Jk, Jl, Jm, Jn, Jo, Jp, Jq, Jr, Js, Jt, Nat.reduceAdd]
      rw [oInt_add ⟨by omega, by omega⟩]
      exact hself (by omega) _ _ ⟨rfl, rfl⟩
  · have hc : numX N l = 0 := by unfold numX; rw [if_neg h]
    rw [hc] at hk
    try simp (disch := first | omega | with_unfolding_all exact id rfl | with_unfolding_all exact Nat.le_of_ble_eq_true rfl | (simp only [Jd, Je, Jr, Js, Jt, Nat.reduceAdd, allOne, oneCell, Bool.and_self, Jc]; first | done | omega)) only [decide_eq_false h, ↓Qa, ↓Qb, ↓Qc, Qd, Qe, Qf, Qg, Qh, Qi, Qj, Qk, Ql, Qm, Qn, Qo, Qp, Qq, Qr, Qs, Qt, Qu, Qv, Qw, Qx, Qy, ptrTo, Qz, QA, QB, QC, QD, QE, QF, QG, QH, QI, QJ, QK, QL, QM, QN, QO, QP, QQ, QR, QS, QT, QU, QV, QW, QX, QY, QZ, Ja, Jb, Jc, Jd, Je, Jf, Jg, Jh, Ji, Jj, Jk, Jl, Jm, Jn, Jo, Jp, Jq, Jr, Js, Jt, Nat.reduceAdd]
    exact hk _ (Gt.refl _)
theorem nth20_sp {N s t : Int} (hlf : 1000000 ≤ lf) (hL : L ≤ m.next) (hk : ∀ u m', Gt m m' → IN m' u (nthL N s t) → k (.tuple ⟨[u, .int .i64 (nthE N s t)]⟩) m' = some ()) : runT (tab lf) (n + 3) 20 [.int .i64 N, .int .i64 s, .int .i64 t] L m k = some () := by
  rw [r20]; dsimp only [S20, iofNat, inegSucc]
  try simp (disch := first | omega | with_unfolding_all exact id rfl | with_unfolding_all exact Nat.le_of_ble_eq_true rfl | (simp only [Jd, Je, Jr, Js, Jt, Nat.reduceAdd, allOne, oneCell, Bool.and_self, Jc]; first | done | omega)) only [↓Qa, ↓Qb, ↓Qc, Qd, Qe, Qf, Qg, Qh, Qi, Qj, Qk, Ql, Qm, Qn, Qo, Qp, Qq, Qr, Qs, Qt, Qu, Qv, Qw, Qx, Qy, ptrTo, Qz, QA, QB, QC, QD, QE, QF, QG, QH, QI, QJ, QK, QL, QM, QN, QO, QP, QQ, QR, QS, QT, QU, QV, QW, QX, QY, QZ, Ja, Jb, Jc, Jd, Je, Jf, Jg, Jh, Ji, Jj, Jk, Jl, Jm, Jn, Jo, Jp, Jq, Jr, Js, Jt, Nat.reduceAdd]
  refine sized_sp ?_
  by_cases h : szE N s = 0
  · have hE : nthE N s t = if inX N s t then 0 else 2 := if_pos h
    obtain ⟨a, q, rfl, rfl, h1, h10, hq⟩ := szE0 h
    have hc : cntX (a : Int) (q : Int) = (chs a q : Int) := by unfold cntX; rw [if_pos h]; rfl
    have hcl := chs_le (n := a) (k := q) (by omega)
    rw [h]
    try simp (disch := first | omega | with_unfolding_all exact id rfl | with_unfolding_all exact Nat.le_of_ble_eq_true rfl | (simp only [Jd, Je, Jr, Js, Jt, Nat.reduceAdd, allOne, oneCell, Bool.and_self, Jc]; first | done | omega)) only [↓Qa, ↓Qb, ↓Qc, Qd, Qe, Qf, Qg, Qh, Qi, Qj, Qk, Ql, Qm, Qn, Qo, Qp, Qq, Qr, Qs, Qt, Qu, Qv, Qw, Qx, Qy, ptrTo, Qz, QA, QB, QC, QD, QE, QF, QG, QH, QI, QJ, QK, QL, QM, QN, QO, QP, QQ, QR, QS, QT, QU, QV, QW, QX, QY, QZ, Ja, Jb, Jc, Jd, Je, Jf, Jg, Jh, Ji, Jj, Jk, Jl, Jm, Jn, Jo, Jp, Jq, Jr, Js, Jt, Nat.reduceAdd]
    refine choose_sp hlf (by omega) (by omega) ?_
    rw [oInt_sub ⟨by omega, by omega⟩]
    refine within_sp _ _ _ ?_
    have hin : (0 ≤ t ∧ t ≤ (chs a q : Int) - 1) ↔ inX a q t := by unfold inX; rw [hc]
    by_cases hi : inX (a : Int) (q : Int) t
    · have hi' := hin.2 hi
      have hL2 : nthL (a : Int) (q : Int) t = nthK q t.toNat := if_pos ⟨h, hi⟩
      rw [hE, if_pos hi, hL2] at hk
      obtain ⟨i, rfl⟩ : ∃ i : Nat, t = i := ⟨t.toNat, by omega⟩
      rw [Int.toNat_natCast] at hk
      try simp (disch := first | omega | with_unfolding_all exact id rfl | with_unfolding_all exact Nat.le_of_ble_eq_true rfl | (simp only [Jd, Je, Jr, Js, Jt, Nat.reduceAdd, allOne, oneCell, Bool.and_self, Jc]; first | done | omega)) only [decide_eq_true hi', ↓Qa, ↓Qb, ↓Qc, Qd, Qe, Qf, Qg, Qh, Qi, Qj, Qk, Ql, Qm, Qn, Qo, Qp, Qq, Qr, Qs, Qt, Qu, Qv, Qw, Qx, Qy, ptrTo, Qz, QA, QB, QC, QD, QE, QF, QG, QH, QI, QJ, QK, QL, QM, QN, QO, QP, QQ, QR, QS, QT, QU, QV, QW, QX, QY, QZ, Ja, Jb, Jc, Jd, Je, Jf, Jg, Jh, Ji, Jj, Jk, Jl, Jm, Jn, Jo, Jp, Jq, Jr, Js, Jt, Nat.reduceAdd]
      refine nth_sp hlf hL h10 hq (by omega) fun u m' e hu _ _ => ?_
      exact hk _ _ e hu
    · rw [hE, if_neg hi, show nthL (a : Int) (q : Int) t = [] from if_neg fun hh => hi hh.2] at hk
      try simp (disch := first | omega | with_unfolding_all exact id rfl | with_unfolding_all exact Nat.le_of_ble_eq_true rfl | (simp only [Jd, Je, Jr, Js, Jt, Nat.reduceAdd, allOne, oneCell, Bool.and_self, Jc]; first | done | omega)) only [decide_eq_false (fun hh => hi (hin.1 hh)), ↓Qa, ↓Qb, ↓Qc, Qd, Qe, Qf, Qg, Qh, Qi, Qj, Qk, Ql, Qm, Qn, Qo, Qp, Qq, Qr, Qs, Qt, Qu, Qv, Qw, Qx, Qy, ptrTo, Qz, QA, QB, QC, QD, QE, QF, QG, QH, QI, QJ, QK, QL, QM, QN, QO, QP, QQ, QR, QS, QT, QU, QV, QW, QX, QY, QZ, Ja, Jb, Jc, Jd, Je, Jf, Jg, Jh, Ji, Jj, Jk, Jl, Jm, Jn, Jo, Jp, Jq, Jr, Js, Jt, Nat.reduceAdd]
      exact hk _ _ (Gt.refl _) (IL.nil _)
  · rw [show nthE N s t = szE N s from if_neg h, show nthL N s t = [] from if_neg fun hh => h hh.1] at hk
    try simp (disch := first | omega | with_unfolding_all exact id rfl | with_unfolding_all exact Nat.le_of_ble_eq_true rfl | (simp only [Jd, Je, Jr, Js, Jt, Nat.reduceAdd, allOne, oneCell, Bool.and_self, Jc]; first | done | omega)) only [decide_eq_false h, ↓Qa, ↓Qb, ↓Qc, Qd, Qe, Qf, Qg, Qh, Qi, Qj, Qk, Ql, Qm, Qn, Qo, Qp, Qq, Qr, Qs, Qt, Qu, Qv, Qw, Qx, Qy, ptrTo, Qz, QA, QB, QC, QD, QE, QF, QG, QH, QI, QJ, QK, QL, QM, QN, QO, QP, QQ, QR, QS, QT, QU, QV, QW, QX, QY, QZ, Ja, Jb, Jc, Jd, Je, Jf, Jg, Jh, Ji, Jj, Jk, Jl, Jm, Jn, Jo, Jp, Jq, Jr, Js, Jt, Nat.reduceAdd]
    exact hk _ _ (Gt.refl _) (IL.nil _)
theorem nth21_sp {N s t : Int} (hlf : 1000000 ≤ lf) (hL : L ≤ m.next) (hk : ∀ u m', Gt m m' → IN m' u (nthL N s t) → k (.tuple ⟨[u, .int .i64 (nthE N s t)]⟩) m' = some ()) : runT (tab lf) (n + 15) 21 [.int .i64 N, .int .i64 s, .int .i64 t] L m k = some () := by
  rw [r21]; dsimp only [S21, iofNat, inegSucc]
  try simp (disch := first | omega | with_unfolding_all exact id rfl | with_unfolding_all exact Nat.le_of_ble_eq_true rfl | (simp only [Jd, Je, Jr, Js, Jt, Nat.reduceAdd, allOne, oneCell, Bool.and_self, Jc]; first | done | omega)) only [↓Qa, ↓Qb, Qd, Qe, Qf, Qg, Qh, Qi, Qj, Qk, Ql, Qm, Qn, Qo, Qp, Qq, Qr, Qs, Qt, Qu, Qv, Qw, Qx, Qy, ptrTo, Qz, QA, QB, QC, QD, QE, QF, QG, QH, QI, QJ, QK, QL, QM, QN, QO, QP, QQ, QR, QS, QT, QU, QV, QW, QX, QY, QZ, Ja, Jb, Jc, Jd, Je, Jf, Jg, Jh, Ji, Jj, Jk, Jl, Jm, Jn, Jo, Jp, Jq, Jr, Js, Jt, Nat.reduceAdd]
  refine refcount_sp hlf hL fun m1 e1 => ?_
  have n1 := e1.next
  by_cases h : szE N s = 0
  · have hE : nthE N s t = if inX N s t then 0 else 2 := if_pos h
    obtain ⟨a, q, rfl, rfl, h1, h10, hq⟩ := szE0 h
    have hc : cntX (a : Int) (q : Int) = (chs a q : Int) := by unfold cntX; rw [if_pos h]; rfl
    have hcl := chs_le (n := a) (k := q) (by omega)
    have hin : (0 ≤ t ∧ t ≤ (chs a q : Int) - 1) ↔ inX a q t := by unfold inX; rw [hc]
    rw [h, hc]
    have s1 : ∀ K : Value → Option Unit, oInt .sub .i64 (.int .i64 (chs a q : Int)) (.int .i64 1) K = K (.int .i64 ((chs a q : Int) - 1)) := fun K => oInt_sub ⟨by omega, by omega⟩ K
    try simp (disch := first | omega | with_unfolding_all exact id rfl | with_unfolding_all exact Nat.le_of_ble_eq_true rfl | (simp only [Jd, Je, Jr, Js, Jt, Nat.reduceAdd, allOne, oneCell, Bool.and_self, Jc]; first | done | omega)) only [s1, ↓Qa, ↓Qb, Qd, Qe, Qf, Qg, Qh, Qi, Qj, Qk, Ql, Qm, Qn, Qo, Qp, Qq, Qr, Qs, Qt, Qu, Qv, Qw, Qx, Qy, ptrTo, Qz, QA, QB, QC, QD, QE, QF, QG, QH, QI, QJ, QK, QL, QM, QN, QO, QP, QQ, QR, QS, QT, QU, QV, QW, QX, QY, QZ, Ja, Jb, Jc, Jd, Je, Jf, Jg, Jh, Ji, Jj, Jk, Jl, Jm, Jn, Jo, Jp, Jq, Jr, Js, Jt, Nat.reduceAdd]
    refine in_sp _ _ _ ?_
    by_cases hi : inX (a : Int) (q : Int) t
    · have hi' := hin.2 hi
      have hL2 : nthL (a : Int) (q : Int) t = nthK q t.toNat := if_pos ⟨h, hi⟩
      rw [hE, if_pos hi, hL2] at hk
      obtain ⟨i, rfl⟩ : ∃ i : Nat, t = i := ⟨t.toNat, by omega⟩
      rw [Int.toNat_natCast] at hk
      try simp (disch := first | omega | with_unfolding_all exact id rfl | with_unfolding_all exact Nat.le_of_ble_eq_true rfl | (simp only [Jd, Je, Jr, Js, Jt, Nat.reduceAdd, allOne, oneCell, Bool.and_self, Jc]; first | done | omega)) only [decide_eq_true hi', ↓Qa, ↓Qb, Qd, Qe, Qf, Qg, Qh, Qi, Qj, Qk, Ql, Qm, Qn, Qo, Qp, Qq, Qr, Qs, Qt, Qu, Qv, Qw, Qx, Qy, ptrTo, Qz, QA, QB, QC, QD, QE, QF, QG, QH, QI, QJ, QK, QL, QM, QN, QO, QP, QQ, QR, QS, QT, QU, QV, QW, QX, QY, QZ, Ja, Jb, Jc, Jd, Je, Jf, Jg, Jh, Ji, Jj, Jk, Jl, Jm, Jn, Jo, Jp, Jq, Jr, Js, Jt, Nat.reduceAdd]
      repeat (rw [join_e]; try simp (disch := first | omega | with_unfolding_all exact id rfl | with_unfolding_all exact Nat.le_of_ble_eq_true rfl | (simp only [Jd, Je, Jr, Js, Jt, Nat.reduceAdd, allOne, oneCell, Bool.and_self, Jc]; first | done | omega)) only [decide_eq_true hi', ↓Qa, ↓Qb, Qd, Qe, Qf, Qg, Qh, Qi, Qj, Qk, Ql, Qm, Qn, Qo, Qp, Qq, Qr, Qs, Qt, Qu, Qv, Qw, Qx, Qy, ptrTo, Qz, QA, QB, QC, QD, QE, QF, QG, QH, QI, QJ, QK, QL, QM, QN, QO, QP, QQ, QR, QS, QT, QU, QV, QW, QX, QY, QZ, Ja, Jb, Jc, Jd, Je, Jf, Jg, Jh, Ji, Jj, Jk, Jl, Jm, Jn, Jo, Jp, Jq, Jr, Js, Jt, Nat.reduceAdd])
      rw [show n + 14 = (n + 12 - a) + a + 2 by omega]
      refine round_sp hlf a h10 hq (by omega) fun u m2 e2 hu => ?_
      have hil : i < (rnd a q).length := by rw [rnd_len h10 hq]; omega
      obtain ⟨x, x1, x2⟩ := hu.ll.ld hil
      rw [rnd_get h10 hq (by omega) hil] at x2
      rw [hu.ll.ia hil, oOpt_e, x1, oOpt_e]
      exact hk _ _ (e1.trans e2) x2
    · rw [hE, if_neg hi, show nthL (a : Int) (q : Int) t = [] from if_neg fun hh => hi hh.2] at hk
      have d1 := decide_eq_false (fun hh => hi (hin.1 hh))
      try simp (disch := first | omega | with_unfolding_all exact id rfl | with_unfolding_all exact Nat.le_of_ble_eq_true rfl | (simp only [Jd, Je, Jr, Js, Jt, Nat.reduceAdd, allOne, oneCell, Bool.and_self, Jc]; first | done | omega)) only [d1, ↓Qa, ↓Qb, Qd, Qe, Qf, Qg, Qh, Qi, Qj, Qk, Ql, Qm, Qn, Qo, Qp, Qq, Qr, Qs, Qt, Qu, Qv, Qw, Qx, Qy, ptrTo, Qz, QA, QB, QC, QD, QE, QF, QG, QH, QI, QJ, QK, QL, QM, QN, QO, QP, QQ, QR, QS, QT, QU, QV, QW, QX, QY, QZ, Ja, Jb, Jc, Jd, Je, Jf, Jg, Jh, Ji, Jj, Jk, Jl, Jm, Jn, Jo, Jp, Jq, Jr, Js, Jt, Nat.reduceAdd]
      repeat (rw [join_e]; try simp (disch := first | omega | with_unfolding_all exact id rfl | with_unfolding_all exact Nat.le_of_ble_eq_true rfl | (simp only [Jd, Je, Jr, Js, Jt, Nat.reduceAdd, allOne, oneCell, Bool.and_self, Jc]; first | done | omega)) only [d1, ↓Qa, ↓Qb, Qd, Qe, Qf, Qg, Qh, Qi, Qj, Qk, Ql, Qm, Qn, Qo, Qp, Qq, Qr, Qs, Qt, Qu, Qv, Qw, Qx, Qy, ptrTo, Qz, QA, QB, QC, QD, QE, QF, QG, QH, QI, QJ, QK, QL, QM, QN, QO, QP, QQ, QR, QS, QT, QU, QV, QW, QX, QY, QZ, Ja, Jb, Jc, Jd, Je, Jf, Jg, Jh, Ji, Jj, Jk, Jl, Jm, Jn, Jo, Jp, Jq, Jr, Js, Jt, Nat.reduceAdd])
      exact hk _ _ e1 (IL.nil _)
  · rw [show nthE N s t = szE N s from if_neg h, show nthL N s t = [] from if_neg fun hh => h hh.1] at hk
    try simp (disch := first | omega | with_unfolding_all exact id rfl | with_unfolding_all exact Nat.le_of_ble_eq_true rfl | (simp only [Jd, Je, Jr, Js, Jt, Nat.reduceAdd, allOne, oneCell, Bool.and_self, Jc]; first | done | omega)) only [decide_eq_false h, ↓Qa, ↓Qb, Qd, Qe, Qf, Qg, Qh, Qi, Qj, Qk, Ql, Qm, Qn, Qo, Qp, Qq, Qr, Qs, Qt, Qu, Qv, Qw, Qx, Qy, ptrTo, Qz, QA, QB, QC, QD, QE, QF, QG, QH, QI, QJ, QK, QL, QM, QN, QO, QP, QQ, QR, QS, QT, QU, QV, QW, QX, QY, QZ, Ja, Jb, Jc, Jd, Je, Jf, Jg, Jh, Ji, Jj, Jk, Jl, Jm, Jn, Jo, Jp, Jq, Jr, Js, Jt, Nat.reduceAdd]
    repeat (rw [join_e]; try simp (disch := first | omega | with_unfolding_all exact id rfl | with_unfolding_all exact Nat.le_of_ble_eq_true rfl | (simp only [Jd, Je, Jr, Js, Jt, Nat.reduceAdd, allOne, oneCell, Bool.and_self, Jc]; first | done | omega)) only [decide_eq_false h, ↓Qa, ↓Qb, Qd, Qe, Qf, Qg, Qh, Qi, Qj, Qk, Ql, Qm, Qn, Qo, Qp, Qq, Qr, Qs, Qt, Qu, Qv, Qw, Qx, Qy, ptrTo, Qz, QA, QB, QC, QD, QE, QF, QG, QH, QI, QJ, QK, QL, QM, QN, QO, QP, QQ, QR, QS, QT, QU, QV, QW, QX, QY, QZ, Ja, Jb, Jc, Jd, Je, Jf, Jg, Jh, Ji, Jj, Jk, Jl, Jm, Jn, Jo, Jp, Jq, Jr, Js, Jt, Nat.reduceAdd])
    exact hk _ _ e1 (IL.nil _)
end
end Go.Vit

/- Walks: Next, both ways. -/
namespace Go.Vit
open Go Go.Proofs
attribute [local irreducible] runT loopS
/-- The next one of a round of more than one: a blend, another one. -/
theorem nx_ok {a : Nat} {l : List Nat} (h10 : a ≤ 10) (hb : Bl a l.length l) (hc : chs a l.length ≠ 1) : ∃ i, i < chs a l.length ∧ numK l l.length = i ∧ nxK a l = nthK l.length ((i + 1) % chs a l.length) ∧ (i + 1) % chs a l.length < chs a l.length ∧
    Bl a l.length (nxK a l) ∧ (∃ o t, less l (nxK a l) = o :: t) ∧ ∃ o t, less (nxK a l) l = o :: t := by
  obtain ⟨i, hi, g1, g2, g3⟩ := bl_num h10 hb
  have hmod : (i + 1) % chs a l.length < chs a l.length := Nat.mod_lt _ (by omega)
  have hnx : nxK a l = nthK l.length ((i + 1) % chs a l.length) := by unfold nxK; rw [g2]; rfl
  have hbl := nth_bl h10 hb.le hmod
  rw [← hnx] at hbl
  have hne : l ≠ nxK a l := fun he => by
    have h5 := rnd_at h10 hb.le hmod
    rw [← h5.1, ← hnx, ← he, g2] at h5
    have h6 : i = (i + 1) % chs a l.length := Int.ofNat.inj h5.2
    by_cases h7 : i + 1 < chs a l.length
    · rw [Nat.mod_eq_of_lt h7] at h6; omega
    · rw [show i + 1 = chs a l.length by omega, Nat.mod_self] at h6; omega
  have hp : ∀ {x y : List Nat}, Bl a l.length x → Bl a l.length y → x ≠ y → ∃ o t, less x y = o :: t := fun {x y} hx hy hxy => by
    refine List.exists_cons_of_length_pos ?_
    rw [less_len]
    refine Nat.pos_of_ne_zero fun h => hxy ((away_zero hx hy).1 h)
  exact ⟨i, hi, g2, hnx, hmod, hbl, hp hb hbl hne, hp hbl hb (Ne.symm hne)⟩
section
variable {lf n L : Nat} {m : Mem} {k : Value → Mem → Option Unit}
theorem next23_sp {N : Int} {v : Value} {l : List Int} (hlf : 1000000 ≤ lf) (hL : L ≤ m.next) (hv : IL m v l) (ho : Opn v) (hl : l.length < 1000)
    (hk : ∀ u m', Gt m m' → IN m' u (nxtL N l) → k (.tuple ⟨[u, .int .i64 (nxtO N l), .int .i64 (nxtI N l), .int .i64 (nxtE N l)]⟩) m' = some ()) : runT (tab lf) (n + 15) 23 [.int .i64 N, v] L m k = some () := by
  rw [r23]; dsimp only [S23, iofNat, inegSucc]
  try simp (disch := first | omega | with_unfolding_all exact id rfl | with_unfolding_all exact Nat.le_of_ble_eq_true rfl | (simp only [Jd, Je, Jr, Js, Jt, Nat.reduceAdd, allOne, oneCell, Bool.and_self, Jc]; first | done | omega)) only [↓Qa, ↓Qb, ↓Qc, Qd, Qe, Qf, Qg, Qh, Qi, Qj, Qk, Ql, Qm, Qn, Qo, Qp, Qq, Qr, Qs, Qt, Qu, Qv, Qw, Qx, Qy, ptrTo, Qz, QA, QB, QC, QD, QE, QF, QG, QH, QI, QJ, QK, QL, QM, QN, QO, QP, QQ, QR, QS, QT, QU, QV, QW, QX, QY, QZ, Ja, Jb, Jc, Jd, Je, Jf, Jg, Jh, Ji, Jj, Jk, Jl, Jm, Jn, Jo, Jp, Jq, Jr, Js, Jt, Nat.reduceAdd]
  refine check_sp hlf hv (by omega) ?_
  by_cases h : chkB N l = 0
  · have hE : nxtE N l = if chs N.toNat l.length = 1 then 12 else 0 := if_pos h
    obtain ⟨a, l', rfl, h1, h10, rfl, hb⟩ := chkB_bl h
    have hle := hb.le
    have hcl := chs_le (n := a) (k := l'.length) (by omega)
    have hcp := chs_pos (n := a) (by omega) hle
    rw [ci_length, Int.toNat_natCast] at hE
    have hv : IN m v l' := hv
    rw [h]
    try simp (disch := first | omega | with_unfolding_all exact id rfl | with_unfolding_all exact Nat.le_of_ble_eq_true rfl | (simp only [Jd, Je, Jr, Js, Jt, Nat.reduceAdd, allOne, oneCell, Bool.and_self, Jc]; first | done | omega)) only [hv.ln, ↓Qa, ↓Qb, ↓Qc, Qd, Qe, Qf, Qg, Qh, Qi, Qj, Qk, Ql, Qm, Qn, Qo, Qp, Qq, Qr, Qs, Qt, Qu, Qv, Qw, Qx, Qy, ptrTo, Qz, QA, QB, QC, QD, QE, QF, QG, QH, QI, QJ, QK, QL, QM, QN, QO, QP, QQ, QR, QS, QT, QU, QV, QW, QX, QY, QZ, Ja, Jb, Jc, Jd, Je, Jf, Jg, Jh, Ji, Jj, Jk, Jl, Jm, Jn, Jo, Jp, Jq, Jr, Js, Jt, Nat.reduceAdd]
    refine choose_sp hlf (by omega) (by omega) ?_
    by_cases hc : chs a l'.length = 1
    · rw [if_pos hc] at hE
      have h12 : ¬ nxtE (a : Int) (ci l') = 0 := by rw [hE]; decide
      rw [show nxtO (a : Int) (ci l') = 0 from if_neg h12, show nxtI (a : Int) (ci l') = 0 from if_neg h12, show nxtL (a : Int) (ci l') = [] from if_neg h12, hE] at hk
      have d1 : decide ((chs a l'.length : Int) = 1) = true := decide_eq_true (by omega)
      try simp (disch := first | omega | with_unfolding_all exact id rfl | with_unfolding_all exact Nat.le_of_ble_eq_true rfl | (simp only [Jd, Je, Jr, Js, Jt, Nat.reduceAdd, allOne, oneCell, Bool.and_self, Jc]; first | done | omega)) only [d1, ↓Qa, ↓Qb, ↓Qc, Qd, Qe, Qf, Qg, Qh, Qi, Qj, Qk, Ql, Qm, Qn, Qo, Qp, Qq, Qr, Qs, Qt, Qu, Qv, Qw, Qx, Qy, ptrTo, Qz, QA, QB, QC, QD, QE, QF, QG, QH, QI, QJ, QK, QL, QM, QN, QO, QP, QQ, QR, QS, QT, QU, QV, QW, QX, QY, QZ, Ja, Jb, Jc, Jd, Je, Jf, Jg, Jh, Ji, Jj, Jk, Jl, Jm, Jn, Jo, Jp, Jq, Jr, Js, Jt, Nat.reduceAdd]
      exact hk _ _ (Gt.refl _) (IL.nil _)
    · rw [if_neg hc] at hE
      obtain ⟨i, hi, q1, q2, q3, q4, q5, q6⟩ := nx_ok h10 hb hc
      have hnl : nxtL (a : Int) (ci l') = nxK a l' := by unfold nxtL; rw [if_pos hE, nni_ci]; rfl
      have hno : nxtO (a : Int) (ci l') = misI l' (nxK a l') := by unfold nxtO; rw [if_pos hE, nni_ci, hnl]
      have hni : nxtI (a : Int) (ci l') = misI (nxK a l') l' := by unfold nxtI; rw [if_pos hE, nni_ci, hnl]
      rw [hnl, hno, hni, hE] at hk
      have d1 : decide ((chs a l'.length : Int) = 1) = false := decide_eq_false (by omega)
      try simp (disch := first | omega | with_unfolding_all exact id rfl | with_unfolding_all exact Nat.le_of_ble_eq_true rfl | (simp only [Jd, Je, Jr, Js, Jt, Nat.reduceAdd, allOne, oneCell, Bool.and_self, Jc]; first | done | omega)) only [d1, hv.ln, ↓Qa, ↓Qb, ↓Qc, Qd, Qe, Qf, Qg, Qh, Qi, Qj, Qk, Ql, Qm, Qn, Qo, Qp, Qq, Qr, Qs, Qt, Qu, Qv, Qw, Qx, Qy, ptrTo, Qz, QA, QB, QC, QD, QE, QF, QG, QH, QI, QJ, QK, QL, QM, QN, QO, QP, QQ, QR, QS, QT, QU, QV, QW, QX, QY, QZ, Ja, Jb, Jc, Jd, Je, Jf, Jg, Jh, Ji, Jj, Jk, Jl, Jm, Jn, Jo, Jp, Jq, Jr, Js, Jt, Nat.reduceAdd]
      rw [show n + 14 = (n + 12 - l'.length) + l'.length + 2 by omega]
      refine number_sp hlf l'.length (by omega) hv ho rfl (fun x hx => by have := hb.lt x hx; omega) ?_
      have f6 : ∀ K : Value → Option Unit, oInt .add .i64 (.int .i64 (i : Int)) (.int .i64 1) K = K (.int .i64 ((i + 1 : Nat) : Int)) := fun K => by rw [oInt_add ⟨by omega, by omega⟩]; rfl
      rw [q1, f6, oInt_remN (by omega)]
      refine nth_sp hlf hL h10 hle q3 fun u m1 e1 hu _ _ => ?_
      rw [← q2] at hu
      rw [show (n + 12 - l'.length) + l'.length + 2 = (n + 11) + 3 by omega]
      refine missing_sp hlf (hv.mono e1) hu (by omega) (by have := q4.len; omega) ?_
      refine missing_sp hlf hu (hv.mono e1) (by have := q4.len; omega) (by omega) ?_
      exact hk _ _ e1 hu
  · have hE : nxtE N l = chkB N l := if_neg h
    have hE' : ¬ nxtE N l = 0 := by rw [hE]; exact h
    rw [show nxtO N l = 0 from if_neg hE', show nxtI N l = 0 from if_neg hE', show nxtL N l = [] from if_neg hE', hE] at hk
    try simp (disch := first | omega | with_unfolding_all exact id rfl | with_unfolding_all exact Nat.le_of_ble_eq_true rfl | (simp only [Jd, Je, Jr, Js, Jt, Nat.reduceAdd, allOne, oneCell, Bool.and_self, Jc]; first | done | omega)) only [hv.ln, ↓Qa, ↓Qb, ↓Qc, Qd, Qe, Qf, Qg, Qh, Qi, Qj, Qk, Ql, Qm, Qn, Qo, Qp, Qq, Qr, Qs, Qt, Qu, Qv, Qw, Qx, Qy, ptrTo, Qz, QA, QB, QC, QD, QE, QF, QG, QH, QI, QJ, QK, QL, QM, QN, QO, QP, QQ, QR, QS, QT, QU, QV, QW, QX, QY, QZ, Ja, Jb, Jc, Jd, Je, Jf, Jg, Jh, Ji, Jj, Jk, Jl, Jm, Jn, Jo, Jp, Jq, Jr, Js, Jt, Nat.reduceAdd]
    refine choose_any hlf (by omega) fun z => ?_
    try simp (disch := first | omega | with_unfolding_all exact id rfl | with_unfolding_all exact Nat.le_of_ble_eq_true rfl | (simp only [Jd, Je, Jr, Js, Jt, Nat.reduceAdd, allOne, oneCell, Bool.and_self, Jc]; first | done | omega)) only [decide_eq_false h, ↓Qa, ↓Qb, ↓Qc, Qd, Qe, Qf, Qg, Qh, Qi, Qj, Qk, Ql, Qm, Qn, Qo, Qp, Qq, Qr, Qs, Qt, Qu, Qv, Qw, Qx, Qy, ptrTo, Qz, QA, QB, QC, QD, QE, QF, QG, QH, QI, QJ, QK, QL, QM, QN, QO, QP, QQ, QR, QS, QT, QU, QV, QW, QX, QY, QZ, Ja, Jb, Jc, Jd, Je, Jf, Jg, Jh, Ji, Jj, Jk, Jl, Jm, Jn, Jo, Jp, Jq, Jr, Js, Jt, Nat.reduceAdd]
    exact hk _ _ (Gt.refl _) (IL.nil _)
theorem next24_sp {N : Int} {v : Value} {l : List Int} (hlf : 1000000 ≤ lf) (hL : L ≤ m.next) (hv : IL m v l) (hl : l.length < 1000)
    (hk : ∀ u m', Gt m m' → IN m' u (nxtL N l) → k (.tuple ⟨[u, .int .i64 (nxtO N l), .int .i64 (nxtI N l), .int .i64 (nxtE N l)]⟩) m' = some ()) : runT (tab lf) (n + 15) 24 [.int .i64 N, v] L m k = some () := by
  rw [r24]; dsimp only [S24, iofNat, inegSucc]
  try simp (disch := first | omega | with_unfolding_all exact id rfl | with_unfolding_all exact Nat.le_of_ble_eq_true rfl | (simp only [Jd, Je, Jr, Js, Jt, Nat.reduceAdd, allOne, oneCell, Bool.and_self, Jc]; first | done | omega)) only [↓Qa, ↓Qb, ↓Qc, Qd, Qe, Qf, Qg, Qh, Qi, Qj, Qk, Ql, Qm, Qn, Qo, Qp, Qq, Qr, Qs, Qt, Qu, Qv, Qw, Qx, Qy, ptrTo, Qz, QA, QB, QC, QD, QE, QF, QG, QH, QI, QJ, QK, QL, QM, QN, QO, QP, QQ, QR, QS, QT, QU, QV, QW, QX, QY, QZ, Ja, Jb, Jc, Jd, Je, Jf, Jg, Jh, Ji, Jj, Jk, Jl, Jm, Jn, Jo, Jp, Jq, Jr, Js, Jt, Nat.reduceAdd]
  refine number19_sp hlf hL hv (by omega) fun m1 e1 => ?_
  have n1 := e1.next
  by_cases h : chkB N l = 0
  · have hE : nxtE N l = if chs N.toNat l.length = 1 then 12 else 0 := if_pos h
    have hnum : numX N l = numK (nni l) l.length := if_pos h
    obtain ⟨a, l', rfl, h1, h10, rfl, hb⟩ := chkB_bl h
    have hle := hb.le
    have hcl := chs_le (n := a) (k := l'.length) (by omega)
    have hcp := chs_pos (n := a) (by omega) hle
    rw [ci_length, Int.toNat_natCast] at hE
    rw [nni_ci, ci_length] at hnum
    have hv : IN m v l' := hv
    have hv1 := hv.mono e1
    rw [h, hnum]
    try simp (disch := first | omega | with_unfolding_all exact id rfl | with_unfolding_all exact Nat.le_of_ble_eq_true rfl | (simp only [Jd, Je, Jr, Js, Jt, Nat.reduceAdd, allOne, oneCell, Bool.and_self, Jc]; first | done | omega)) only [hv1.ln, ↓Qa, ↓Qb, ↓Qc, Qd, Qe, Qf, Qg, Qh, Qi, Qj, Qk, Ql, Qm, Qn, Qo, Qp, Qq, Qr, Qs, Qt, Qu, Qv, Qw, Qx, Qy, ptrTo, Qz, QA, QB, QC, QD, QE, QF, QG, QH, QI, QJ, QK, QL, QM, QN, QO, QP, QQ, QR, QS, QT, QU, QV, QW, QX, QY, QZ, Ja, Jb, Jc, Jd, Je, Jf, Jg, Jh, Ji, Jj, Jk, Jl, Jm, Jn, Jo, Jp, Jq, Jr, Js, Jt, Nat.reduceAdd]
    rw [show n + 14 = (n + 12 - a) + a + 2 by omega]
    refine round_sp hlf a h10 hle (by omega) fun u m2 e2 hu => ?_
    have n2 := e2.next
    have hv2 := hv1.mono e2
    have hrl := rnd_len h10 hle
    rw [show (n + 12 - a) + a + 2 = n + 14 by omega]
    by_cases hc : chs a l'.length = 1
    · rw [if_pos hc] at hE
      have h12 : ¬ nxtE (a : Int) (ci l') = 0 := by rw [hE]; decide
      rw [show nxtO (a : Int) (ci l') = 0 from if_neg h12, show nxtI (a : Int) (ci l') = 0 from if_neg h12, show nxtL (a : Int) (ci l') = [] from if_neg h12, hE] at hk
      have d1 : decide ((chs a l'.length : Int) = 1) = true := decide_eq_true (by omega)
      rw [hu.ln, hrl]
      try simp (disch := first | omega | with_unfolding_all exact id rfl | with_unfolding_all exact Nat.le_of_ble_eq_true rfl | (simp only [Jd, Je, Jr, Js, Jt, Nat.reduceAdd, allOne, oneCell, Bool.and_self, Jc]; first | done | omega)) only [d1, ↓Qa, ↓Qb, ↓Qc, Qd, Qe, Qf, Qg, Qh, Qi, Qj, Qk, Ql, Qm, Qn, Qo, Qp, Qq, Qr, Qs, Qt, Qu, Qv, Qw, Qx, Qy, ptrTo, Qz, QA, QB, QC, QD, QE, QF, QG, QH, QI, QJ, QK, QL, QM, QN, QO, QP, QQ, QR, QS, QT, QU, QV, QW, QX, QY, QZ, Ja, Jb, Jc, Jd, Je, Jf, Jg, Jh, Ji, Jj, Jk, Jl, Jm, Jn, Jo, Jp, Jq, Jr, Js, Jt, Nat.reduceAdd]
      exact hk _ _ (e1.trans e2) (IL.nil _)
    · rw [if_neg hc] at hE
      obtain ⟨i, hi, q1, q2, q3, q4, ⟨o, t, q5⟩, o', t', q6⟩ := nx_ok h10 hb hc
      have hnl : nxtL (a : Int) (ci l') = nxK a l' := by unfold nxtL; rw [if_pos hE, nni_ci]; rfl
      have hno : nxtO (a : Int) (ci l') = (o : Int) := by unfold nxtO; rw [if_pos hE, nni_ci, hnl]; unfold misI; rw [q5]; rfl
      have hni : nxtI (a : Int) (ci l') = (o' : Int) := by unfold nxtI; rw [if_pos hE, nni_ci, hnl]; unfold misI; rw [q6]; rfl
      rw [hnl, hno, hni, hE] at hk
      have d1 : decide ((chs a l'.length : Int) = 1) = false := decide_eq_false (by omega)
      have f6 : ∀ K : Value → Option Unit, oInt .add .i64 (.int .i64 (i : Int)) (.int .i64 1) K = K (.int .i64 ((i + 1 : Nat) : Int)) := fun K => by rw [oInt_add ⟨by omega, by omega⟩]; rfl
      rw [hu.ln, hrl, q1, oOpt_e, oInt_eql, d1, oIf_f, f6, oOpt_e, oInt_remN (by omega)]
      have hil : (i + 1) % chs a l'.length < (rnd a l'.length).length := by omega
      obtain ⟨x, x1, x2⟩ := hu.ll.ld hil
      rw [rnd_get h10 hle q3 hil, ← q2] at x2
      rw [hu.ll.ia hil, oOpt_e, x1, oOpt_e]
      have hxl := q4.len
      refine less_sp hlf (by omega) hv2 x2 (by omega) (by omega) fun w1 m6 e6 hw1 => ?_
      have n6 := e6.next
      rw [q5] at hw1
      obtain ⟨b1, hb1, rfl, hr1⟩ : ∃ b1, m2.next ≤ b1 ∧ w1 = .slice (some ⟨b1, 0, none⟩) (o :: t).length (o :: t).length ∧ m6.rd b1 = some ⟨1, (ci (o :: t)).map (Value.int .i64), none⟩ := by
        rcases hw1 with ⟨_, h, _⟩ | ⟨b1, h1, h2, h3, _⟩
        · rw [ci_length, List.length_cons] at h; omega
        · rw [ci_length] at h2; exact ⟨b1, h1, h2, h3⟩
      have hia : ia 1 (.slice (some ⟨b1, 0, none⟩) (o :: t).length (o :: t).length) (.int .i64 0) = some (.pointer (some ⟨b1, 0, none⟩)) :=
        ia_e (sz := 1) (i := 0) (show 0 < (o :: t).length by simp)
      have hld : ld1 m6 (.pointer (some ⟨b1, 0, none⟩)) = some (.int .i64 (o : Int)) := by rw [ld1_u, hr1]; rfl
      rw [hia, oOpt_e, hld, oOpt_e]
      refine less_sp hlf (by omega) (x2.mono e6) (hv2.mono e6) (by omega) (by omega) fun w2 m7 e7 hw2 => ?_
      rw [oSm_keep hr1 (e7.kept _ (Mem.rd_lt hr1))]
      rw [q6] at hw2
      have y3 : ia 1 w2 (.int .i64 0) = some (ep 1 w2 0) := hw2.inn.ia (i := 0) (by simp)
      have y4 : ld1 m7 (ep 1 w2 0) = some (.int .i64 (o' : Int)) := hw2.inn.ld (i := 0) (by simp)
      rw [y3, oOpt_e, y4, oOpt_e]
      exact hk _ _ (((e1.trans e2).trans e6).trans e7) ((x2.mono e6).mono e7)
  · have hE : nxtE N l = chkB N l := if_neg h
    have hE' : ¬ nxtE N l = 0 := by rw [hE]; exact h
    rw [show nxtO N l = 0 from if_neg hE', show nxtI N l = 0 from if_neg hE', show nxtL N l = [] from if_neg hE', hE] at hk
    try simp (disch := first | omega | with_unfolding_all exact id rfl | with_unfolding_all exact Nat.le_of_ble_eq_true rfl | (simp only [Jd, Je, Jr, Js, Jt, Nat.reduceAdd, allOne, oneCell, Bool.and_self, Jc]; first | done | omega)) only [decide_eq_false h, ↓Qa, ↓Qb, ↓Qc, Qd, Qe, Qf, Qg, Qh, Qi, Qj, Qk, Ql, Qm, Qn, Qo, Qp, Qq, Qr, Qs, Qt, Qu, Qv, Qw, Qx, Qy, ptrTo, Qz, QA, QB, QC, QD, QE, QF, QG, QH, QI, QJ, QK, QL, QM, QN, QO, QP, QQ, QR, QS, QT, QU, QV, QW, QX, QY, QZ, Ja, Jb, Jc, Jd, Je, Jf, Jg, Jh, Ji, Jj, Jk, Jl, Jm, Jn, Jo, Jp, Jq, Jr, Js, Jt, Nat.reduceAdd]
    exact hk _ _ e1 (IL.nil _)
end
end Go.Vit

