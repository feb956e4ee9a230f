/- The law DockWeiss: its walk. -/
import Derived.Test.YtnmmjbclidbdbaaDoorW20
set_option linter.unusedSimpArgs false
set_option linter.unusedVariables false
set_option maxRecDepth 20000
namespace Go.Vit
open Go Go.Proofs
attribute [local irreducible] runT loopS
section
variable {lf n L : Nat} {m : Mem} {k : Value → Mem → Option Unit}
theorem mk1 {z a : Value} (hL : L ≤ m.next) (hc : a.cells.toList = [a]) (ha : allOne [a] = true) {F : Value → Value → Mem → Option Unit} (hk : ∀ m', Gt m m' → m'.rd m.next = some ⟨1, [a], none⟩ → m'.next = m.next + 1 → F (.pointer (some ⟨m.next, 0, none⟩)) Go.undef m' = some ()) :
    (oRes (anew m 1 [z] ptrTo) fun t m' => oRes (st1 1 L m' t a) (F t)) = some () := by
  rw [anew_eq, oRes_e]
  have hst : st1 1 L (m.push ⟨1, [z], none⟩) (ptrTo m.next) a = some (Go.undef, (m.push ⟨1, [z], none⟩).put m.next (some ⟨1, [a], none⟩)) := by
    show st1 1 L _ (.pointer (some ⟨m.next, 0, none⟩)) _ = _
    rw [st1_u, Mem.rd_push, hc]
    exact stw_e hL rfl (Nat.le_refl _) ha
  rw [hst, oRes_e]
  exact hk _ (Mem.put_gt (Mem.gt_push _ _) _ (Nat.le_refl _)) (Mem.rd_put_eq _ _ (by rw [Mem.push_next]; omega)) rfl
theorem power_sp {a b : Nat} (hlf : 1000000 ≤ lf) (ha : 1 ≤ a) (hb : b < 1000) (hab : a ^ b ≤ 100000) (hk : k (.int .i64 ((a ^ b : Nat) : Int)) m = some ()) : runT (tab lf) (n + 1) 48 [.int .i64 (a : Int), .int .i64 (b : Int)] L m k = some () := by
  rw [r48]; dsimp only [S48, iofNat, inegSucc]
  rw [uc_e, uc_e, un0_e]
  refine loop_up b (fun i vs m' => vs = [.int .i64 ((a ^ i : Nat) : Int), .int .i64 (i : Int)] ∧ m' = m) (by omega) ⟨rfl, rfl⟩ ?_
  rintro i vs m' hi ⟨rfl, rfl⟩ self hself
  rw [uc_e, uc_e, oInt_lss]
  refine oIf_dec (fun hc => ?_) (fun hc => ?_)
  · have h1 : a ^ (i + 1) ≤ a ^ b := Nat.pow_le_pow_right ha (by omega)
    rw [Nat.pow_succ] at h1
    rw [oInt_mul (by rw [← Int.natCast_mul]; exact ⟨by omega, by omega⟩), ← Int.natCast_mul, oInt_add ⟨by omega, by omega⟩]
    exact hself (by omega) _ _ ⟨by rw [Nat.pow_succ]; rfl, rfl⟩
  · have : i = b := by omega
    subst this
    exact hk
set_option maxHeartbeats 4000000 in
theorem weiss_sp {x0 x1 : Nat} (hlf : 1000000 ≤ lf) (hL : L ≤ m.next) (hT : TabOk mTab m) (h0 : x0 < 256) (h1 : x1 < 256) (hk : ∀ m', Gt m m' → k (.bool true) m' = some ()) : runT (tab lf) (n + 40) 9 [.int .u8 (x0 : Int), .int .u8 (x1 : Int)] L m k = some () := by
  rw [r9]; dsimp only [S9, iofNat, inegSucc]
  have hm5 := Nat.mod_lt x0 (show 0 < 5 by omega)
  have r5 : ∀ K : Value → Option Unit, oInt .rem .i64 (.int .i64 (x0 : Int)) (.int .i64 5) K = K (.int .i64 ((x0 % 5 : Nat) : Int)) := fun K => oInt_remN (b := 5) (by omega) K
  rw [uc_e, uc_e, un0_e, oCv_nat (by omega), r5, oInt_add ⟨by omega, by omega⟩]
  obtain ⟨N, hN⟩ : ∃ N, N = 1 + x0 % 5 := ⟨_, rfl⟩
  rw [show (1 : Int) + ((x0 % 5 : Nat) : Int) = (N : Int) by omega]
  refine mk1 hL rfl rfl fun m1 e1 q1 n1 => ?_
  have ld : ∀ (M : Mem) (q : Nat) (x : Value), M.rd q = some ⟨1, [x], none⟩ → ld1 M (.pointer (some ⟨q, 0, none⟩)) = some x := fun M q x h => by rw [ld1_u, h]; rfl
  have hmp := Nat.mod_lt x1 (show 0 < N + 1 by omega)
  have rp : ∀ K : Value → Option Unit, oInt .rem .i64 (.int .i64 (x1 : Int)) (.int .i64 ((N + 1 : Nat) : Int)) K = K (.int .i64 ((x1 % (N + 1) : Nat) : Int)) := fun K => oInt_remN (b := N + 1) (by omega) K
  rw [oCv_nat (by omega), ld m1 _ _ q1, oOpt_e, oInt_add ⟨by omega, by omega⟩, show (N : Int) + 1 = ((N + 1 : Nat) : Int) by omega, rp]
  obtain ⟨p, hp⟩ : ∃ p, p = x1 % (N + 1) := ⟨_, rfl⟩
  rw [← hp] at hmp ⊢
  refine mk1 (by omega) rfl rfl fun m2 e2 q2 n2 => ?_
  refine mk1 (by omega) rfl rfl fun m3 e3 q3 n3 => ?_
  refine mk1 (by omega) rfl rfl fun m4 e4 q4 n4 => ?_
  have q1 := (((e2.trans e3).trans e4).kept _ (by omega)).trans q1
  have q2 := ((e3.trans e4).kept _ (by omega)).trans q2
  have q3 := (e4.kept _ (by omega)).trans q3
  have E4 := ((e1.trans e2).trans e3).trans e4
  have hTn := hT.1
  rw [ld m4 _ _ q2, oOpt_e, ld m4 _ _ q1, oOpt_e]
  have hNp : N ^ p < 1000000 := Nat.lt_of_le_of_lt (Nat.le_trans (Nat.pow_le_pow_left (show N ≤ 5 by omega) p) (Nat.pow_le_pow_right (by omega) (show p ≤ 5 by omega))) (by decide)
  refine all_sp (n := n + 8) (ce := 30) (N := N) (p := p) (X := fun c => c = m3.next ∨ c = m2.next) (J := wJ m3.next m2.next N p) hlf (by omega) (by omega) (by omega) (by omega) hNp (fun c hc => by rcases hc with h | h <;> omega)
    (weissEach hlf (by omega) (by omega) (by omega) q1 q2 (by omega) (by omega) (by omega) (by omega) (by omega) (by omega) (by omega) (by omega) (hT.mono E4) (by omega) (by omega)) (fun o a b hab hj => ⟨(hab _ (by omega)).trans hj.1, (hab _ (by omega)).trans hj.2⟩)
    ⟨q4, by show m4.rd m2.next = some ⟨1, [.int .i64 (cbW N (List.replicate p 0) 0 : Int)], none⟩; rw [cb_zero]; exact q3⟩ fun m5 e5 j5 => ?_
  have n5 := e5.next
  obtain ⟨q4, q3⟩ := j5
  have q3 : m5.rd m2.next = some ⟨1, [.int .i64 (cntW N p 0 : Int)], none⟩ := q3
  have q1 := (e5.kept m.next (by omega) (fun h => by rcases h with h | h <;> omega)).trans q1
  have q2 := (e5.kept m1.next (by omega) (fun h => by rcases h with h | h <;> omega)).trans q2
  have E5 : Gt m m5 := GtX.gt E4 e5 fun c hc => by rcases hc with h | h <;> omega
  have hok : cOk (N : Int) (p : Int) := ⟨⟨by omega, by omega⟩, ⟨by omega, by omega⟩⟩
  have hcX : cX (N : Int) (p : Int) = (cntW N p 0 : Int) := by unfold cX; rw [if_pos hok, Int.toNat_natCast, Int.toNat_natCast]
  have hcE : cE (N : Int) (p : Int) = 0 := if_pos hok
  have hE : atE (N : Int) (p : Int) (cntW N p 0 : Int) = 1 := by
    unfold atE
    rw [if_pos hok, hcX, if_neg fun h => by have := h.2; omega]
  rw [ld m5 _ _ q1, oOpt_e, ld m5 _ _ q2, oOpt_e]
  refine count_sp (n := n + 28) hlf (by omega) fun m6 e6 => ?_
  have n6 := e6.next
  have q1 := (e6.kept _ (by omega)).trans q1
  have q2 := (e6.kept _ (by omega)).trans q2
  have q3 := (e6.kept _ (by omega)).trans q3
  have q4 := (e6.kept _ (by omega)).trans q4
  rw [ax0, oOpt_e, ax1, oOpt_e, ld m6 _ _ q1, oOpt_e, ld m6 _ _ q2, oOpt_e, ld m6 _ _ q3, oOpt_e]
  have E6 := E5.trans e6
  refine at2_sp (n := n + 19) hlf (by omega) (hT.mono E6) fun u7 m7 w e7 hu7 hR => ?_
  have n7 := e7.next
  have q1 := (e7.kept _ (by omega)).trans q1
  have q2 := (e7.kept _ (by omega)).trans q2
  have q3 := (e7.kept _ (by omega)).trans q3
  have q4 := (e7.kept _ (by omega)).trans q4
  have E7 := E6.trans e7
  have t1 := ld m7 _ _ q1
  have t2 := ld m7 _ _ q2
  have t3 := ld m7 _ _ q3
  have t4 := ld m7 _ _ q4
  have hw := weiss_e (n := N) (p := p) (by omega) (by omega) (by omega)
  rw [ax0, oOpt_e, ax1, oOpt_e, t2, oOpt_e, hcE, hcX, hE, oInt_gtr, join_e]
  refine oIf_dec (fun hc => ?_) (fun hc => ?_)
  · rw [if_neg (by omega)] at hw
    have hpw : (N + 1) ^ (p - 1) ≤ 1296 := Nat.le_trans (Nat.pow_le_pow_left (show N + 1 ≤ 6 by omega) _) (Nat.le_trans (Nat.pow_le_pow_right (by omega) (show p - 1 ≤ 4 by omega)) (by decide))
    have hmul : (N + 1 - p) * (N + 1) ^ (p - 1) ≤ 6 * 1296 := Nat.mul_le_mul (by omega) hpw
    rw [t1, oOpt_e, oInt_add ⟨by omega, by omega⟩, oOpt_e, oInt_sub ⟨by omega, by omega⟩, oOpt_e, oInt_add ⟨by omega, by omega⟩, oOpt_e, oInt_sub ⟨by omega, by omega⟩, show (N : Int) + 1 - (p : Int) = ((N + 1 - p : Nat) : Int) by omega, show (p : Int) - 1 = ((p - 1 : Nat) : Int) by omega, show (N : Int) + 1 = ((N + 1 : Nat) : Int) by omega]
    refine power_sp hlf (by omega) (by omega) (by omega) ?_
    have hb : ∀ x : Int, bEq (some ⟨1, [.int .i64 x], none⟩) (some ⟨1, [.int .i64 x], none⟩) = true := fun x => by
      rw [bEq_ss, veqL_cons, veqL_nil, veq_int, Bool.and_true]
    rw [oSm_u, q1, oSm_u, q2, hb, hb, oIf_t, oIf_t, oInt_mul (by rw [← Int.natCast_mul]; exact ⟨by omega, by omega⟩), ← Int.natCast_mul, ← hw]
    dsimp only
    rw [uc_e, t4, oOpt_e, join_e, oGT_t, oInt_eql, show decide ((0 : Int) = 0) = true from rfl]
    try simp (disch := first | omega | with_unfolding_all exact id rfl | with_unfolding_all exact Nat.le_of_ble_eq_true rfl | (simp only [Jd, Je, Jr, Js, Jt, Nat.reduceAdd, allOne, oneCell, Bool.and_self, Jc]; first | done | omega)) only [q3, ↓Qa, ↓Qb, Qd, Qe, Qf, Qg, Qh, Qi, Qj, Qk, Ql, Qm, Qn, Qo, Qp, Qq, Qr, Qs, Qt, Qu, Qv, Qw, Qx, Qy, ptrTo, Qz, QA, QB, QC, QD, QE, QF, QG, QH, QI, QJ, QK, QL, QM, QN, QO, QP, QQ, QR, QS, QT, QU, QV, QW, QX, QY, QZ, Ja, Jb, Jc, Jd, Je, Jf, Jg, Jh, Ji, Jj, Jk, Jl, Jm, Jn, Jo, Jp, Jq, Jr, Js, Jt, Nat.reduceAdd]
    repeat (rw [join_e]; try simp (disch := first | omega | with_unfolding_all exact id rfl | with_unfolding_all exact Nat.le_of_ble_eq_true rfl | (simp only [Jd, Je, Jr, Js, Jt, Nat.reduceAdd, allOne, oneCell, Bool.and_self, Jc]; first | done | omega)) only [q3, ↓Qa, ↓Qb, Qd, Qe, Qf, Qg, Qh, Qi, Qj, Qk, Ql, Qm, Qn, Qo, Qp, Qq, Qr, Qs, Qt, Qu, Qv, Qw, Qx, Qy, ptrTo, Qz, QA, QB, QC, QD, QE, QF, QG, QH, QI, QJ, QK, QL, QM, QN, QO, QP, QQ, QR, QS, QT, QU, QV, QW, QX, QY, QZ, Ja, Jb, Jc, Jd, Je, Jf, Jg, Jh, Ji, Jj, Jk, Jl, Jm, Jn, Jo, Jp, Jq, Jr, Js, Jt, Nat.reduceAdd])
    rw [r15]
    refine SClosed_sp (cK := runT (tab lf) (n + 39)) (L := L) (hT.mono E7) ?_
    try simp (disch := first | omega | with_unfolding_all exact id rfl | with_unfolding_all exact Nat.le_of_ble_eq_true rfl | (simp only [Jd, Je, Jr, Js, Jt, Nat.reduceAdd, allOne, oneCell, Bool.and_self, Jc]; first | done | omega)) only [↓Qa, ↓Qb, Qd, Qe, Qf, Qg, Qh, Qi, Qj, Qk, Ql, Qm, Qn, Qo, Qp, Qq, Qr, Qs, Qt, Qu, Qv, Qw, Qx, Qy, ptrTo, Qz, QA, QB, QC, QD, QE, QF, QG, QH, QI, QJ, QK, QL, QM, QN, QO, QP, QQ, QR, QS, QT, QU, QV, QW, QX, QY, QZ, Ja, Jb, Jc, Jd, Je, Jf, Jg, Jh, Ji, Jj, Jk, Jl, Jm, Jn, Jo, Jp, Jq, Jr, Js, Jt, Nat.reduceAdd]
    repeat (rw [join_e]; try simp (disch := first | omega | with_unfolding_all exact id rfl | with_unfolding_all exact Nat.le_of_ble_eq_true rfl | (simp only [Jd, Je, Jr, Js, Jt, Nat.reduceAdd, allOne, oneCell, Bool.and_self, Jc]; first | done | omega)) only [↓Qa, ↓Qb, Qd, Qe, Qf, Qg, Qh, Qi, Qj, Qk, Ql, Qm, Qn, Qo, Qp, Qq, Qr, Qs, Qt, Qu, Qv, Qw, Qx, Qy, ptrTo, Qz, QA, QB, QC, QD, QE, QF, QG, QH, QI, QJ, QK, QL, QM, QN, QO, QP, QQ, QR, QS, QT, QU, QV, QW, QX, QY, QZ, Ja, Jb, Jc, Jd, Je, Jf, Jg, Jh, Ji, Jj, Jk, Jl, Jm, Jn, Jo, Jp, Jq, Jr, Js, Jt, Nat.reduceAdd])
    exact hk _ E7
  · rw [if_pos (by omega)] at hw
    rw [hw] at q3 ⊢
    dsimp only
    rw [uc_e, t4, oOpt_e, join_e, oGT_t, oInt_eql, show decide ((0 : Int) = 0) = true from rfl]
    try simp (disch := first | omega | with_unfolding_all exact id rfl | with_unfolding_all exact Nat.le_of_ble_eq_true rfl | (simp only [Jd, Je, Jr, Js, Jt, Nat.reduceAdd, allOne, oneCell, Bool.and_self, Jc]; first | done | omega)) only [q3, ↓Qa, ↓Qb, Qd, Qe, Qf, Qg, Qh, Qi, Qj, Qk, Ql, Qm, Qn, Qo, Qp, Qq, Qr, Qs, Qt, Qu, Qv, Qw, Qx, Qy, ptrTo, Qz, QA, QB, QC, QD, QE, QF, QG, QH, QI, QJ, QK, QL, QM, QN, QO, QP, QQ, QR, QS, QT, QU, QV, QW, QX, QY, QZ, Ja, Jb, Jc, Jd, Je, Jf, Jg, Jh, Ji, Jj, Jk, Jl, Jm, Jn, Jo, Jp, Jq, Jr, Js, Jt, Nat.reduceAdd]
    repeat (rw [join_e]; try simp (disch := first | omega | with_unfolding_all exact id rfl | with_unfolding_all exact Nat.le_of_ble_eq_true rfl | (simp only [Jd, Je, Jr, Js, Jt, Nat.reduceAdd, allOne, oneCell, Bool.and_self, Jc]; first | done | omega)) only [q3, ↓Qa, ↓Qb, Qd, Qe, Qf, Qg, Qh, Qi, Qj, Qk, Ql, Qm, Qn, Qo, Qp, Qq, Qr, Qs, Qt, Qu, Qv, Qw, Qx, Qy, ptrTo, Qz, QA, QB, QC, QD, QE, QF, QG, QH, QI, QJ, QK, QL, QM, QN, QO, QP, QQ, QR, QS, QT, QU, QV, QW, QX, QY, QZ, Ja, Jb, Jc, Jd, Je, Jf, Jg, Jh, Ji, Jj, Jk, Jl, Jm, Jn, Jo, Jp, Jq, Jr, Js, Jt, Nat.reduceAdd])
    rw [r15]
    refine SClosed_sp (cK := runT (tab lf) (n + 39)) (L := L) (hT.mono E7) ?_
    try simp (disch := first | omega | with_unfolding_all exact id rfl | with_unfolding_all exact Nat.le_of_ble_eq_true rfl | (simp only [Jd, Je, Jr, Js, Jt, Nat.reduceAdd, allOne, oneCell, Bool.and_self, Jc]; first | done | omega)) only [↓Qa, ↓Qb, Qd, Qe, Qf, Qg, Qh, Qi, Qj, Qk, Ql, Qm, Qn, Qo, Qp, Qq, Qr, Qs, Qt, Qu, Qv, Qw, Qx, Qy, ptrTo, Qz, QA, QB, QC, QD, QE, QF, QG, QH, QI, QJ, QK, QL, QM, QN, QO, QP, QQ, QR, QS, QT, QU, QV, QW, QX, QY, QZ, Ja, Jb, Jc, Jd, Je, Jf, Jg, Jh, Ji, Jj, Jk, Jl, Jm, Jn, Jo, Jp, Jq, Jr, Js, Jt, Nat.reduceAdd]
    repeat (rw [join_e]; try simp (disch := first | omega | with_unfolding_all exact id rfl | with_unfolding_all exact Nat.le_of_ble_eq_true rfl | (simp only [Jd, Je, Jr, Js, Jt, Nat.reduceAdd, allOne, oneCell, Bool.and_self, Jc]; first | done | omega)) only [↓Qa, ↓Qb, Qd, Qe, Qf, Qg, Qh, Qi, Qj, Qk, Ql, Qm, Qn, Qo, Qp, Qq, Qr, Qs, Qt, Qu, Qv, Qw, Qx, Qy, ptrTo, Qz, QA, QB, QC, QD, QE, QF, QG, QH, QI, QJ, QK, QL, QM, QN, QO, QP, QQ, QR, QS, QT, QU, QV, QW, QX, QY, QZ, Ja, Jb, Jc, Jd, Je, Jf, Jg, Jh, Ji, Jj, Jk, Jl, Jm, Jn, Jo, Jp, Jq, Jr, Js, Jt, Nat.reduceAdd])
    exact hk _ E7
end
end Go.Vit
