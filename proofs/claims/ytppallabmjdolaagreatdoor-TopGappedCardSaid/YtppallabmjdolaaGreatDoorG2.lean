/- Walks: marks of a wrapper, its turns gone around. -/
import Derived.Test.YtppallabmjdolaaGreatDoorG1
set_option linter.unusedSimpArgs false
set_option linter.unusedVariables false
set_option maxRecDepth 20000
namespace Go.Vit
open Go Go.Proofs
attribute [local irreducible] runT loopS
def wrV (M S T : Nat) : Value := .agg ⟨[.int .i64 (M : Int), .int .i64 (S : Int), .int .i64 (T : Int)]⟩
def wrC (M S T : Nat) : List Value := [.int .i64 (M : Int), .int .i64 (S : Int), .int .i64 (T : Int)]
theorem oInt_mulN {a b : Nat} (h : a * b < 9223372036854775808) (k : Value → Option Unit) : oInt .mul .i64 (.int .i64 (a : Int)) (.int .i64 (b : Int)) k = k (.int .i64 ((a * b : Nat) : Int)) := by
  have h0 : (a : Int) * (b : Int) = ((a * b : Nat) : Int) := by simp
  rw [oInt_mul ⟨by rw [h0]; omega, by rw [h0]; omega⟩, h0]
theorem wr_veq (M S T : Nat) : veqL (wrC M S T) (wrC M S T) = true := by
  unfold wrC
  rw [veqL_cons, veq_int, veqL_cons, veq_int, veqL_cons, veq_int, veqL_nil]; rfl
theorem box_wr (m : Mem) (M S T : Nat) : abox m (wrV M S T) = some (ptrTo m.next, m.push ⟨1, wrC M S T, none⟩) := abox_e _ _
section
variable {lf n L : Nat} {m : Mem} {k : Value → Mem → Option Unit}
theorem mark_sp {M S T q : Nat} (hM : 0 < M) (hM6 : M ≤ 60) (hS : S < M) (hq : q < 1000) (hk : ∀ m', Gt m m' → k (.int .i64 ((q * S % M : Nat) : Int)) m' = some ()) :
    runT (tab lf) (n + 1) 136 [wrV M S T, .int .i64 (q : Int)] L m k = some () := by
  rw [r136]; dsimp only [S136, iofNat, inegSucc]
  rw [uc_e, uc_e, un0_e, box_wr, oRes_e]
  have e1 := Mem.gt_push m ⟨1, wrC M S T, none⟩
  have q1 := Mem.rd_push m ⟨1, wrC M S T, none⟩
  generalize m.push ⟨1, wrC M S T, none⟩ = m1 at e1 q1 ⊢
  have c0 : (wrC M S T)[0]? = some (.int .i64 (M : Int)) := rfl
  have c1 : (wrC M S T)[0 + 1]? = some (.int .i64 (S : Int)) := rfl
  have hqs : q * S < 1000 * 60 := Nat.mul_lt_mul_of_lt_of_le hq (by omega) (by omega)
  try simp (disch := first | omega | with_unfolding_all exact id rfl | with_unfolding_all exact Nat.le_of_ble_eq_true rfl | (simp only [Jd, Je, Jr, Js, Jt, Nat.reduceAdd, allOne, oneCell, Bool.and_self, Jc]; first | done | omega)) only [q1, c0, c1, ↓Qa, ↓Qb, Qd, Qe, Qf, Qg, Qh, Qi, Qj, Qk, Ql, Qm, Qn, Qo, Qp, Qq, Qr, Qs, Qt, Qu, Qv, Qw, Qx, Qy, ptrTo, Qz, QA, QB, QC, QD, QE, QF, QG, QH, QI, QJ, QK, QL, QM, QN, QO, QP, QQ, QR, QS, QT, QU, QV, QW, QX, QY, QZ, Ja, Jb, Jc, Jd, Je, Jf, Jg, Jh, Ji, Jj, Jk, Jl, Jm, Jn, Jo, Jp, Jq, Jr, Js, Jt, Nat.reduceAdd]
  rw [oInt_mulN (by omega)]
  try rw [q1]
  try simp (disch := first | omega | with_unfolding_all exact id rfl | with_unfolding_all exact Nat.le_of_ble_eq_true rfl | (simp only [Jd, Je, Jr, Js, Jt, Nat.reduceAdd, allOne, oneCell, Bool.and_self, Jc]; first | done | omega)) only [q1, c0, c1, ↓Qa, ↓Qb, Qd, Qe, Qf, Qg, Qh, Qi, Qj, Qk, Ql, Qm, Qn, Qo, Qp, Qq, Qr, Qs, Qt, Qu, Qv, Qw, Qx, Qy, ptrTo, Qz, QA, QB, QC, QD, QE, QF, QG, QH, QI, QJ, QK, QL, QM, QN, QO, QP, QQ, QR, QS, QT, QU, QV, QW, QX, QY, QZ, Ja, Jb, Jc, Jd, Je, Jf, Jg, Jh, Ji, Jj, Jk, Jl, Jm, Jn, Jo, Jp, Jq, Jr, Js, Jt, Nat.reduceAdd]
  rw [oInt_remN hM]
  exact hk m1 e1
theorem gcd_sp {a b : Nat} (hlf : 1000000 ≤ lf) (ha : a ≤ 100) (hb : b ≤ 100) (hk : k (.int .i64 ((Nat.gcd a b : Nat) : Int)) m = some ()) : runT (tab lf) (n + 1) 218 [.int .i64 (a : Int), .int .i64 (b : Int)] L m k = some () := by
  rw [r218]; dsimp only [S218, iofNat, inegSucc]
  rw [uc_e, uc_e, un0_e]
  refine loop_up b (fun i vs m' => ∃ x y : Nat, vs = [.int .i64 (x : Int), .int .i64 (y : Int)] ∧ m' = m ∧ Nat.gcd x y = Nat.gcd a b ∧ x ≤ 100 ∧ y ≤ 100 ∧ y + i ≤ b) (by omega) ⟨a, b, rfl, rfl, rfl, ha, hb, by omega⟩ ?_
  rintro i vs m' hi ⟨x, y, rfl, rfl, hg, hx, hy, hyb⟩ self hself
  rw [uc_e, uc_e, oInt_gtr]
  refine oIf_dec (fun h => ?_) (fun h => ?_)
  · have h0 : 0 < y := by omega
    rw [oInt_remN h0]
    have hlt := Nat.mod_lt x h0
    refine hself (by omega) _ _ ⟨y, x % y, rfl, rfl, ?_, hy, by omega, by omega⟩
    rw [← hg, Nat.gcd_comm x y, Nat.gcd_rec y x, Nat.gcd_comm]
  · have h0 : y = 0 := by omega
    subst h0
    rw [Nat.gcd_zero_right] at hg
    rw [← hg] at hk
    exact hk
theorem all_sp {M S T : Nat} (hlf : 1000000 ≤ lf) (hM : 0 < M) (hM6 : M ≤ 60) (hS : S < M) (hk : ∀ m', Gt m m' → k (.int .i64 ((M / Nat.gcd M S : Nat) : Int)) m' = some ()) :
    runT (tab lf) (n + 2) 200 [wrV M S T] L m k = some () := by
  rw [r200]; dsimp only [S200, iofNat, inegSucc]
  rw [uc_e, un0_e, box_wr, oRes_e]
  have e1 := Mem.gt_push m ⟨1, wrC M S T, none⟩
  have q1 := Mem.rd_push m ⟨1, wrC M S T, none⟩
  generalize m.push ⟨1, wrC M S T, none⟩ = m1 at e1 q1 ⊢
  have c0 : (wrC M S T)[0]? = some (.int .i64 (M : Int)) := rfl
  have c1 : (wrC M S T)[0 + 1]? = some (.int .i64 (S : Int)) := rfl
  try simp (disch := first | omega | with_unfolding_all exact id rfl | with_unfolding_all exact Nat.le_of_ble_eq_true rfl | (simp only [Jd, Je, Jr, Js, Jt, Nat.reduceAdd, allOne, oneCell, Bool.and_self, Jc]; first | done | omega)) only [q1, c0, c1, ↓Qa, ↓Qb, Qd, Qe, Qf, Qg, Qh, Qi, Qj, Qk, Ql, Qm, Qn, Qo, Qp, Qq, Qr, Qs, Qt, Qu, Qv, Qw, Qx, Qy, ptrTo, Qz, QA, QB, QC, QD, QE, QF, QG, QH, QI, QJ, QK, QL, QM, QN, QO, QP, QQ, QR, QS, QT, QU, QV, QW, QX, QY, QZ, Ja, Jb, Jc, Jd, Je, Jf, Jg, Jh, Ji, Jj, Jk, Jl, Jm, Jn, Jo, Jp, Jq, Jr, Js, Jt, Nat.reduceAdd]
  refine gcd_sp hlf (by omega) (by omega) ?_
  have hg : 0 < Nat.gcd M S := Nat.gcd_pos_of_pos_left _ hM
  have hbe : ∀ b, bEq b b = true → True := fun _ _ => trivial
  try simp (disch := first | omega | with_unfolding_all exact id rfl | with_unfolding_all exact Nat.le_of_ble_eq_true rfl | (simp only [Jd, Je, Jr, Js, Jt, Nat.reduceAdd, allOne, oneCell, Bool.and_self, Jc]; first | done | omega)) only [q1, c0, c1, ↓Qa, ↓Qb, Qd, Qe, Qf, Qg, Qh, Qi, Qj, Qk, Ql, Qm, Qn, Qo, Qp, Qq, Qr, Qs, Qt, Qu, Qv, Qw, Qx, Qy, ptrTo, Qz, QA, QB, QC, QD, QE, QF, QG, QH, QI, QJ, QK, QL, QM, QN, QO, QP, QQ, QR, QS, QT, QU, QV, QW, QX, QY, QZ, Ja, Jb, Jc, Jd, Je, Jf, Jg, Jh, Ji, Jj, Jk, Jl, Jm, Jn, Jo, Jp, Jq, Jr, Js, Jt, Nat.reduceAdd]
  rw [show oInt .quo .i64 (.int .i64 (M : Int)) (.int .i64 ((Nat.gcd M S : Nat) : Int)) = fun K => K (.int .i64 ((M / Nat.gcd M S : Nat) : Int)) from funext fun K => by
    have hq : (M : Int) / ((Nat.gcd M S : Nat) : Int) = ((M / Nat.gcd M S : Nat) : Int) := by simp
    rw [oInt_quo (by omega) (by omega) (by omega), hq]]
  rw [wr_veq, oIf_t]
  exact hk m1 e1
theorem round_sp {M S : Nat} (hM : 0 < M) (hM6 : M ≤ 60) (hS : S < M) (hk : k (.bool true) m = some ()) : runT (tab lf) (n + 1) 199 [.int .i64 (M : Int), .int .i64 (S : Int)] L m k = some () := by
  rw [r199]; dsimp only [S199, iofNat, inegSucc]
  have f1 : decide ((M : Int) ≥ 1) = true := decide_eq_true (by omega)
  have f2 : decide ((M : Int) ≤ 100) = true := decide_eq_true (by omega)
  have f3 : decide ((S : Int) ≥ 0) = true := decide_eq_true (by omega)
  have f4 : decide ((S : Int) < (M : Int)) = true := decide_eq_true (by omega)
  try simp (disch := first | omega | with_unfolding_all exact id rfl | with_unfolding_all exact Nat.le_of_ble_eq_true rfl | (simp only [Jd, Je, Jr, Js, Jt, Nat.reduceAdd, allOne, oneCell, Bool.and_self, Jc]; first | done | omega)) only [f1, f2, f3, f4, ↓Qa, ↓Qb, Qd, Qe, Qf, Qg, Qh, Qi, Qj, Qk, Ql, Qm, Qn, Qo, Qp, Qq, Qr, Qs, Qt, Qu, Qv, Qw, Qx, Qy, ptrTo, Qz, QA, QB, QC, QD, QE, QF, QG, QH, QI, QJ, QK, QL, QM, QN, QO, QP, QQ, QR, QS, QT, QU, QV, QW, QX, QY, QZ, Ja, Jb, Jc, Jd, Je, Jf, Jg, Jh, Ji, Jj, Jk, Jl, Jm, Jn, Jo, Jp, Jq, Jr, Js, Jt, Nat.reduceAdd]
  repeat (rw [join_e]; try simp (disch := first | omega | with_unfolding_all exact id rfl | with_unfolding_all exact Nat.le_of_ble_eq_true rfl | (simp only [Jd, Je, Jr, Js, Jt, Nat.reduceAdd, allOne, oneCell, Bool.and_self, Jc]; first | done | omega)) only [f1, f2, f3, f4, ↓Qa, ↓Qb, Qd, Qe, Qf, Qg, Qh, Qi, Qj, Qk, Ql, Qm, Qn, Qo, Qp, Qq, Qr, Qs, Qt, Qu, Qv, Qw, Qx, Qy, ptrTo, Qz, QA, QB, QC, QD, QE, QF, QG, QH, QI, QJ, QK, QL, QM, QN, QO, QP, QQ, QR, QS, QT, QU, QV, QW, QX, QY, QZ, Ja, Jb, Jc, Jd, Je, Jf, Jg, Jh, Ji, Jj, Jk, Jl, Jm, Jn, Jo, Jp, Jq, Jr, Js, Jt, Nat.reduceAdd])
  exact hk
theorem wcheck_sp {M S T : Nat} (hlf : 1000000 ≤ lf) (hM : 0 < M) (hM6 : M ≤ 60) (hS : S < M) (h1 : 1 ≤ T) (hT : T ≤ M / Nat.gcd M S) (hk : ∀ m', Gt m m' → k (.int .i64 0) m' = some ()) :
    runT (tab lf) (n + 3) 173 [wrV M S T] L m k = some () := by
  rw [r173]; dsimp only [S173, iofNat, inegSucc]
  rw [uc_e, un0_e, box_wr, oRes_e]
  have e1 := Mem.gt_push m ⟨1, wrC M S T, none⟩
  have q1 := Mem.rd_push m ⟨1, wrC M S T, none⟩
  have n1 : (m.push ⟨1, wrC M S T, none⟩).next = m.next + 1 := Mem.push_next _ _
  generalize m.push ⟨1, wrC M S T, none⟩ = m1 at e1 q1 n1 ⊢
  have c0 : (wrC M S T)[0]? = some (.int .i64 (M : Int)) := rfl
  have c1 : (wrC M S T)[0 + 1]? = some (.int .i64 (S : Int)) := rfl
  have c2 : (wrC M S T)[0 + 2]? = some (.int .i64 (T : Int)) := rfl
  have hr : rdn (some ⟨1, wrC M S T, none⟩) 0 3 = some (wrV M S T) := by kernel_rfl
  try simp (disch := first | omega | with_unfolding_all exact id rfl | with_unfolding_all exact Nat.le_of_ble_eq_true rfl | (simp only [Jd, Je, Jr, Js, Jt, Nat.reduceAdd, allOne, oneCell, Bool.and_self, Jc]; first | done | omega)) only [q1, c0, c1, ↓Qa, ↓Qb, Qd, Qe, Qf, Qg, Qh, Qi, Qj, Qk, Ql, Qm, Qn, Qo, Qp, Qq, Qr, Qs, Qt, Qu, Qv, Qw, Qx, Qy, ptrTo, Qz, QA, QB, QC, QD, QE, QF, QG, QH, QI, QJ, QK, QL, QM, QN, QO, QP, QQ, QR, QS, QT, QU, QV, QW, QX, QY, QZ, Ja, Jb, Jc, Jd, Je, Jf, Jg, Jh, Ji, Jj, Jk, Jl, Jm, Jn, Jo, Jp, Jq, Jr, Js, Jt, Nat.reduceAdd]
  refine round_sp hM hM6 hS ?_
  have f1 : decide ((T : Int) < 1) = false := decide_eq_false (by omega)
  try simp (disch := first | omega | with_unfolding_all exact id rfl | with_unfolding_all exact Nat.le_of_ble_eq_true rfl | (simp only [Jd, Je, Jr, Js, Jt, Nat.reduceAdd, allOne, oneCell, Bool.and_self, Jc]; first | done | omega)) only [q1, c0, c1, c2, f1, ↓Qa, ↓Qb, Qd, Qe, Qf, Qg, Qh, Qi, Qj, Qk, Ql, Qm, Qn, Qo, Qp, Qq, Qr, Qs, Qt, Qu, Qv, Qw, Qx, Qy, ptrTo, Qz, QA, QB, QC, QD, QE, QF, QG, QH, QI, QJ, QK, QL, QM, QN, QO, QP, QQ, QR, QS, QT, QU, QV, QW, QX, QY, QZ, Ja, Jb, Jc, Jd, Je, Jf, Jg, Jh, Ji, Jj, Jk, Jl, Jm, Jn, Jo, Jp, Jq, Jr, Js, Jt, Nat.reduceAdd]
  repeat (rw [join_e]; try simp (disch := first | omega | with_unfolding_all exact id rfl | with_unfolding_all exact Nat.le_of_ble_eq_true rfl | (simp only [Jd, Je, Jr, Js, Jt, Nat.reduceAdd, allOne, oneCell, Bool.and_self, Jc]; first | done | omega)) only [q1, c0, c1, c2, f1, hr, ↓Qa, ↓Qb, Qd, Qe, Qf, Qg, Qh, Qi, Qj, Qk, Ql, Qm, Qn, Qo, Qp, Qq, Qr, Qs, Qt, Qu, Qv, Qw, Qx, Qy, ptrTo, Qz, QA, QB, QC, QD, QE, QF, QG, QH, QI, QJ, QK, QL, QM, QN, QO, QP, QQ, QR, QS, QT, QU, QV, QW, QX, QY, QZ, Ja, Jb, Jc, Jd, Je, Jf, Jg, Jh, Ji, Jj, Jk, Jl, Jm, Jn, Jo, Jp, Jq, Jr, Js, Jt, Nat.reduceAdd])
  refine all_sp hlf hM hM6 hS fun m2 e2 => ?_
  have q2 := (e2.kept m.next (by omega)).trans q1
  have f2 : decide ((T : Int) > ((M / Nat.gcd M S : Nat) : Int)) = false := decide_eq_false (by omega)
  try simp (disch := first | omega | with_unfolding_all exact id rfl | with_unfolding_all exact Nat.le_of_ble_eq_true rfl | (simp only [Jd, Je, Jr, Js, Jt, Nat.reduceAdd, allOne, oneCell, Bool.and_self, Jc]; first | done | omega)) only [q1, q2, c2, f2, ↓Qa, ↓Qb, Qd, Qe, Qf, Qg, Qh, Qi, Qj, Qk, Ql, Qm, Qn, Qo, Qp, Qq, Qr, Qs, Qt, Qu, Qv, Qw, Qx, Qy, ptrTo, Qz, QA, QB, QC, QD, QE, QF, QG, QH, QI, QJ, QK, QL, QM, QN, QO, QP, QQ, QR, QS, QT, QU, QV, QW, QX, QY, QZ, Ja, Jb, Jc, Jd, Je, Jf, Jg, Jh, Ji, Jj, Jk, Jl, Jm, Jn, Jo, Jp, Jq, Jr, Js, Jt, Nat.reduceAdd]
  rw [wr_veq, oIf_t]
  exact hk m2 (e1.trans e2)
end
end Go.Vit
