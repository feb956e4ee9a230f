/- All inputs of the law TopSpread. -/
import Derived.Test.YtppallabmjdolaaDoorTopSpreadRun0
import Derived.Test.YtppallabmjdolaaDoorTopSpreadRun1
import Derived.Test.YtppallabmjdolaaDoorTopSpreadRun2
import Derived.Test.YtppallabmjdolaaDoorTopSpreadRun3
import Derived.Test.YtppallabmjdolaaDoorCoreD
set_option linter.unusedSimpArgs false
set_option linter.unusedVariables false
set_option maxRecDepth 20000
namespace Go.Proofs.YtppallabmjdolaaDoor.TopSpread
open Go Go.Vit Go.Proofs
theorem rw3 {lf n : Nat} : Vit.runT (tabR (β := Unit) lf) (n + 1) 3 = S3 lf (Vit.runT (tabR lf) n) := by kernel_rfl
theorem rw6 {lf n : Nat} : Vit.runT (tabR (β := Unit) lf) (n + 1) 6 = S6 lf (Vit.runT (tabR lf) n) := by kernel_rfl
theorem bu23 (N : Int) : bu Tryd.prog 23 [(0, .int .i64 N)] = some (.agg ⟨[.int .i64 N, .int .i64 0, .int .i64 0]⟩) := by kernel_rfl
/-- How many turns go around. -/
def ordN (M S : Nat) : Nat := ((List.range M).find? fun j => decide (((j + 1) * S) % M = 0)).getD 0 + 1
theorem ordN_e {M S : Nat} (hM : 0 < M) : ∃ j, j < M ∧ ordN M S = j + 1 ∧ ((j + 1) * S) % M = 0 ∧ ∀ i, i < j → ((i + 1) * S) % M ≠ 0 := by
  unfold ordN
  cases h : (List.range M).find? fun j => decide (((j + 1) * S) % M = 0) with
  | none =>
    rw [List.find?_eq_none] at h
    have := h (M - 1) (List.mem_range.2 (by omega))
    rw [show M - 1 + 1 = M by omega, Nat.mul_mod_right] at this
    simp at this
  | some j =>
    have h1 := List.find?_some h
    have h2 := List.mem_range.1 (List.mem_of_find?_eq_some h)
    rw [decide_eq_true_eq] at h1
    refine ⟨j, h2, rfl, h1, fun i hi => ?_⟩
    rw [List.find?_eq_some_iff_getElem] at h
    obtain ⟨_, q, hq, he, hj⟩ := h
    rw [List.getElem_range] at he
    subst he
    have := hj i hi
    rw [List.getElem_range] at this
    simpa using this
def mW (m : Mem) (M S T : Nat) : Mem :=
  (((((m.push ⟨1, [.int .i64 0, .int .i64 0, .int .i64 0], none⟩).push ⟨1, [.int .i64 0, .int .i64 0, .int .i64 0], none⟩).put (m.next + 1) (some ⟨1, [.int .i64 (M : Int), .int .i64 0, .int .i64 0], none⟩)).put (m.next + 1) (some ⟨1, [.int .i64 (M : Int), .int .i64 (S : Int), .int .i64 0], none⟩)).put (m.next + 1) (some ⟨1, [.int .i64 (M : Int), .int .i64 (S : Int), .int .i64 (T : Int)], none⟩)).put m.next (some ⟨1, [.int .i64 (M : Int), .int .i64 (S : Int), .int .i64 (T : Int)], none⟩)
section
attribute [local irreducible] Vit.runT loopS
theorem wound_eq {a s t lf n L : Nat} {m : Mem} {k : Value → Mem → Option Unit} (hlf : 1000000 ≤ lf) (hL : L ≤ m.next) (ha : a < 256) (hs : s < 256) (ht : t < 256) :
    Vit.runT (tabR lf) (n + 1) 6 [.int .u8 (a : Int), .int .u8 (s : Int), .int .u8 (t : Int), .int .i64 (.ofNat 8)] L m k
      = k (.agg ⟨[.int .i64 ((1 + a % 8 : Nat) : Int), .int .i64 ((s % (1 + a % 8) : Nat) : Int), .int .i64 ((1 + t % ordN (1 + a % 8) (s % (1 + a % 8)) : Nat) : Int)]⟩) (mW m (1 + a % 8) (s % (1 + a % 8)) (1 + t % ordN (1 + a % 8) (s % (1 + a % 8)))) := by
  rw [rw6]; dsimp only [S6, iofNat, inegSucc]
  have h8 := Nat.mod_lt a (show 0 < 8 by omega)
  have hn1 := Mem.push_next m ⟨1, [.int .i64 0, .int .i64 0, .int .i64 0], none⟩
  have hn2 := Mem.push_next (m.push ⟨1, [.int .i64 0, .int .i64 0, .int .i64 0], none⟩) ⟨1, [.int .i64 0, .int .i64 0, .int .i64 0], none⟩
  rw [uc_e, uc_e, uc_e, uc_e, un0_e, anew_eq, oRes_e, oCv_nat (by omega), show (8 : Int) = ((8 : Nat) : Int) from rfl, oInt_remN (by omega), oInt_add ⟨by omega, by omega⟩, show (1 : Int) + ((a % 8 : Nat) : Int) = ((1 + a % 8 : Nat) : Int) by omega, bu23, oOpt_e, anew_eq, oRes_e]
  generalize hM : 1 + a % 8 = M at *
  have hM1 : 0 < M := by omega
  have hM8 : M ≤ 8 := by omega
  unfold mW
  have q0 : (m.push ⟨1, [.int .i64 0, .int .i64 0, .int .i64 0], none⟩).rd m.next = some ⟨1, [.int .i64 0, .int .i64 0, .int .i64 0], none⟩ := Mem.rd_push _ _
  generalize hm1 : m.push ⟨1, [.int .i64 0, .int .i64 0, .int .i64 0], none⟩ = m1 at *
  have q1 : (m1.push ⟨1, [.int .i64 0, .int .i64 0, .int .i64 0], none⟩).rd m1.next = some ⟨1, [.int .i64 0, .int .i64 0, .int .i64 0], none⟩ := Mem.rd_push _ _
  have q01 : (m1.push ⟨1, [.int .i64 0, .int .i64 0, .int .i64 0], none⟩).rd m.next = some ⟨1, [.int .i64 0, .int .i64 0, .int .i64 0], none⟩ := (Mem.rd_push_lt _ _ (by omega)).trans q0
  generalize hm2 : m1.push ⟨1, [.int .i64 0, .int .i64 0, .int .i64 0], none⟩ = m2 at *
  have hs2 := Nat.mod_lt s hM1
  rw [hn1]
  rw [hn1] at q1 hn2
  try simp (disch := first | omega | with_unfolding_all exact id rfl | with_unfolding_all exact Nat.le_of_ble_eq_true rfl | (simp only [Jd, Je, Jr, Js, Jt, Nat.reduceAdd, allOne, oneCell, Bool.and_self, Jc]; first | done | omega)) only [q1, ↓Qa, ↓Qb, ↓Qc, Qd, Qe, Qf, Qg, Qh, Qi, Qj, Qk, Ql, Qm, Qn, Qo, Qp, Qq, Qr, Qs, Qt, Qu, Qv, Qw, Qx, Qy, ptrTo, Qz, QA, QB, QC, QD, QE, QF, QG, QH, QI, QJ, QK, QL, QM, QN, QO, QP, QQ, QR, QS, QT, QU, QV, QW, QX, QY, QZ, Ja, Jb, Jc, Jd, Je, Jf, Jg, Jh, Ji, Jj, Jk, Jl, Jm, Jn, Jo, Jp, Jq, Jr, Js, Jt, Nat.reduceAdd]
  rw [oCv_nat (by omega)]
  have q2 : (m2.put (m.next + 1) (some ⟨1, [.int .i64 (M : Int), .int .i64 0, .int .i64 0], none⟩)).rd (m.next + 1) = some ⟨1, [.int .i64 (M : Int), .int .i64 0, .int .i64 0], none⟩ := Mem.rd_put_eq _ _ (by omega)
  have q02 : (m2.put (m.next + 1) (some ⟨1, [.int .i64 (M : Int), .int .i64 0, .int .i64 0], none⟩)).rd m.next = some ⟨1, [.int .i64 0, .int .i64 0, .int .i64 0], none⟩ := (Mem.rd_put _ _ _ _ (by omega)).trans q01
  have n2 : (m2.put (m.next + 1) (some ⟨1, [.int .i64 (M : Int), .int .i64 0, .int .i64 0], none⟩)).next = m2.next := rfl
  generalize m2.put (m.next + 1) (some ⟨1, [.int .i64 (M : Int), .int .i64 0, .int .i64 0], none⟩) = m3 at *
  try simp (disch := first | omega | with_unfolding_all exact id rfl | with_unfolding_all exact Nat.le_of_ble_eq_true rfl | (simp only [Jd, Je, Jr, Js, Jt, Nat.reduceAdd, allOne, oneCell, Bool.and_self, Jc]; first | done | omega)) only [q2, ↓Qa, ↓Qb, ↓Qc, Qd, Qe, Qf, Qg, Qh, Qi, Qj, Qk, Ql, Qm, Qn, Qo, Qp, Qq, Qr, Qs, Qt, Qu, Qv, Qw, Qx, Qy, ptrTo, Qz, QA, QB, QC, QD, QE, QF, QG, QH, QI, QJ, QK, QL, QM, QN, QO, QP, QQ, QR, QS, QT, QU, QV, QW, QX, QY, QZ, Ja, Jb, Jc, Jd, Je, Jf, Jg, Jh, Ji, Jj, Jk, Jl, Jm, Jn, Jo, Jp, Jq, Jr, Js, Jt, Nat.reduceAdd]
  rw [oInt_remN hM1]
  generalize s % M = S at *
  try simp (disch := first | omega | with_unfolding_all exact id rfl | with_unfolding_all exact Nat.le_of_ble_eq_true rfl | (simp only [Jd, Je, Jr, Js, Jt, Nat.reduceAdd, allOne, oneCell, Bool.and_self, Jc]; first | done | omega)) only [q2, ↓Qa, ↓Qb, ↓Qc, Qd, Qe, Qf, Qg, Qh, Qi, Qj, Qk, Ql, Qm, Qn, Qo, Qp, Qq, Qr, Qs, Qt, Qu, Qv, Qw, Qx, Qy, ptrTo, Qz, QA, QB, QC, QD, QE, QF, QG, QH, QI, QJ, QK, QL, QM, QN, QO, QP, QQ, QR, QS, QT, QU, QV, QW, QX, QY, QZ, Ja, Jb, Jc, Jd, Je, Jf, Jg, Jh, Ji, Jj, Jk, Jl, Jm, Jn, Jo, Jp, Jq, Jr, Js, Jt, Nat.reduceAdd]
  have q3 : (m3.put (m.next + 1) (some ⟨1, [.int .i64 (M : Int), .int .i64 (S : Int), .int .i64 0], none⟩)).rd (m.next + 1) = some ⟨1, [.int .i64 (M : Int), .int .i64 (S : Int), .int .i64 0], none⟩ := Mem.rd_put_eq _ _ (by omega)
  have q03 : (m3.put (m.next + 1) (some ⟨1, [.int .i64 (M : Int), .int .i64 (S : Int), .int .i64 0], none⟩)).rd m.next = some ⟨1, [.int .i64 0, .int .i64 0, .int .i64 0], none⟩ := (Mem.rd_put _ _ _ _ (by omega)).trans q02
  have n3 : (m3.put (m.next + 1) (some ⟨1, [.int .i64 (M : Int), .int .i64 (S : Int), .int .i64 0], none⟩)).next = m3.next := rfl
  generalize m3.put (m.next + 1) (some ⟨1, [.int .i64 (M : Int), .int .i64 (S : Int), .int .i64 0], none⟩) = m4 at *
  try simp (disch := first | omega | with_unfolding_all exact id rfl | with_unfolding_all exact Nat.le_of_ble_eq_true rfl | (simp only [Jd, Je, Jr, Js, Jt, Nat.reduceAdd, allOne, oneCell, Bool.and_self, Jc]; first | done | omega)) only [q3, ↓Qa, ↓Qb, ↓Qc, Qd, Qe, Qf, Qg, Qh, Qi, Qj, Qk, Ql, Qm, Qn, Qo, Qp, Qq, Qr, Qs, Qt, Qu, Qv, Qw, Qx, Qy, ptrTo, Qz, QA, QB, QC, QD, QE, QF, QG, QH, QI, QJ, QK, QL, QM, QN, QO, QP, QQ, QR, QS, QT, QU, QV, QW, QX, QY, QZ, Ja, Jb, Jc, Jd, Je, Jf, Jg, Jh, Ji, Jj, Jk, Jl, Jm, Jn, Jo, Jp, Jq, Jr, Js, Jt, Nat.reduceAdd]
  obtain ⟨A, hA, hAe, hA0, hAn⟩ := ordN_e (M := M) (S := S) hM1
  rw [hAe]
  have hmul : ∀ j, j ≤ 8 → (j + 1) * S ≤ 72 := fun j hj => by
    have : (j + 1) * S ≤ 9 * 8 := Nat.mul_le_mul (by omega) (by omega)
    omega
  refine loop_up A (fun j vs m' => vs = [.int .i64 ((j + 1 : Nat) : Int), .int .i64 ((((j + 1) * S) % M : Nat) : Int)] ∧ m' = m4) (by omega) ⟨by rw [show ((0 + 1) * S) % M = S by rw [Nat.zero_add, Nat.one_mul, Nat.mod_eq_of_lt hs2]]; rfl, rfl⟩ ?_
  rintro j vs m' hj ⟨rfl, rfl⟩ self hself
  have hml := Nat.mod_lt ((j + 1) * S) hM1
  try simp (disch := first | omega | with_unfolding_all exact id rfl | with_unfolding_all exact Nat.le_of_ble_eq_true rfl | (simp only [Jd, Je, Jr, Js, Jt, Nat.reduceAdd, allOne, oneCell, Bool.and_self, Jc]; first | done | omega)) only [↓Qa, ↓Qb, ↓Qc, Qd, Qe, Qf, Qg, Qh, Qi, Qj, Qk, Ql, Qm, Qn, Qo, Qp, Qq, Qr, Qs, Qt, Qu, Qv, Qw, Qx, Qy, ptrTo, Qz, QA, QB, QC, QD, QE, QF, QG, QH, QI, QJ, QK, QL, QM, QN, QO, QP, QQ, QR, QS, QT, QU, QV, QW, QX, QY, QZ, Ja, Jb, Jc, Jd, Je, Jf, Jg, Jh, Ji, Jj, Jk, Jl, Jm, Jn, Jo, Jp, Jq, Jr, Js, Jt, Nat.reduceAdd]
  rcases Nat.lt_or_eq_of_le hj with hlt | heq
  · have hne := hAn j hlt
    rw [decide_eq_false (show ¬ ((((j + 1) * S) % M : Nat) : Int) = 0 by omega)]
    try simp (disch := first | omega | with_unfolding_all exact id rfl | with_unfolding_all exact Nat.le_of_ble_eq_true rfl | (simp only [Jd, Je, Jr, Js, Jt, Nat.reduceAdd, allOne, oneCell, Bool.and_self, Jc]; first | done | omega)) only [q3, ↓Qa, ↓Qb, ↓Qc, Qd, Qe, Qf, Qg, Qh, Qi, Qj, Qk, Ql, Qm, Qn, Qo, Qp, Qq, Qr, Qs, Qt, Qu, Qv, Qw, Qx, Qy, ptrTo, Qz, QA, QB, QC, QD, QE, QF, QG, QH, QI, QJ, QK, QL, QM, QN, QO, QP, QQ, QR, QS, QT, QU, QV, QW, QX, QY, QZ, Ja, Jb, Jc, Jd, Je, Jf, Jg, Jh, Ji, Jj, Jk, Jl, Jm, Jn, Jo, Jp, Jq, Jr, Js, Jt, Nat.reduceAdd]
    rw [oInt_add ⟨by omega, by omega⟩, oInt_addN (by omega), oInt_remN hM1, Nat.mod_add_mod]
    refine hself hlt _ _ ⟨?_, rfl⟩
    rw [show (j + 1) * S + S = (j + 1 + 1) * S from (Nat.succ_mul (j + 1) S).symm, show ((j + 1 : Nat) : Int) + 1 = ((j + 1 + 1 : Nat) : Int) by omega]
  · subst heq
    rw [hA0]
    rw [decide_eq_true (show (((0 : Nat) : Int)) = 0 from rfl)]
    try simp (disch := first | omega | with_unfolding_all exact id rfl | with_unfolding_all exact Nat.le_of_ble_eq_true rfl | (simp only [Jd, Je, Jr, Js, Jt, Nat.reduceAdd, allOne, oneCell, Bool.and_self, Jc]; first | done | omega)) only [↓Qa, ↓Qb, ↓Qc, Qd, Qe, Qf, Qg, Qh, Qi, Qj, Qk, Ql, Qm, Qn, Qo, Qp, Qq, Qr, Qs, Qt, Qu, Qv, Qw, Qx, Qy, ptrTo, Qz, QA, QB, QC, QD, QE, QF, QG, QH, QI, QJ, QK, QL, QM, QN, QO, QP, QQ, QR, QS, QT, QU, QV, QW, QX, QY, QZ, Ja, Jb, Jc, Jd, Je, Jf, Jg, Jh, Ji, Jj, Jk, Jl, Jm, Jn, Jo, Jp, Jq, Jr, Js, Jt, Nat.reduceAdd]
    rw [oCv_nat (by omega), oInt_remN (by omega)]
    have hT := Nat.mod_lt t (show 0 < j + 1 by omega)
    rw [oInt_add ⟨by omega, by omega⟩, show (1 : Int) + ((t % (j + 1) : Nat) : Int) = ((1 + t % (j + 1) : Nat) : Int) by omega]
    generalize 1 + t % (j + 1) = T
    try simp (disch := first | omega | with_unfolding_all exact id rfl | with_unfolding_all exact Nat.le_of_ble_eq_true rfl | (simp only [Jd, Je, Jr, Js, Jt, Nat.reduceAdd, allOne, oneCell, Bool.and_self, Jc]; first | done | omega)) only [q3, ↓Qa, ↓Qb, ↓Qc, Qd, Qe, Qf, Qg, Qh, Qi, Qj, Qk, Ql, Qm, Qn, Qo, Qp, Qq, Qr, Qs, Qt, Qu, Qv, Qw, Qx, Qy, ptrTo, Qz, QA, QB, QC, QD, QE, QF, QG, QH, QI, QJ, QK, QL, QM, QN, QO, QP, QQ, QR, QS, QT, QU, QV, QW, QX, QY, QZ, Ja, Jb, Jc, Jd, Je, Jf, Jg, Jh, Ji, Jj, Jk, Jl, Jm, Jn, Jo, Jp, Jq, Jr, Js, Jt, Nat.reduceAdd]
    have q4 : (m'.put (m.next + 1) (some ⟨1, [.int .i64 (M : Int), .int .i64 (S : Int), .int .i64 (T : Int)], none⟩)).rd (m.next + 1) = some ⟨1, [.int .i64 (M : Int), .int .i64 (S : Int), .int .i64 (T : Int)], none⟩ := Mem.rd_put_eq _ _ (by omega)
    have q04 : (m'.put (m.next + 1) (some ⟨1, [.int .i64 (M : Int), .int .i64 (S : Int), .int .i64 (T : Int)], none⟩)).rd m.next = some ⟨1, [.int .i64 0, .int .i64 0, .int .i64 0], none⟩ := (Mem.rd_put _ _ _ _ (by omega)).trans q03
    have n4 : (m'.put (m.next + 1) (some ⟨1, [.int .i64 (M : Int), .int .i64 (S : Int), .int .i64 (T : Int)], none⟩)).next = m'.next := rfl
    generalize m'.put (m.next + 1) (some ⟨1, [.int .i64 (M : Int), .int .i64 (S : Int), .int .i64 (T : Int)], none⟩) = m5 at *
    try simp (disch := first | omega | with_unfolding_all exact id rfl | with_unfolding_all exact Nat.le_of_ble_eq_true rfl | (simp only [Jd, Je, Jr, Js, Jt, Nat.reduceAdd, allOne, oneCell, Bool.and_self, Jc]; first | done | omega)) only [q4, q04, q03, ↓Qa, ↓Qb, ↓Qc, Qd, Qe, Qf, Qg, Qh, Qi, Qj, Qk, Ql, Qm, Qn, Qo, Qp, Qq, Qr, Qs, Qt, Qu, Qv, Qw, Qx, Qy, ptrTo, Qz, QA, QB, QC, QD, QE, QF, QG, QH, QI, QJ, QK, QL, QM, QN, QO, QP, QQ, QR, QS, QT, QU, QV, QW, QX, QY, QZ, Ja, Jb, Jc, Jd, Je, Jf, Jg, Jh, Ji, Jj, Jk, Jl, Jm, Jn, Jo, Jp, Jq, Jr, Js, Jt, Nat.reduceAdd]
theorem same_run {a s t lf n : Nat} {k : Value → Mem → Option Unit} (hlf : 1000000 ≤ lf) (ha : a < 256) (hs : s < 256) (ht : t < 256) :
    Vit.runT (tabR lf) (n + 2) 3 [.int .u8 (a : Int), .int .u8 (s : Int), .int .u8 (t : Int)] mTab.next mTab k = Vit.runT (tabR lf) (n + 2) 3 [.int .u8 ((a % 8 : Nat) : Int), .int .u8 ((s % (1 + a % 8) : Nat) : Int), .int .u8 ((t % ordN (1 + a % 8) (s % (1 + a % 8)) : Nat) : Int)] mTab.next mTab k := by
  have h8 := Nat.mod_lt a (show 0 < 8 by omega)
  have hs2 := Nat.mod_lt s (show 0 < 1 + a % 8 by omega)
  obtain ⟨A, hA, hAe, _, _⟩ := ordN_e (M := 1 + a % 8) (S := s % (1 + a % 8)) (by omega)
  have ht2 := Nat.mod_lt t (show 0 < ordN (1 + a % 8) (s % (1 + a % 8)) by omega)
  rw [rw3]
  refine (wound_eq hlf (Nat.le_refl _) ha hs ht).trans (Eq.trans ?_ (wound_eq (a := a % 8) (s := s % (1 + a % 8)) (t := t % ordN (1 + a % 8) (s % (1 + a % 8))) hlf (Nat.le_refl _) (by omega) (by omega) (by omega)).symm)
  rw [Nat.mod_mod, Nat.mod_mod, Nat.mod_mod]
end
def Runs (a s t : Nat) : Prop := Vit.runT (tabR 1000000) 200 3 [.int .u8 (.ofNat a), .int .u8 (.ofNat s), .int .u8 (.ofNat t)] mTab.next mTab isTrue = some ()
theorem of_all {a s n : Nat} (h : ((List.range n).all fun t => okU (Vit.runT (tabR 1000000) 200 3 [.int .u8 (.ofNat a), .int .u8 (.ofNat s), .int .u8 (.ofNat t)] mTab.next mTab isTrue)) = true) (hn : ordN (1 + a) s = n) {t : Nat} (ht : t < ordN (1 + a) s) : Runs a s t :=
  okU_e (List.all_eq_true.1 h t (List.mem_range.2 (by omega)))
theorem case0 : ∀ s : Nat, s < 1 → ∀ t : Nat, t < ordN (1 + 0) s → Runs 0 s t
  | 0, _, _, ht => of_all r0_0 (by decide) ht
  | s + 1, h, _, _ => absurd h (by omega)
theorem case1 : ∀ s : Nat, s < 2 → ∀ t : Nat, t < ordN (1 + 1) s → Runs 1 s t
  | 0, _, _, ht => of_all r1_0 (by decide) ht
  | 1, _, _, ht => of_all r1_1 (by decide) ht
  | s + 2, h, _, _ => absurd h (by omega)
theorem case2 : ∀ s : Nat, s < 3 → ∀ t : Nat, t < ordN (1 + 2) s → Runs 2 s t
  | 0, _, _, ht => of_all r2_0 (by decide) ht
  | 1, _, _, ht => of_all r2_1 (by decide) ht
  | 2, _, _, ht => of_all r2_2 (by decide) ht
  | s + 3, h, _, _ => absurd h (by omega)
theorem case3 : ∀ s : Nat, s < 4 → ∀ t : Nat, t < ordN (1 + 3) s → Runs 3 s t
  | 0, _, _, ht => of_all r3_0 (by decide) ht
  | 1, _, _, ht => of_all r3_1 (by decide) ht
  | 2, _, _, ht => of_all r3_2 (by decide) ht
  | 3, _, _, ht => of_all r3_3 (by decide) ht
  | s + 4, h, _, _ => absurd h (by omega)
theorem case4 : ∀ s : Nat, s < 5 → ∀ t : Nat, t < ordN (1 + 4) s → Runs 4 s t
  | 0, _, _, ht => of_all r4_0 (by decide) ht
  | 1, _, _, ht => of_all r4_1 (by decide) ht
  | 2, _, _, ht => of_all r4_2 (by decide) ht
  | 3, _, _, ht => of_all r4_3 (by decide) ht
  | 4, _, _, ht => of_all r4_4 (by decide) ht
  | s + 5, h, _, _ => absurd h (by omega)
theorem case5 : ∀ s : Nat, s < 6 → ∀ t : Nat, t < ordN (1 + 5) s → Runs 5 s t
  | 0, _, _, ht => of_all r5_0 (by decide) ht
  | 1, _, _, ht => of_all r5_1 (by decide) ht
  | 2, _, _, ht => of_all r5_2 (by decide) ht
  | 3, _, _, ht => of_all r5_3 (by decide) ht
  | 4, _, _, ht => of_all r5_4 (by decide) ht
  | 5, _, _, ht => of_all r5_5 (by decide) ht
  | s + 6, h, _, _ => absurd h (by omega)
theorem case6 : ∀ s : Nat, s < 7 → ∀ t : Nat, t < ordN (1 + 6) s → Runs 6 s t
  | 0, _, _, ht => of_all r6_0 (by decide) ht
  | 1, _, _, ht => of_all r6_1 (by decide) ht
  | 2, _, _, ht => of_all r6_2 (by decide) ht
  | 3, _, _, ht => of_all r6_3 (by decide) ht
  | 4, _, _, ht => of_all r6_4 (by decide) ht
  | 5, _, _, ht => of_all r6_5 (by decide) ht
  | 6, _, _, ht => of_all r6_6 (by decide) ht
  | s + 7, h, _, _ => absurd h (by omega)
theorem case7 : ∀ s : Nat, s < 8 → ∀ t : Nat, t < ordN (1 + 7) s → Runs 7 s t
  | 0, _, _, ht => of_all r7_0 (by decide) ht
  | 1, _, _, ht => of_all r7_1 (by decide) ht
  | 2, _, _, ht => of_all r7_2 (by decide) ht
  | 3, _, _, ht => of_all r7_3 (by decide) ht
  | 4, _, _, ht => of_all r7_4 (by decide) ht
  | 5, _, _, ht => of_all r7_5 (by decide) ht
  | 6, _, _, ht => of_all r7_6 (by decide) ht
  | 7, _, _, ht => of_all r7_7 (by decide) ht
  | s + 8, h, _, _ => absurd h (by omega)
theorem runs : ∀ a : Nat, a < 8 → ∀ s : Nat, s < 1 + a → ∀ t : Nat, t < ordN (1 + a) s → Runs a s t
  | 0, _, s, hs, t, ht => case0 s (by omega) t ht
  | 1, _, s, hs, t, ht => case1 s (by omega) t ht
  | 2, _, s, hs, t, ht => case2 s (by omega) t ht
  | 3, _, s, hs, t, ht => case3 s (by omega) t ht
  | 4, _, s, hs, t, ht => case4 s (by omega) t ht
  | 5, _, s, hs, t, ht => case5 s (by omega) t ht
  | 6, _, s, hs, t, ht => case6 s (by omega) t ht
  | 7, _, s, hs, t, ht => case7 s (by omega) t ht
  | a + 8, h, _, _, _, _ => absurd h (by omega)
theorem all {x y z : Int} (hx : 0 ≤ x ∧ x < 256) (hy : 0 ≤ y ∧ y < 256) (hz : 0 ≤ z ∧ z < 256) : Vit.runT (tabR 1000000) 200 3 [.int .u8 x, .int .u8 y, .int .u8 z] mTab.next mTab isTrue = some () := by
  obtain ⟨a, rfl⟩ : ∃ a : Nat, x = a := ⟨x.toNat, by omega⟩
  obtain ⟨s, rfl⟩ : ∃ b : Nat, y = b := ⟨y.toNat, by omega⟩
  obtain ⟨t, rfl⟩ : ∃ b : Nat, z = b := ⟨z.toNat, by omega⟩
  rw [same_run (n := 198) (Nat.le_refl _) (by omega) (by omega) (by omega)]
  have h8 := Nat.mod_lt a (show 0 < 8 by omega)
  obtain ⟨A, hA, hAe, _, _⟩ := ordN_e (M := 1 + a % 8) (S := s % (1 + a % 8)) (by omega)
  exact runs _ h8 _ (Nat.mod_lt s (show 0 < 1 + a % 8 by omega)) _ (Nat.mod_lt t (show 0 < ordN (1 + a % 8) (s % (1 + a % 8)) by omega))
end Go.Proofs.YtppallabmjdolaaDoor.TopSpread
