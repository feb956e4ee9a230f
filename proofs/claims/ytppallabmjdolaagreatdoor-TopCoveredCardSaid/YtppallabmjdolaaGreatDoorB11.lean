/- Walks of the group Bond, numbered for this seat by a program: W9. -/
import Derived.Test.YtppallabmjdolaaGreatDoorB10
import Derived.Test.YtppallabmjdolaaGreatDoorB9
set_option linter.unusedSimpArgs false
set_option linter.unusedVariables false
namespace Go.Vit
open Go Go.Proofs
attribute [local irreducible] runT loopS
def leastX (h : Int) (l : List Int) : List Nat := if chk h l = 0 then minl (nn l) else []
def smallX (h : Int) (l : List Int) : List Nat := if chk h l = 0 then hitl (nn l) else []
def barredX (h : Int) (l : List Int) : List Nat := if chk h l = 0 then (List.range (2 ^ h.toNat)).filter (mostB (fun g => !mayB (nn l) g) (2 ^ h.toNat)) else []
def openX (h : Int) (l : List Int) (g : Int) : Bool := if errG h l g = 0 then openB (nn l) g.toNat else false
theorem abin_snil (p : Option Addr) (n c : Nat) : abin Tryz.prog .eql 22 (.slice p n c) (.slice none 0 0) = some (.bool p.isNone) := by
  cases p with
  | none => kernel_rfl
  | some a => kernel_rfl
section
variable {lf n L : Nat} {m : Mem} {k : Value → Mem → Option Unit}
theorem least1_sp {h : Int} {v : Value} {l : List Int} (hlf : 1000000 ≤ lf) (hL : L ≤ m.next) (hv : IL m v l) (hk : ∀ u m', Gt m m' → IN m' u (leastX h l) → k (.tuple ⟨[u, .int .i64 (chk h l)]⟩) m' = some ()) : runT (tabC lf) (n + 8) 32 [Vit.hg h v] L m k = some () := by
  rw [r32]
  dsimp only [S32, iofNat, inegSucc]
  obtain ⟨p, c, rfl⟩ := hv.ex
  try simp (disch := first | omega | with_unfolding_all exact id rfl | with_unfolding_all exact Nat.le_of_ble_eq_true rfl | (simp only [Jd, Je, Jr, Js, Jt, Nat.reduceAdd, allOne, oneCell, Bool.and_self, Jc]; first | done | omega)) only [↓Qa, ↓Qb, ↓Qc, Qd, Qe, Qf, Qg, Qh, Qi, Qj, Qk, Ql, Qm, Qn, Qo, Qp, Qq, Qr, Qs, Qt, Qu, Qv, Qw, Qx, Qy, ptrTo, Qz, QA, QB, QC, QD, QE, QF, QG, QH, QI, QJ, QK, QL, QM, QN, QO, QP, QQ, QR, QS, QT, QU, QV, QW, QX, QY, QZ, Ja, Jb, Jc, Jd, Je, Jf, Jg, Jh, Ji, Jj, Jk, Jl, Jm, Jn, Jo, Jp, Jq, Jr, Js, Jt, Nat.reduceAdd]
  have g1 := Mem.gt_push m ⟨1, [.int .i64 h, .slice p l.length c], none⟩
  refine ruled_sp hlf (by have := g1.next; omega) (hv.mono g1) fun m2 e2 => ?_
  have g1n := g1.next
  have e2n := e2.next
  try simp (disch := first | omega | with_unfolding_all exact id rfl | with_unfolding_all exact Nat.le_of_ble_eq_true rfl | (simp only [Jd, Je, Jr, Js, Jt, Nat.reduceAdd, allOne, oneCell, Bool.and_self, Jc]; first | done | omega)) only [↓Qa, ↓Qb, ↓Qc, Qd, Qe, Qf, Qg, Qh, Qi, Qj, Qk, Ql, Qm, Qn, Qo, Qp, Qq, Qr, Qs, Qt, Qu, Qv, Qw, Qx, Qy, ptrTo, Qz, QA, QB, QC, QD, QE, QF, QG, QH, QI, QJ, QK, QL, QM, QN, QO, QP, QQ, QR, QS, QT, QU, QV, QW, QX, QY, QZ, Ja, Jb, Jc, Jd, Je, Jf, Jg, Jh, Ji, Jj, Jk, Jl, Jm, Jn, Jo, Jp, Jq, Jr, Js, Jt, Nat.reduceAdd]
  have e3 : Gt m ((m2.push ⟨1, [.int .i64 0, .slice none 0 0], none⟩).put m2.next (some ⟨1, [.int .i64 h, .slice p l.length c], none⟩)) := Mem.put_gt ((g1.trans e2).trans (Mem.gt_push _ _)) _ (by omega)
  have h3 : At ((m2.push ⟨1, [.int .i64 0, .slice none 0 0], none⟩).put m2.next (some ⟨1, [.int .i64 h, .slice p l.length c], none⟩)) m2.next [.int .i64 h, .slice p l.length c] := Mem.rd_put_eq _ _ (by rw [Mem.push_next]; omega)
  generalize (m2.push ⟨1, [.int .i64 0, .slice none 0 0], none⟩).put m2.next (some ⟨1, [.int .i64 h, .slice p l.length c], none⟩) = m3 at e3 h3 ⊢
  have e3n := e3.next
  refine oIf_ndec (fun h4 => ?_) (fun h4 => ?_)
  · have := hk (.slice none 0 0) m3 e3 (by rw [leastX, if_neg h4]; exact IL.nil _)
    exact this
  · obtain ⟨a, rfl, ha1, ha6, hci, hlen, hlt, hlt64⟩ := chk_valid h4
    have hp := pow_le64 ha6
    have hin : IN m3 (.slice p l.length c) (nn l) := by unfold IN; rw [hci]; exact hv.mono e3
    try simp (disch := first | omega | with_unfolding_all exact id rfl | with_unfolding_all exact Nat.le_of_ble_eq_true rfl | (simp only [Jd, Je, Jr, Js, Jt, Nat.reduceAdd, allOne, oneCell, Bool.and_self, Jc]; first | done | omega)) only [h3.rd, ↓Qa, ↓Qb, ↓Qc, Qd, Qe, Qf, Qg, Qh, Qi, Qj, Qk, Ql, Qm, Qn, Qo, Qp, Qq, Qr, Qs, Qt, Qu, Qv, Qw, Qx, Qy, ptrTo, Qz, QA, QB, QC, QD, QE, QF, QG, QH, QI, QJ, QK, QL, QM, QN, QO, QP, QQ, QR, QS, QT, QU, QV, QW, QX, QY, QZ, Ja, Jb, Jc, Jd, Je, Jf, Jg, Jh, Ji, Jj, Jk, Jl, Jm, Jn, Jo, Jp, Jq, Jr, Js, Jt, Nat.reduceAdd]
    refine inner_sp hlf (by omega) hin (by rw [nn_length]; omega) hlt64 fun u m4 e4 hu hf => ?_
    have := hk u m4 (e3.trans e4) (by rw [leastX, if_pos h4]; exact hu)
    rw [h4] at this
    exact this
theorem small1_sp {h : Int} {v : Value} {l : List Int} (hlf : 1000000 ≤ lf) (hL : L ≤ m.next) (hv : IL m v l) (hk : ∀ u m', Gt m m' → IN m' u (smallX h l) → k (.tuple ⟨[u, .int .i64 (chk h l)]⟩) m' = some ()) : runT (tabC lf) (n + 8) 22 [Vit.hg h v] L m k = some () := by
  rw [r22]
  dsimp only [S22, iofNat, inegSucc]
  obtain ⟨p, c, rfl⟩ := hv.ex
  try simp (disch := first | omega | with_unfolding_all exact id rfl | with_unfolding_all exact Nat.le_of_ble_eq_true rfl | (simp only [Jd, Je, Jr, Js, Jt, Nat.reduceAdd, allOne, oneCell, Bool.and_self, Jc]; first | done | omega)) only [↓Qa, ↓Qb, ↓Qc, Qd, Qe, Qf, Qg, Qh, Qi, Qj, Qk, Ql, Qm, Qn, Qo, Qp, Qq, Qr, Qs, Qt, Qu, Qv, Qw, Qx, Qy, ptrTo, Qz, QA, QB, QC, QD, QE, QF, QG, QH, QI, QJ, QK, QL, QM, QN, QO, QP, QQ, QR, QS, QT, QU, QV, QW, QX, QY, QZ, Ja, Jb, Jc, Jd, Je, Jf, Jg, Jh, Ji, Jj, Jk, Jl, Jm, Jn, Jo, Jp, Jq, Jr, Js, Jt, Nat.reduceAdd]
  have g1 := Mem.gt_push m ⟨1, [.int .i64 h, .slice p l.length c], none⟩
  refine planned_sp hlf (by have := g1.next; omega) (hv.mono g1) fun m2 e2 => ?_
  have g1n := g1.next
  have e2n := e2.next
  try simp (disch := first | omega | with_unfolding_all exact id rfl | with_unfolding_all exact Nat.le_of_ble_eq_true rfl | (simp only [Jd, Je, Jr, Js, Jt, Nat.reduceAdd, allOne, oneCell, Bool.and_self, Jc]; first | done | omega)) only [↓Qa, ↓Qb, ↓Qc, Qd, Qe, Qf, Qg, Qh, Qi, Qj, Qk, Ql, Qm, Qn, Qo, Qp, Qq, Qr, Qs, Qt, Qu, Qv, Qw, Qx, Qy, ptrTo, Qz, QA, QB, QC, QD, QE, QF, QG, QH, QI, QJ, QK, QL, QM, QN, QO, QP, QQ, QR, QS, QT, QU, QV, QW, QX, QY, QZ, Ja, Jb, Jc, Jd, Je, Jf, Jg, Jh, Ji, Jj, Jk, Jl, Jm, Jn, Jo, Jp, Jq, Jr, Js, Jt, Nat.reduceAdd]
  have e3 : Gt m ((m2.push ⟨1, [.int .i64 0, .slice none 0 0], none⟩).put m2.next (some ⟨1, [.int .i64 h, .slice p l.length c], none⟩)) := Mem.put_gt ((g1.trans e2).trans (Mem.gt_push _ _)) _ (by omega)
  have h3 : At ((m2.push ⟨1, [.int .i64 0, .slice none 0 0], none⟩).put m2.next (some ⟨1, [.int .i64 h, .slice p l.length c], none⟩)) m2.next [.int .i64 h, .slice p l.length c] := Mem.rd_put_eq _ _ (by rw [Mem.push_next]; omega)
  generalize (m2.push ⟨1, [.int .i64 0, .slice none 0 0], none⟩).put m2.next (some ⟨1, [.int .i64 h, .slice p l.length c], none⟩) = m3 at e3 h3 ⊢
  have e3n := e3.next
  refine oIf_ndec (fun h4 => ?_) (fun h4 => ?_)
  · have := hk (.slice none 0 0) m3 e3 (by rw [smallX, if_neg h4]; exact IL.nil _)
    exact this
  · obtain ⟨a, rfl, ha1, ha6, hci, hlen, hlt, hlt64⟩ := chk_valid h4
    have hp := pow_le64 ha6
    have hin : IN m3 (.slice p l.length c) (nn l) := by unfold IN; rw [hci]; exact hv.mono e3
    try simp (disch := first | omega | with_unfolding_all exact id rfl | with_unfolding_all exact Nat.le_of_ble_eq_true rfl | (simp only [Jd, Je, Jr, Js, Jt, Nat.reduceAdd, allOne, oneCell, Bool.and_self, Jc]; first | done | omega)) only [h3.rd, ↓Qa, ↓Qb, ↓Qc, Qd, Qe, Qf, Qg, Qh, Qi, Qj, Qk, Ql, Qm, Qn, Qo, Qp, Qq, Qr, Qs, Qt, Qu, Qv, Qw, Qx, Qy, ptrTo, Qz, QA, QB, QC, QD, QE, QF, QG, QH, QI, QJ, QK, QL, QM, QN, QO, QP, QQ, QR, QS, QT, QU, QV, QW, QX, QY, QZ, Ja, Jb, Jc, Jd, Je, Jf, Jg, Jh, Ji, Jj, Jk, Jl, Jm, Jn, Jo, Jp, Jq, Jr, Js, Jt, Nat.reduceAdd]
    refine meeting_sp hlf (by omega) hin (by rw [nn_length]; omega) hlt64 fun u m4 e4 hu hf => ?_
    have := hk u m4 (e3.trans e4) (by rw [smallX, if_pos h4]; exact by rw [← meetL_eq hlt64]; exact hu)
    rw [h4] at this
    exact this
theorem barred1_sp {h : Int} {v : Value} {l : List Int} (hlf : 1000000 ≤ lf) (hL : L ≤ m.next) (hv : IL m v l) (hk : ∀ u m', Gt m m' → IN m' u (barredX h l) → k (.tuple ⟨[u, .int .i64 (chk h l)]⟩) m' = some ()) : runT (tabC lf) (n + 8) 11 [Vit.hg h v] L m k = some () := by
  rw [r11]
  dsimp only [S11, iofNat, inegSucc]
  obtain ⟨p, c, rfl⟩ := hv.ex
  try simp (disch := first | omega | with_unfolding_all exact id rfl | with_unfolding_all exact Nat.le_of_ble_eq_true rfl | (simp only [Jd, Je, Jr, Js, Jt, Nat.reduceAdd, allOne, oneCell, Bool.and_self, Jc]; first | done | omega)) only [↓Qa, ↓Qb, ↓Qc, Qd, Qe, Qf, Qg, Qh, Qi, Qj, Qk, Ql, Qm, Qn, Qo, Qp, Qq, Qr, Qs, Qt, Qu, Qv, Qw, Qx, Qy, ptrTo, Qz, QA, QB, QC, QD, QE, QF, QG, QH, QI, QJ, QK, QL, QM, QN, QO, QP, QQ, QR, QS, QT, QU, QV, QW, QX, QY, QZ, Ja, Jb, Jc, Jd, Je, Jf, Jg, Jh, Ji, Jj, Jk, Jl, Jm, Jn, Jo, Jp, Jq, Jr, Js, Jt, Nat.reduceAdd]
  have g1 := Mem.gt_push m ⟨1, [.int .i64 h, .slice p l.length c], none⟩
  refine ruled_sp hlf (by have := g1.next; omega) (hv.mono g1) fun m2 e2 => ?_
  have g1n := g1.next
  have e2n := e2.next
  try simp (disch := first | omega | with_unfolding_all exact id rfl | with_unfolding_all exact Nat.le_of_ble_eq_true rfl | (simp only [Jd, Je, Jr, Js, Jt, Nat.reduceAdd, allOne, oneCell, Bool.and_self, Jc]; first | done | omega)) only [↓Qa, ↓Qb, ↓Qc, Qd, Qe, Qf, Qg, Qh, Qi, Qj, Qk, Ql, Qm, Qn, Qo, Qp, Qq, Qr, Qs, Qt, Qu, Qv, Qw, Qx, Qy, ptrTo, Qz, QA, QB, QC, QD, QE, QF, QG, QH, QI, QJ, QK, QL, QM, QN, QO, QP, QQ, QR, QS, QT, QU, QV, QW, QX, QY, QZ, Ja, Jb, Jc, Jd, Je, Jf, Jg, Jh, Ji, Jj, Jk, Jl, Jm, Jn, Jo, Jp, Jq, Jr, Js, Jt, Nat.reduceAdd]
  have e3 : Gt m ((m2.push ⟨1, [.int .i64 0, .slice none 0 0], none⟩).put m2.next (some ⟨1, [.int .i64 h, .slice p l.length c], none⟩)) := Mem.put_gt ((g1.trans e2).trans (Mem.gt_push _ _)) _ (by omega)
  have h3 : At ((m2.push ⟨1, [.int .i64 0, .slice none 0 0], none⟩).put m2.next (some ⟨1, [.int .i64 h, .slice p l.length c], none⟩)) m2.next [.int .i64 h, .slice p l.length c] := Mem.rd_put_eq _ _ (by rw [Mem.push_next]; omega)
  generalize (m2.push ⟨1, [.int .i64 0, .slice none 0 0], none⟩).put m2.next (some ⟨1, [.int .i64 h, .slice p l.length c], none⟩) = m3 at e3 h3 ⊢
  have e3n := e3.next
  refine oIf_ndec (fun h4 => ?_) (fun h4 => ?_)
  · have := hk (.slice none 0 0) m3 e3 (by rw [barredX, if_neg h4]; exact IL.nil _)
    exact this
  · obtain ⟨a, rfl, ha1, ha6, hci, hlen, hlt, hlt64⟩ := chk_valid h4
    have hp := pow_le64 ha6
    have hin : IN m3 (.slice p l.length c) (nn l) := by unfold IN; rw [hci]; exact hv.mono e3
    try simp (disch := first | omega | with_unfolding_all exact id rfl | with_unfolding_all exact Nat.le_of_ble_eq_true rfl | (simp only [Jd, Je, Jr, Js, Jt, Nat.reduceAdd, allOne, oneCell, Bool.and_self, Jc]; first | done | omega)) only [h3.rd, ↓Qa, ↓Qb, ↓Qc, Qd, Qe, Qf, Qg, Qh, Qi, Qj, Qk, Ql, Qm, Qn, Qo, Qp, Qq, Qr, Qs, Qt, Qu, Qv, Qw, Qx, Qy, ptrTo, Qz, QA, QB, QC, QD, QE, QF, QG, QH, QI, QJ, QK, QL, QM, QN, QO, QP, QQ, QR, QS, QT, QU, QV, QW, QX, QY, QZ, Ja, Jb, Jc, Jd, Je, Jf, Jg, Jh, Ji, Jj, Jk, Jl, Jm, Jn, Jo, Jp, Jq, Jr, Js, Jt, Nat.reduceAdd]
    refine meeting_sp hlf (by omega) hin (by rw [nn_length]; omega) hlt64 fun u m4 e4 hu hf => ?_
    rw [meetL_eq hlt64] at hu
    have hml : (hitl (nn l)).length ≤ 64 := minl_len _
    have e4n := e4.next
    try simp (disch := first | omega | with_unfolding_all exact id rfl | with_unfolding_all exact Nat.le_of_ble_eq_true rfl | (simp only [Jd, Je, Jr, Js, Jt, Nat.reduceAdd, allOne, oneCell, Bool.and_self, Jc]; first | done | omega)) only [hu.ln, ↓Qa, ↓Qb, ↓Qc, Qd, Qe, Qf, Qg, Qh, Qi, Qj, Qk, Ql, Qm, Qn, Qo, Qp, Qq, Qr, Qs, Qt, Qu, Qv, Qw, Qx, Qy, ptrTo, Qz, QA, QB, QC, QD, QE, QF, QG, QH, QI, QJ, QK, QL, QM, QN, QO, QP, QQ, QR, QS, QT, QU, QV, QW, QX, QY, QZ, Ja, Jb, Jc, Jd, Je, Jf, Jg, Jh, Ji, Jj, Jk, Jl, Jm, Jn, Jo, Jp, Jq, Jr, Js, Jt, Nat.reduceAdd]
    refine loop_up (hitl (nn l)).length (fun i vs m' => ∃ x, vs = [x, .int .i64 (i : Int)] ∧ Gt m4 m' ∧ GN m4.next m' x (((hitl (nn l)).take i).map (compl a))) (by omega) ⟨_, rfl, Gt.refl _, GN.nil _ _⟩ ?_
    rintro i vs m5 hi ⟨x, rfl, e5, hx⟩ self hself
    have hu5 := hu.mono e5
    have h35 := (h3.mono e4).mono e5
    have e5n := e5.next
    try simp (disch := first | omega | with_unfolding_all exact id rfl | with_unfolding_all exact Nat.le_of_ble_eq_true rfl | (simp only [Jd, Je, Jr, Js, Jt, Nat.reduceAdd, allOne, oneCell, Bool.and_self, Jc]; first | done | omega)) only [↓Qa, ↓Qb, ↓Qc, Qd, Qe, Qf, Qg, Qh, Qi, Qj, Qk, Ql, Qm, Qn, Qo, Qp, Qq, Qr, Qs, Qt, Qu, Qv, Qw, Qx, Qy, ptrTo, Qz, QA, QB, QC, QD, QE, QF, QG, QH, QI, QJ, QK, QL, QM, QN, QO, QP, QQ, QR, QS, QT, QU, QV, QW, QX, QY, QZ, Ja, Jb, Jc, Jd, Je, Jf, Jg, Jh, Ji, Jj, Jk, Jl, Jm, Jn, Jo, Jp, Jq, Jr, Js, Jt, Nat.reduceAdd]
    refine oIf_dec (fun h5 => ?_) (fun h5 => ?_)
    · have h6 : i < (hitl (nn l)).length := by omega
      have h7 : (hitl (nn l))[i] < 64 := minl_lt (List.getElem_mem h6)
      try simp (disch := first | omega | with_unfolding_all exact id rfl | with_unfolding_all exact Nat.le_of_ble_eq_true rfl | (simp only [Jd, Je, Jr, Js, Jt, Nat.reduceAdd, allOne, oneCell, Bool.and_self, Jc]; first | done | omega)) only [hu5.ia h6, hu5.ld h6, h35.rd, ↓Qa, ↓Qb, ↓Qc, Qd, Qe, Qf, Qg, Qh, Qi, Qj, Qk, Ql, Qm, Qn, Qo, Qp, Qq, Qr, Qs, Qt, Qu, Qv, Qw, Qx, Qy, ptrTo, Qz, QA, QB, QC, QD, QE, QF, QG, QH, QI, QJ, QK, QL, QM, QN, QO, QP, QQ, QR, QS, QT, QU, QV, QW, QX, QY, QZ, Ja, Jb, Jc, Jd, Je, Jf, Jg, Jh, Ji, Jj, Jk, Jl, Jm, Jn, Jo, Jp, Jq, Jr, Js, Jt, Nat.reduceAdd]
      refine all_sp _ ha6 fun m6 e6 => ?_
      have hpos : 0 < 2 ^ a := Nat.two_pow_pos a
      rw [show ((2 : Int) ^ a - 1) = ((2 ^ a - 1 : Nat) : Int) by omega, oInt_andNot (a := 2 ^ a - 1) (b := (hitl (nn l))[i]) (by omega) (by omega)]
      have hx6 := hx.mono e6
      have e6n := e6.next
      obtain ⟨x2, m7, h8, h9, e7, h10⟩ := GN.snoc (P := Tryz.prog) (t := 22) (L := L) (m0 := m4) (compl a (hitl (nn l))[i]) ael22 (by omega) hx6 (by rw [List.length_map, List.length_take]; omega) (by omega) (e5.trans e6) (Nat.le_refl _)
      unfold compl at h8
      try simp (disch := first | omega | with_unfolding_all exact id rfl | with_unfolding_all exact Nat.le_of_ble_eq_true rfl | (simp only [Jd, Je, Jr, Js, Jt, Nat.reduceAdd, allOne, oneCell, Bool.and_self, Jc]; first | done | omega)) only [bs22, h8, ↓Qa, ↓Qb, ↓Qc, Qd, Qe, Qf, Qg, Qh, Qi, Qj, Qk, Ql, Qm, Qn, Qo, Qp, Qq, Qr, Qs, Qt, Qu, Qv, Qw, Qx, Qy, ptrTo, Qz, QA, QB, QC, QD, QE, QF, QG, QH, QI, QJ, QK, QL, QM, QN, QO, QP, QQ, QR, QS, QT, QU, QV, QW, QX, QY, QZ, Ja, Jb, Jc, Jd, Je, Jf, Jg, Jh, Ji, Jj, Jk, Jl, Jm, Jn, Jo, Jp, Jq, Jr, Js, Jt, Nat.reduceAdd]
      rw [oInt_add ⟨by omega, by omega⟩]
      refine hself h6 _ _ ⟨x2, rfl, e7, ?_⟩
      rw [List.take_add_one, List.getElem?_eq_getElem h6, Option.toList_some, List.map_append]
      exact h9.le (by omega)
    · have : i = (hitl (nn l)).length := by omega
      subst this
      rw [List.take_length] at hx
      rw [r59]
      refine sort_sp hx (L := L) (by omega) e5 (Nat.le_refl _) (by rw [ci_length, List.length_map]; omega) fun m6 e6 hx6 _ _ => ?_
      rw [barred_eq ha6 hlt] at hx6
      have := hk x m6 ((e3.trans e4).trans e6) (by rw [barredX, if_pos h4, Int.toNat_natCast]; exact hx6.il)
      rw [h4] at this
      exact this
theorem opens1_sp {h : Int} {v : Value} {l : List Int} {g : Int} (hlf : 1000000 ≤ lf) (hL : L ≤ m.next) (hv : IL m v l) (hk : ∀ m', Gt m m' → k (.tuple ⟨[.bool (openX h l g), .int .i64 (errG h l g)]⟩) m' = some ()) : runT (tabC lf) (n + 8) 20 [Vit.hg h v, .int .i64 g] L m k = some () := by
  rw [r20]
  dsimp only [S20, iofNat, inegSucc]
  obtain ⟨p, c, rfl⟩ := hv.ex
  try simp (disch := first | omega | with_unfolding_all exact id rfl | with_unfolding_all exact Nat.le_of_ble_eq_true rfl | (simp only [Jd, Je, Jr, Js, Jt, Nat.reduceAdd, allOne, oneCell, Bool.and_self, Jc]; first | done | omega)) only [↓Qa, ↓Qb, ↓Qc, Qd, Qe, Qf, Qg, Qh, Qi, Qj, Qk, Ql, Qm, Qn, Qo, Qp, Qq, Qr, Qs, Qt, Qu, Qv, Qw, Qx, Qy, ptrTo, Qz, QA, QB, QC, QD, QE, QF, QG, QH, QI, QJ, QK, QL, QM, QN, QO, QP, QQ, QR, QS, QT, QU, QV, QW, QX, QY, QZ, Ja, Jb, Jc, Jd, Je, Jf, Jg, Jh, Ji, Jj, Jk, Jl, Jm, Jn, Jo, Jp, Jq, Jr, Js, Jt, Nat.reduceAdd]
  have g1 := Mem.gt_push m ⟨1, [.int .i64 h, .slice p l.length c], none⟩
  refine planned_sp hlf (by have := g1.next; omega) (hv.mono g1) fun m2 e2 => ?_
  have g1n := g1.next
  have e2n := e2.next
  try simp (disch := first | omega | with_unfolding_all exact id rfl | with_unfolding_all exact Nat.le_of_ble_eq_true rfl | (simp only [Jd, Je, Jr, Js, Jt, Nat.reduceAdd, allOne, oneCell, Bool.and_self, Jc]; first | done | omega)) only [↓Qa, ↓Qb, ↓Qc, Qd, Qe, Qf, Qg, Qh, Qi, Qj, Qk, Ql, Qm, Qn, Qo, Qp, Qq, Qr, Qs, Qt, Qu, Qv, Qw, Qx, Qy, ptrTo, Qz, QA, QB, QC, QD, QE, QF, QG, QH, QI, QJ, QK, QL, QM, QN, QO, QP, QQ, QR, QS, QT, QU, QV, QW, QX, QY, QZ, Ja, Jb, Jc, Jd, Je, Jf, Jg, Jh, Ji, Jj, Jk, Jl, Jm, Jn, Jo, Jp, Jq, Jr, Js, Jt, Nat.reduceAdd]
  have e3 : Gt m ((m2.push ⟨1, [.int .i64 0, .slice none 0 0], none⟩).put m2.next (some ⟨1, [.int .i64 h, .slice p l.length c], none⟩)) := Mem.put_gt ((g1.trans e2).trans (Mem.gt_push _ _)) _ (by omega)
  have h3 : At ((m2.push ⟨1, [.int .i64 0, .slice none 0 0], none⟩).put m2.next (some ⟨1, [.int .i64 h, .slice p l.length c], none⟩)) m2.next [.int .i64 h, .slice p l.length c] := Mem.rd_put_eq _ _ (by rw [Mem.push_next]; omega)
  generalize (m2.push ⟨1, [.int .i64 0, .slice none 0 0], none⟩).put m2.next (some ⟨1, [.int .i64 h, .slice p l.length c], none⟩) = m3 at e3 h3 ⊢
  have e3n := e3.next
  refine oIf_ndec (fun h4 => ?_) (fun h4 => ?_)
  · have := hk m3 e3
    simp only [openX, errG, if_neg h4] at this
    exact this
  · obtain ⟨a, rfl, ha1, ha6, hci, hlen, hlt, hlt64⟩ := chk_valid h4
    have hp := pow_le64 ha6
    try simp (disch := first | omega | with_unfolding_all exact id rfl | with_unfolding_all exact Nat.le_of_ble_eq_true rfl | (simp only [Jd, Je, Jr, Js, Jt, Nat.reduceAdd, allOne, oneCell, Bool.and_self, Jc]; first | done | omega)) only [h3.rd, ↓Qa, ↓Qb, ↓Qc, Qd, Qe, Qf, Qg, Qh, Qi, Qj, Qk, Ql, Qm, Qn, Qo, Qp, Qq, Qr, Qs, Qt, Qu, Qv, Qw, Qx, Qy, ptrTo, Qz, QA, QB, QC, QD, QE, QF, QG, QH, QI, QJ, QK, QL, QM, QN, QO, QP, QQ, QR, QS, QT, QU, QV, QW, QX, QY, QZ, Ja, Jb, Jc, Jd, Je, Jf, Jg, Jh, Ji, Jj, Jk, Jl, Jm, Jn, Jo, Jp, Jq, Jr, Js, Jt, Nat.reduceAdd]
    refine has_sp _ g ha6 fun m4 e4 => ?_
    have hg0 : isGrp (a : Int) g ↔ (0 ≤ g ∧ g ≤ 2 ^ a - 1) := by unfold isGrp; rw [Int.toNat_natCast]
    have h4' := h3.mono e4
    have e4n := e4.next
    by_cases h5 : 0 ≤ g ∧ g ≤ 2 ^ a - 1
    · have h6 : errG (a : Int) l g = 0 := by unfold errG; rw [if_pos h4, if_pos (hg0.2 h5)]
      obtain ⟨b, rfl⟩ : ∃ b : Nat, g = b := ⟨g.toNat, by omega⟩
      try simp (disch := first | omega | with_unfolding_all exact id rfl | with_unfolding_all exact Nat.le_of_ble_eq_true rfl | (simp only [Jd, Je, Jr, Js, Jt, Nat.reduceAdd, allOne, oneCell, Bool.and_self, Jc]; first | done | omega)) only [h5, and_self, h4'.rd, ↓Qa, ↓Qb, ↓Qc, Qd, Qe, Qf, Qg, Qh, Qi, Qj, Qk, Ql, Qm, Qn, Qo, Qp, Qq, Qr, Qs, Qt, Qu, Qv, Qw, Qx, Qy, ptrTo, Qz, QA, QB, QC, QD, QE, QF, QG, QH, QI, QJ, QK, QL, QM, QN, QO, QP, QQ, QR, QS, QT, QU, QV, QW, QX, QY, QZ, Ja, Jb, Jc, Jd, Je, Jf, Jg, Jh, Ji, Jj, Jk, Jl, Jm, Jn, Jo, Jp, Jq, Jr, Js, Jt, Nat.reduceAdd]
      have hin : IN m4 (.slice p l.length c) (nn l) := by unfold IN; rw [hci]; exact hv.mono (e3.trans e4)
      refine lacks_sp hlf (by omega) hin (by rw [nn_length]; omega) hlt64 (by omega) fun u m5 e5 hu => ?_
      have hnil : ∃ q c2, u = .slice q (lack (nn l) b).length c2 ∧ q.isNone = openB (nn l) b := by
        unfold openB
        rcases hu.isNil with ⟨rfl, h7⟩ | ⟨q, i, c2, rfl, h7⟩
        · exact ⟨_, _, by rw [h7]; rfl, by rw [decide_eq_true h7]; rfl⟩
        · obtain ⟨q2, c3, h8⟩ := hu.ex
          cases h8
          exact ⟨_, _, rfl, by rw [decide_eq_false h7]; rfl⟩
      obtain ⟨q, c2, rfl, hq⟩ := hnil
      try simp (disch := first | omega | with_unfolding_all exact id rfl | with_unfolding_all exact Nat.le_of_ble_eq_true rfl | (simp only [Jd, Je, Jr, Js, Jt, Nat.reduceAdd, allOne, oneCell, Bool.and_self, Jc]; first | done | omega)) only [abin_snil, ↓Qa, ↓Qb, ↓Qc, Qd, Qe, Qf, Qg, Qh, Qi, Qj, Qk, Ql, Qm, Qn, Qo, Qp, Qq, Qr, Qs, Qt, Qu, Qv, Qw, Qx, Qy, ptrTo, Qz, QA, QB, QC, QD, QE, QF, QG, QH, QI, QJ, QK, QL, QM, QN, QO, QP, QQ, QR, QS, QT, QU, QV, QW, QX, QY, QZ, Ja, Jb, Jc, Jd, Je, Jf, Jg, Jh, Ji, Jj, Jk, Jl, Jm, Jn, Jo, Jp, Jq, Jr, Js, Jt, Nat.reduceAdd]
      rw [hq]
      have := hk m5 ((e3.trans e4).trans e5)
      rw [openX, if_pos h6, h6, Int.toNat_natCast] at this
      exact this
    · have h6 : errG (a : Int) l g = 2 := by unfold errG; rw [if_pos h4, if_neg (fun hh => h5 (hg0.1 hh))]
      try simp (disch := first | omega | with_unfolding_all exact id rfl | with_unfolding_all exact Nat.le_of_ble_eq_true rfl | (simp only [Jd, Je, Jr, Js, Jt, Nat.reduceAdd, allOne, oneCell, Bool.and_self, Jc]; first | done | omega)) only [h5, ↓Qa, ↓Qb, ↓Qc, Qd, Qe, Qf, Qg, Qh, Qi, Qj, Qk, Ql, Qm, Qn, Qo, Qp, Qq, Qr, Qs, Qt, Qu, Qv, Qw, Qx, Qy, ptrTo, Qz, QA, QB, QC, QD, QE, QF, QG, QH, QI, QJ, QK, QL, QM, QN, QO, QP, QQ, QR, QS, QT, QU, QV, QW, QX, QY, QZ, Ja, Jb, Jc, Jd, Je, Jf, Jg, Jh, Ji, Jj, Jk, Jl, Jm, Jn, Jo, Jp, Jq, Jr, Js, Jt, Nat.reduceAdd]
      have := hk m4 (e3.trans e4)
      rw [openX, h6, if_neg (by omega)] at this
      exact this
end
end Go.Vit
