/- Walks of the group Dock, numbered for this seat by a program: W8. -/
import Derived.Test.YtppallabmjdolaaDoorD5
import Derived.Test.YtppallabmjdolaaDoorP2
set_option linter.unusedSimpArgs false
set_option linter.unusedVariables false
set_option maxRecDepth 20000
namespace Go.Vit
open Go Go.Proofs
attribute [local irreducible] runT loopS
def agE (N : Int) (l : List Int) : Int := if chkD N (N - 1) l = 0 then (match agK N.toNat l with | some _ => 0 | none => 13) else chkD N (N - 1) l
def agV (N : Int) (l : List Int) : Int := if chkD N (N - 1) l = 0 then (match agK N.toNat l with | some k => (k : Int) | none => 0) else 0
def prE (N : Int) (l : List Int) (x : Int) : Int := if chkD N (N - 1) l = 0 then (if inI x 1 N then (if crd N.toNat l x.toNat then 0 else 14) else 1) else chkD N (N - 1) l
theorem cntGe_take {t : Int} {l : List Int} {i : Nat} (h : i < l.length) : cntGe t (l.take (i + 1)) = cntGe t (l.take i) + (if t ≤ l[i] then 1 else 0) := by
  unfold cntGe
  rw [List.take_add_one, List.getElem?_eq_getElem h, Option.toList_some, List.filter_append, List.length_append]
  by_cases ht : t ≤ l[i]
  · rw [if_pos ht, List.filter_cons_of_pos (by simpa using ht)]; rfl
  · rw [if_neg ht, List.filter_cons_of_neg (by simpa using ht)]; rfl
theorem cntGe_le (t : Int) (l : List Int) : cntGe t l ≤ l.length := List.length_filter_le _ _
section
variable {lf n L : Nat} {m : Mem} {k : Value → Mem → Option Unit}
theorem reverse_sp {L0 : Nat} {m0 : Mem} {u : Value} {l : List Int} (hlf : 1000000 ≤ lf) (hu : GL L0 m u l) (hL : L ≤ L0) (e : Gt m0 m) (hm : m0.next ≤ L0) (hl : l.length < 1000)
    (hk : ∀ m', Gt m0 m' → GL L0 m' u l.reverse → m'.next = m.next → k (.tuple ⟨[]⟩) m' = some ()) : runT (tab lf) (n + 1) 57 [u] L m k = some () := by
  rw [r57]; dsimp only [S57, iofNat, inegSucc]
  try simp (disch := first | omega | with_unfolding_all exact id rfl | with_unfolding_all exact Nat.le_of_ble_eq_true rfl | (simp only [Jd, Je, Jr, Js, Jt, Nat.reduceAdd, allOne, oneCell, Bool.and_self, Jc]; first | done | omega)) only [hu.ln, ↓Qa, ↓Qb, ↓Qc, Qd, Qe, Qf, Qg, Qh, Qi, Qj, Qk, Ql, Qm, Qn, Qo, Qp, Qq, Qr, Qs, Qt, Qu, Qv, Qw, Qx, Qy, ptrTo, Qz, QA, QB, QC, QD, QE, QF, QG, QH, QI, QJ, QK, QL, QM, QN, QO, QP, QQ, QR, QS, QT, QU, QV, QW, QX, QY, QZ, Ja, Jb, Jc, Jd, Je, Jf, Jg, Jh, Ji, Jj, Jk, Jl, Jm, Jn, Jo, Jp, Jq, Jr, Js, Jt, Nat.reduceAdd]
  rw [oInt_sub ⟨by omega, by omega⟩]
  refine loop_up (l.length / 2) (fun i vs m' => vs = [.int .i64 (i : Int), .int .i64 ((l.length : Int) - 1 - i)] ∧ Gt m0 m' ∧ GL L0 m' u (rvI l i) ∧ m'.next = m.next) (by omega)
    ⟨by rw [show ((l.length : Int) - 1 - ((0 : Nat) : Int)) = (l.length : Int) - 1 by omega]; rfl, e, by rw [rvI_zero]; exact hu, rfl⟩ ?_
  rintro i vs m1 hi ⟨rfl, e1, hu1, n1⟩ self hself
  try simp (disch := first | omega | with_unfolding_all exact id rfl | with_unfolding_all exact Nat.le_of_ble_eq_true rfl | (simp only [Jd, Je, Jr, Js, Jt, Nat.reduceAdd, allOne, oneCell, Bool.and_self, Jc]; first | done | omega)) only [↓Qa, ↓Qb, ↓Qc, Qd, Qe, Qf, Qg, Qh, Qi, Qj, Qk, Ql, Qm, Qn, Qo, Qp, Qq, Qr, Qs, Qt, Qu, Qv, Qw, Qx, Qy, ptrTo, Qz, QA, QB, QC, QD, QE, QF, QG, QH, QI, QJ, QK, QL, QM, QN, QO, QP, QQ, QR, QS, QT, QU, QV, QW, QX, QY, QZ, Ja, Jb, Jc, Jd, Je, Jf, Jg, Jh, Ji, Jj, Jk, Jl, Jm, Jn, Jo, Jp, Jq, Jr, Js, Jt, Nat.reduceAdd]
  refine oIf_dec (fun h => ?_) (fun h => ?_)
  · have hij : i < l.length - 1 - i := by omega
    obtain ⟨j, hj⟩ : ∃ j, i + j + 1 = l.length := ⟨l.length - 1 - i, by omega⟩
    have hj2 : (l.length : Int) - 1 - i = (j : Int) := by omega
    rw [hj2]
    have hlen := rvI_len l i
    have hil : i < (rvI l i).length := by omega
    have hjl : j < (rvI l i).length := by omega
    try simp (disch := first | omega | with_unfolding_all exact id rfl | with_unfolding_all exact Nat.le_of_ble_eq_true rfl | (simp only [Jd, Je, Jr, Js, Jt, Nat.reduceAdd, allOne, oneCell, Bool.and_self, Jc]; first | done | omega)) only [hu1.il.ia hil, hu1.il.ld hil, hu1.il.ia hjl, hu1.il.ld hjl, ↓Qa, ↓Qb, ↓Qc, Qd, Qe, Qf, Qg, Qh, Qi, Qj, Qk, Ql, Qm, Qn, Qo, Qp, Qq, Qr, Qs, Qt, Qu, Qv, Qw, Qx, Qy, ptrTo, Qz, QA, QB, QC, QD, QE, QF, QG, QH, QI, QJ, QK, QL, QM, QN, QO, QP, QQ, QR, QS, QT, QU, QV, QW, QX, QY, QZ, Ja, Jb, Jc, Jd, Je, Jf, Jg, Jh, Ji, Jj, Jk, Jl, Jm, Jn, Jo, Jp, Jq, Jr, Js, Jt, Nat.reduceAdd]
    obtain ⟨m2, s2, u2, e2, n2, _⟩ := hu1.set (L := L) (m0 := m0) (rvI l i)[j] hil hL e1 hm
    rw [s2, oRes_e]
    have hjl2 : j < ((rvI l i).set i (rvI l i)[j]).length := by rw [List.length_set]; exact hjl
    obtain ⟨m3, s3, u3, e3, n3, _⟩ := u2.set (L := L) (m0 := m0) (rvI l i)[i] hjl2 hL e2 hm
    rw [s3, oRes_e, oInt_add ⟨by omega, by omega⟩, oInt_sub ⟨by omega, by omega⟩]
    rw [rvI_step hj (by omega) hil hjl] at u3
    refine hself (by omega) _ _ ⟨?_, e3, u3, by omega⟩
    rw [show ((l.length : Int) - 1 - ((i + 1 : Nat) : Int)) = (j : Int) - 1 by omega]
    rfl
  · rw [rvI_end (show l.length ≤ 2 * i + 1 by omega)] at hu1
    exact hk m1 e1 hu1 n1
theorem crowded_sp {a q : Nat} {v : Value} {l : List Int} (hlf : 1000000 ≤ lf) (ha : a ≤ 8) (hq : q ≤ a) (hv : IL m v l) (hl : l.length < 1000)
    (hk : k (.bool (crd a l q)) m = some ()) : runT (tab lf) (n + 1) 59 [.int .i64 (a : Int), v, .int .i64 (q : Int)] L m k = some () := by
  rw [r59]; dsimp only [S59, iofNat, inegSucc]
  try simp (disch := first | omega | with_unfolding_all exact id rfl | with_unfolding_all exact Nat.le_of_ble_eq_true rfl | (simp only [Jd, Je, Jr, Js, Jt, Nat.reduceAdd, allOne, oneCell, Bool.and_self, Jc]; first | done | omega)) only [hv.ln, ↓Qa, ↓Qb, ↓Qc, Qd, Qe, Qf, Qg, Qh, Qi, Qj, Qk, Ql, Qm, Qn, Qo, Qp, Qq, Qr, Qs, Qt, Qu, Qv, Qw, Qx, Qy, ptrTo, Qz, QA, QB, QC, QD, QE, QF, QG, QH, QI, QJ, QK, QL, QM, QN, QO, QP, QQ, QR, QS, QT, QU, QV, QW, QX, QY, QZ, Ja, Jb, Jc, Jd, Je, Jf, Jg, Jh, Ji, Jj, Jk, Jl, Jm, Jn, Jo, Jp, Jq, Jr, Js, Jt, Nat.reduceAdd]
  refine loop_up l.length (fun i vs m' => vs = [.int .i64 (cntGe ((a : Int) - q) (l.take i) : Int), .int .i64 (i : Int)] ∧ m' = m) (by omega) ⟨rfl, rfl⟩ ?_
  rintro i vs m' hi ⟨rfl, rfl⟩ self hself
  have hb := cntGe_le ((a : Int) - q) (l.take i)
  rw [List.length_take] at hb
  try simp (disch := first | omega | with_unfolding_all exact id rfl | with_unfolding_all exact Nat.le_of_ble_eq_true rfl | (simp only [Jd, Je, Jr, Js, Jt, Nat.reduceAdd, allOne, oneCell, Bool.and_self, Jc]; first | done | omega)) only [↓Qa, ↓Qb, ↓Qc, Qd, Qe, Qf, Qg, Qh, Qi, Qj, Qk, Ql, Qm, Qn, Qo, Qp, Qq, Qr, Qs, Qt, Qu, Qv, Qw, Qx, Qy, ptrTo, Qz, QA, QB, QC, QD, QE, QF, QG, QH, QI, QJ, QK, QL, QM, QN, QO, QP, QQ, QR, QS, QT, QU, QV, QW, QX, QY, QZ, Ja, Jb, Jc, Jd, Je, Jf, Jg, Jh, Ji, Jj, Jk, Jl, Jm, Jn, Jo, Jp, Jq, Jr, Js, Jt, Nat.reduceAdd]
  refine oIf_dec (fun h => ?_) (fun h => ?_)
  · have hil : i < l.length := by omega
    rw [cntGe_take hil] at hself
    try simp (disch := first | omega | with_unfolding_all exact id rfl | with_unfolding_all exact Nat.le_of_ble_eq_true rfl | (simp only [Jd, Je, Jr, Js, Jt, Nat.reduceAdd, allOne, oneCell, Bool.and_self, Jc]; first | done | omega)) only [hv.ia hil, hv.ld hil, ↓Qa, ↓Qb, ↓Qc, Qd, Qe, Qf, Qg, Qh, Qi, Qj, Qk, Ql, Qm, Qn, Qo, Qp, Qq, Qr, Qs, Qt, Qu, Qv, Qw, Qx, Qy, ptrTo, Qz, QA, QB, QC, QD, QE, QF, QG, QH, QI, QJ, QK, QL, QM, QN, QO, QP, QQ, QR, QS, QT, QU, QV, QW, QX, QY, QZ, Ja, Jb, Jc, Jd, Je, Jf, Jg, Jh, Ji, Jj, Jk, Jl, Jm, Jn, Jo, Jp, Jq, Jr, Js, Jt, Nat.reduceAdd]
    rw [oInt_sub ⟨by omega, by omega⟩]
    try simp (disch := first | omega | with_unfolding_all exact id rfl | with_unfolding_all exact Nat.le_of_ble_eq_true rfl | (simp only [Jd, Je, Jr, Js, Jt, Nat.reduceAdd, allOne, oneCell, Bool.and_self, Jc]; first | done | omega)) only [↓Qa, ↓Qb, ↓Qc, Qd, Qe, Qf, Qg, Qh, Qi, Qj, Qk, Ql, Qm, Qn, Qo, Qp, Qq, Qr, Qs, Qt, Qu, Qv, Qw, Qx, Qy, ptrTo, Qz, QA, QB, QC, QD, QE, QF, QG, QH, QI, QJ, QK, QL, QM, QN, QO, QP, QQ, QR, QS, QT, QU, QV, QW, QX, QY, QZ, Ja, Jb, Jc, Jd, Je, Jf, Jg, Jh, Ji, Jj, Jk, Jl, Jm, Jn, Jo, Jp, Jq, Jr, Js, Jt, Nat.reduceAdd]
    refine oIf_dec (fun h2 => ?_) (fun h2 => ?_)
    · rw [if_pos h2] at hself
      rw [oInt_add ⟨by omega, by omega⟩, oInt_add ⟨by omega, by omega⟩]
      exact hself hil _ _ ⟨rfl, rfl⟩
    · rw [if_neg h2] at hself
      rw [oInt_add ⟨by omega, by omega⟩]
      exact hself hil _ _ ⟨rfl, rfl⟩
  · have hiw : i = l.length := by omega
    subst hiw
    rw [List.take_length]
    unfold crd at hk
    rw [show decide ((q : Int) < (cntGe ((a : Int) - q) l : Int)) = decide (q < cntGe ((a : Int) - q) l) from decide_eq_decide.2 (by omega)]
    exact hk
theorem proves_sp {N x : Int} {v : Value} {l : List Int} (hlf : 1000000 ≤ lf) (hv : IL m v l) (hl : l.length < 1000)
    (hk : ∀ m', Gt m m' → k (.int .i64 (prE N l x)) m' = some ()) : runT (tab lf) (n + 7) 28 [.int .i64 N, v, .int .i64 x] L m k = some () := by
  rw [r28]; dsimp only [S28, iofNat, inegSucc]
  try simp (disch := first | omega | with_unfolding_all exact id rfl | with_unfolding_all exact Nat.le_of_ble_eq_true rfl | (simp only [Jd, Je, Jr, Js, Jt, Nat.reduceAdd, allOne, oneCell, Bool.and_self, Jc]; first | done | omega)) only [↓Qa, ↓Qb, ↓Qc, Qd, Qe, Qf, Qg, Qh, Qi, Qj, Qk, Ql, Qm, Qn, Qo, Qp, Qq, Qr, Qs, Qt, Qu, Qv, Qw, Qx, Qy, ptrTo, Qz, QA, QB, QC, QD, QE, QF, QG, QH, QI, QJ, QK, QL, QM, QN, QO, QP, QQ, QR, QS, QT, QU, QV, QW, QX, QY, QZ, Ja, Jb, Jc, Jd, Je, Jf, Jg, Jh, Ji, Jj, Jk, Jl, Jm, Jn, Jo, Jp, Jq, Jr, Js, Jt, Nat.reduceAdd]
  refine check_sp hlf hv (by omega) fun m1 e1 => ?_
  have hk1 := hk m1 e1
  unfold prE at hk1
  try simp (disch := first | omega | with_unfolding_all exact id rfl | with_unfolding_all exact Nat.le_of_ble_eq_true rfl | (simp only [Jd, Je, Jr, Js, Jt, Nat.reduceAdd, allOne, oneCell, Bool.and_self, Jc]; first | done | omega)) only [↓Qa, ↓Qb, ↓Qc, Qd, Qe, Qf, Qg, Qh, Qi, Qj, Qk, Ql, Qm, Qn, Qo, Qp, Qq, Qr, Qs, Qt, Qu, Qv, Qw, Qx, Qy, ptrTo, Qz, QA, QB, QC, QD, QE, QF, QG, QH, QI, QJ, QK, QL, QM, QN, QO, QP, QQ, QR, QS, QT, QU, QV, QW, QX, QY, QZ, Ja, Jb, Jc, Jd, Je, Jf, Jg, Jh, Ji, Jj, Jk, Jl, Jm, Jn, Jo, Jp, Jq, Jr, Js, Jt, Nat.reduceAdd]
  refine oIf_ndec (fun h => ?_) (fun h => ?_)
  · have h0 : chkD N (N - 1) l ≠ 0 := h
    rw [if_neg h0] at hk1; exact hk1
  · have h0 : chkD N (N - 1) l = 0 := h
    rw [if_pos h0] at hk1
    obtain ⟨a, w, rfl, rfl, ha1, ha8, hwl, hw⟩ := chkD_ok h0
    refine within_sp _ _ _ ?_
    by_cases hx : inI x 1 a
    · rw [if_pos hx] at hk1
      obtain ⟨q, rfl⟩ : ∃ q : Nat, x = q := ⟨x.toNat, by have := hx.1; omega⟩
      rw [Int.toNat_natCast, Int.toNat_natCast] at hk1
      try simp (disch := first | omega | with_unfolding_all exact id rfl | with_unfolding_all exact Nat.le_of_ble_eq_true rfl | (simp only [Jd, Je, Jr, Js, Jt, Nat.reduceAdd, allOne, oneCell, Bool.and_self, Jc]; first | done | omega)) only [decide_eq_true hx, ↓Qa, ↓Qb, ↓Qc, Qd, Qe, Qf, Qg, Qh, Qi, Qj, Qk, Ql, Qm, Qn, Qo, Qp, Qq, Qr, Qs, Qt, Qu, Qv, Qw, Qx, Qy, ptrTo, Qz, QA, QB, QC, QD, QE, QF, QG, QH, QI, QJ, QK, QL, QM, QN, QO, QP, QQ, QR, QS, QT, QU, QV, QW, QX, QY, QZ, Ja, Jb, Jc, Jd, Je, Jf, Jg, Jh, Ji, Jj, Jk, Jl, Jm, Jn, Jo, Jp, Jq, Jr, Js, Jt, Nat.reduceAdd]
      refine crowded_sp hlf ha8 (by have := hx.2; omega) (hv.mono e1) hl ?_
      try simp (disch := first | omega | with_unfolding_all exact id rfl | with_unfolding_all exact Nat.le_of_ble_eq_true rfl | (simp only [Jd, Je, Jr, Js, Jt, Nat.reduceAdd, allOne, oneCell, Bool.and_self, Jc]; first | done | omega)) only [↓Qa, ↓Qb, ↓Qc, Qd, Qe, Qf, Qg, Qh, Qi, Qj, Qk, Ql, Qm, Qn, Qo, Qp, Qq, Qr, Qs, Qt, Qu, Qv, Qw, Qx, Qy, ptrTo, Qz, QA, QB, QC, QD, QE, QF, QG, QH, QI, QJ, QK, QL, QM, QN, QO, QP, QQ, QR, QS, QT, QU, QV, QW, QX, QY, QZ, Ja, Jb, Jc, Jd, Je, Jf, Jg, Jh, Ji, Jj, Jk, Jl, Jm, Jn, Jo, Jp, Jq, Jr, Js, Jt, Nat.reduceAdd]
      cases hc : crd a (ci w) q with
      | true => rw [hc] at hk1; exact hk1
      | false => rw [hc] at hk1; exact hk1
    · rw [if_neg hx] at hk1
      try simp (disch := first | omega | with_unfolding_all exact id rfl | with_unfolding_all exact Nat.le_of_ble_eq_true rfl | (simp only [Jd, Je, Jr, Js, Jt, Nat.reduceAdd, allOne, oneCell, Bool.and_self, Jc]; first | done | omega)) only [decide_eq_false hx, ↓Qa, ↓Qb, ↓Qc, Qd, Qe, Qf, Qg, Qh, Qi, Qj, Qk, Ql, Qm, Qn, Qo, Qp, Qq, Qr, Qs, Qt, Qu, Qv, Qw, Qx, Qy, ptrTo, Qz, QA, QB, QC, QD, QE, QF, QG, QH, QI, QJ, QK, QL, QM, QN, QO, QP, QQ, QR, QS, QT, QU, QV, QW, QX, QY, QZ, Ja, Jb, Jc, Jd, Je, Jf, Jg, Jh, Ji, Jj, Jk, Jl, Jm, Jn, Jo, Jp, Jq, Jr, Js, Jt, Nat.reduceAdd]
      exact hk1
theorem against_sp {N : Int} {v : Value} {l : List Int} (hlf : 1000000 ≤ lf) (hL : L ≤ m.next) (hv : IL m v l) (hl : l.length < 100)
    (hk : ∀ m', Gt m m' → k (.tuple ⟨[.int .i64 (agV N l), .int .i64 (agE N l)]⟩) m' = some ()) : runT (tab lf) (n + 7) 26 [.int .i64 N, v] L m k = some () := by
  rw [r26]; dsimp only [S26, iofNat, inegSucc]
  try simp (disch := first | omega | with_unfolding_all exact id rfl | with_unfolding_all exact Nat.le_of_ble_eq_true rfl | (simp only [Jd, Je, Jr, Js, Jt, Nat.reduceAdd, allOne, oneCell, Bool.and_self, Jc]; first | done | omega)) only [↓Qa, ↓Qb, ↓Qc, Qd, Qe, Qf, Qg, Qh, Qi, Qj, Qk, Ql, Qm, Qn, Qo, Qp, Qq, Qr, Qs, Qt, Qu, Qv, Qw, Qx, Qy, ptrTo, Qz, QA, QB, QC, QD, QE, QF, QG, QH, QI, QJ, QK, QL, QM, QN, QO, QP, QQ, QR, QS, QT, QU, QV, QW, QX, QY, QZ, Ja, Jb, Jc, Jd, Je, Jf, Jg, Jh, Ji, Jj, Jk, Jl, Jm, Jn, Jo, Jp, Jq, Jr, Js, Jt, Nat.reduceAdd]
  refine check_sp hlf hv (by omega) fun m1 e1 => ?_
  unfold agV agE at hk
  have n1 := e1.next
  try simp (disch := first | omega | with_unfolding_all exact id rfl | with_unfolding_all exact Nat.le_of_ble_eq_true rfl | (simp only [Jd, Je, Jr, Js, Jt, Nat.reduceAdd, allOne, oneCell, Bool.and_self, Jc]; first | done | omega)) only [↓Qa, ↓Qb, ↓Qc, Qd, Qe, Qf, Qg, Qh, Qi, Qj, Qk, Ql, Qm, Qn, Qo, Qp, Qq, Qr, Qs, Qt, Qu, Qv, Qw, Qx, Qy, ptrTo, Qz, QA, QB, QC, QD, QE, QF, QG, QH, QI, QJ, QK, QL, QM, QN, QO, QP, QQ, QR, QS, QT, QU, QV, QW, QX, QY, QZ, Ja, Jb, Jc, Jd, Je, Jf, Jg, Jh, Ji, Jj, Jk, Jl, Jm, Jn, Jo, Jp, Jq, Jr, Js, Jt, Nat.reduceAdd]
  refine oIf_ndec (fun h => ?_) (fun h => ?_)
  · have h0 : chkD N (N - 1) l ≠ 0 := h
    rw [if_neg h0, if_neg h0] at hk; exact hk m1 e1
  · have h0 : chkD N (N - 1) l = 0 := h
    rw [if_pos h0, if_pos h0] at hk
    obtain ⟨a, w, rfl, rfl, ha1, ha8, hwl, hw⟩ := chkD_ok h0
    rw [Int.toNat_natCast] at hk
    have hcl := ci_length w
    have hv1 := hv.mono e1
    obtain ⟨p, cc, hvx⟩ := hv1.ex
    rw [r56]; dsimp only [S56, iofNat, inegSucc]
    have hab : abox m1 v = some (ptrTo m1.next, m1.push ⟨1, [v], none⟩) := by rw [hvx]; exact abox_e _ _
    rw [uc_e, un0_e, hab, oRes_e]
    have e2 := Mem.gt_push m1 ⟨1, [v], none⟩
    have q2 : (m1.push ⟨1, [v], none⟩).rd m1.next = some ⟨1, [v], none⟩ := Mem.rd_push _ _
    generalize m1.push ⟨1, [v], none⟩ = m2 at e2 q2 ⊢
    have n2 := e2.next
    refine sorted_sp hlf (by omega) q2 (hv1.mono e2) hl fun u m3 e3 hu => ?_
    have n3 := e3.next
    have hsl := isortI_length (ci w)
    refine reverse_sp hlf (hu.le (show m2.next ≤ m2.next by omega)) (by omega) e3 (Nat.le_refl _) (by omega) fun m4 e4 hu4 n4 => ?_
    obtain ⟨hdp, hdd⟩ := desc_of_sorted (ci w)
    have hdl := hdp.length_eq
    have hlt : ∀ x ∈ ci w, x < (a : Int) := fun x hx => by
      obtain ⟨y, hy, rfl⟩ := List.mem_map.1 hx
      have := hw y hy
      show (y : Int) < a
      omega
    have hge : ∀ x ∈ ci w, (0 : Int) ≤ x := fun x hx => by
      obtain ⟨y, hy, rfl⟩ := List.mem_map.1 hx
      show (0 : Int) ≤ (y : Int)
      omega
    have hmem : ∀ x, x ∈ (isortI (ci w)).reverse → x ∈ ci w := fun x hx => hdp.mem_iff.1 hx
    generalize (isortI (ci w)).reverse = d at hu4 hdp hdd hdl hmem ⊢
    try simp (disch := first | omega | with_unfolding_all exact id rfl | with_unfolding_all exact Nat.le_of_ble_eq_true rfl | (simp only [Jd, Je, Jr, Js, Jt, Nat.reduceAdd, allOne, oneCell, Bool.and_self, Jc]; first | done | omega)) only [hu4.ln, ↓Qa, ↓Qb, ↓Qc, Qd, Qe, Qf, Qg, Qh, Qi, Qj, Qk, Ql, Qm, Qn, Qo, Qp, Qq, Qr, Qs, Qt, Qu, Qv, Qw, Qx, Qy, ptrTo, Qz, QA, QB, QC, QD, QE, QF, QG, QH, QI, QJ, QK, QL, QM, QN, QO, QP, QQ, QR, QS, QT, QU, QV, QW, QX, QY, QZ, Ja, Jb, Jc, Jd, Je, Jf, Jg, Jh, Ji, Jj, Jk, Jl, Jm, Jn, Jo, Jp, Jq, Jr, Js, Jt, Nat.reduceAdd]
    have e04 := (e1.trans e2).trans e4
    refine loop_up d.length (fun i vs m' => vs = [.int .i64 (i : Int)] ∧ m' = m4 ∧ ∀ j (hj : j < d.length), j < i → (j : Int) < (a : Int) - d[j]) (by omega) ⟨rfl, rfl, fun j hj h => by omega⟩ ?_
    rintro i vs m' hi ⟨rfl, rfl, hno⟩ self hself
    try simp (disch := first | omega | with_unfolding_all exact id rfl | with_unfolding_all exact Nat.le_of_ble_eq_true rfl | (simp only [Jd, Je, Jr, Js, Jt, Nat.reduceAdd, allOne, oneCell, Bool.and_self, Jc]; first | done | omega)) only [↓Qa, ↓Qb, ↓Qc, Qd, Qe, Qf, Qg, Qh, Qi, Qj, Qk, Ql, Qm, Qn, Qo, Qp, Qq, Qr, Qs, Qt, Qu, Qv, Qw, Qx, Qy, ptrTo, Qz, QA, QB, QC, QD, QE, QF, QG, QH, QI, QJ, QK, QL, QM, QN, QO, QP, QQ, QR, QS, QT, QU, QV, QW, QX, QY, QZ, Ja, Jb, Jc, Jd, Je, Jf, Jg, Jh, Ji, Jj, Jk, Jl, Jm, Jn, Jo, Jp, Jq, Jr, Js, Jt, Nat.reduceAdd]
    refine oIf_dec (fun h1 => ?_) (fun h1 => ?_)
    · have hil : i < d.length := by omega
      have hd1 := hlt _ (hmem _ (List.getElem_mem hil))
      have hd2 := hge _ (hmem _ (List.getElem_mem hil))
      try simp (disch := first | omega | with_unfolding_all exact id rfl | with_unfolding_all exact Nat.le_of_ble_eq_true rfl | (simp only [Jd, Je, Jr, Js, Jt, Nat.reduceAdd, allOne, oneCell, Bool.and_self, Jc]; first | done | omega)) only [hu4.il.ia hil, hu4.il.ld hil, ↓Qa, ↓Qb, ↓Qc, Qd, Qe, Qf, Qg, Qh, Qi, Qj, Qk, Ql, Qm, Qn, Qo, Qp, Qq, Qr, Qs, Qt, Qu, Qv, Qw, Qx, Qy, ptrTo, Qz, QA, QB, QC, QD, QE, QF, QG, QH, QI, QJ, QK, QL, QM, QN, QO, QP, QQ, QR, QS, QT, QU, QV, QW, QX, QY, QZ, Ja, Jb, Jc, Jd, Je, Jf, Jg, Jh, Ji, Jj, Jk, Jl, Jm, Jn, Jo, Jp, Jq, Jr, Js, Jt, Nat.reduceAdd]
      rw [oInt_sub ⟨by omega, by omega⟩]
      try simp (disch := first | omega | with_unfolding_all exact id rfl | with_unfolding_all exact Nat.le_of_ble_eq_true rfl | (simp only [Jd, Je, Jr, Js, Jt, Nat.reduceAdd, allOne, oneCell, Bool.and_self, Jc]; first | done | omega)) only [↓Qa, ↓Qb, ↓Qc, Qd, Qe, Qf, Qg, Qh, Qi, Qj, Qk, Ql, Qm, Qn, Qo, Qp, Qq, Qr, Qs, Qt, Qu, Qv, Qw, Qx, Qy, ptrTo, Qz, QA, QB, QC, QD, QE, QF, QG, QH, QI, QJ, QK, QL, QM, QN, QO, QP, QQ, QR, QS, QT, QU, QV, QW, QX, QY, QZ, Ja, Jb, Jc, Jd, Je, Jf, Jg, Jh, Ji, Jj, Jk, Jl, Jm, Jn, Jo, Jp, Jq, Jr, Js, Jt, Nat.reduceAdd]
      refine oIf_dec (fun h2 => ?_) (fun h2 => ?_)
      · obtain ⟨g1, g2⟩ := agK_first hdp hdd hlt (by omega) hil h2 hno
        rw [oInt_sub ⟨by omega, by omega⟩, g2]
        have := hk _ e04
        rw [g1] at this
        exact this
      · rw [oInt_add ⟨by omega, by omega⟩]
        refine hself hil _ _ ⟨rfl, rfl, fun j hj hji => ?_⟩
        by_cases hje : j = i
        · subst hje; omega
        · exact hno j hj (by omega)
    · have hnone := agK_none hdp hdd fun j hj => hno j hj (by omega)
      have := hk _ e04
      rw [hnone] at this
      exact this
end
end Go.Vit
