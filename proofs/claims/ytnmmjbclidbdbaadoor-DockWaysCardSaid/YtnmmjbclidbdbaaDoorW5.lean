/- Walks: Way, Lucky, Next, both ways. -/
import Derived.Test.YtnmmjbclidbdbaaDoorW4
set_option linter.unusedSimpArgs false
set_option linter.unusedVariables false
set_option maxRecDepth 20000
namespace Go.Vit
open Go Go.Proofs
attribute [local irreducible] runT loopS
/-- The error of bays that are taken. -/
def difL (N : Int) : List Int → List Int → Int
  | _, [] => 0
  | acc, x :: l => if inI x 0 (N - 1) then (if x ∈ acc then 6 else difL N (acc ++ [x]) l) else 2
def difX (N : Int) (l : List Int) : Int := if inI N 1 8 then difL N [] l else 1
theorem difL_step {N : Int} {l : List Int} {i : Nat} (h : i < l.length) : difL N (l.take i) (l.drop i) = if inI l[i] 0 (N - 1) then (if l[i] ∈ l.take i then 6 else difL N (l.take (i + 1)) (l.drop (i + 1))) else 2 := by
  rw [List.drop_eq_getElem_cons h]
  conv => lhs; unfold difL
  rw [List.take_add_one, List.getElem?_eq_getElem h]
  rfl
def nxE (N : Int) (l : List Int) (x : Int) : Int := if difX N l = 0 then (if inI x 0 (N - 1) then (if bayOf N.toNat l x.toNat = -1 then 12 else 0) else 2) else difX N l
def nxV (N : Int) (l : List Int) (x : Int) : Int := if nxE N l x = 0 then bayOf N.toNat l x.toNat else 0
theorem BitsOf.putI {n T b : Nat} {acc : List Int} (h : BitsOf n T acc) (hb : b < 8) : BitsOf n (T ||| 2 ^ b) (acc ++ [(b : Int)]) := h.put hb
section
variable {lf n L : Nat} {m : Mem} {k : Value → Mem → Option Unit}
theorem way_sp {N : Int} {v : Value} {l : List Int} (hlf : 1000000 ≤ lf) (hL : L ≤ m.next) (hT : TabOk mTab m) (hv : IL m v l) (hl : l.length < 1000000)
    (hk : ∀ m', Gt m m' → k (.tuple ⟨[.int .i64 (wayX N l), .int .i64 (chkD N (N - 1) l)]⟩) m' = some ()) :
    runT (tab lf) (n + 8) 23 [.int .i64 N, v] L m k = some () := by
  rw [r23]; dsimp only [S23, iofNat, inegSucc]
  try simp (disch := first | omega | with_unfolding_all exact id rfl | with_unfolding_all exact Nat.le_of_ble_eq_true rfl | (simp only [Jd, Je, Jr, Js, Jt, Nat.reduceAdd, allOne, oneCell, Bool.and_self, Jc]; first | done | omega)) only [↓Qa, ↓Qb, ↓Qc, Qd, Qe, Qf, Qg, Qh, Qi, Qj, Qk, Ql, Qm, Qn, Qo, Qp, Qq, Qr, Qs, Qt, Qu, Qv, Qw, Qx, Qy, ptrTo, Qz, QA, QB, QC, QD, QE, QF, QG, QH, QI, QJ, QK, QL, QM, QN, QO, QP, QQ, QR, QS, QT, QU, QV, QW, QX, QY, QZ, Ja, Jb, Jc, Jd, Je, Jf, Jg, Jh, Ji, Jj, Jk, Jl, Jm, Jn, Jo, Jp, Jq, Jr, Js, Jt, Nat.reduceAdd]
  refine comeAll_sp hlf hL hT hv hl (fun h m1 e1 => ?_) ?_
  · try simp (disch := first | omega | with_unfolding_all exact id rfl | with_unfolding_all exact Nat.le_of_ble_eq_true rfl | (simp only [Jd, Je, Jr, Js, Jt, Nat.reduceAdd, allOne, oneCell, Bool.and_self, Jc]; first | done | omega)) only [↓Qa, ↓Qb, ↓Qc, Qd, Qe, Qf, Qg, Qh, Qi, Qj, Qk, Ql, Qm, Qn, Qo, Qp, Qq, Qr, Qs, Qt, Qu, Qv, Qw, Qx, Qy, ptrTo, Qz, QA, QB, QC, QD, QE, QF, QG, QH, QI, QJ, QK, QL, QM, QN, QO, QP, QQ, QR, QS, QT, QU, QV, QW, QX, QY, QZ, Ja, Jb, Jc, Jd, Je, Jf, Jg, Jh, Ji, Jj, Jk, Jl, Jm, Jn, Jo, Jp, Jq, Jr, Js, Jt, Nat.reduceAdd]
    refine loop_up 0 (fun i vs m' => vs = [.int .i64 0, .int .i64 0] ∧ m' = m1) (by omega) ⟨rfl, rfl⟩ ?_
    rintro i vs m' hi ⟨rfl, rfl⟩ self hself
    try simp (disch := first | omega | with_unfolding_all exact id rfl | with_unfolding_all exact Nat.le_of_ble_eq_true rfl | (simp only [Jd, Je, Jr, Js, Jt, Nat.reduceAdd, allOne, oneCell, Bool.and_self, Jc]; first | done | omega)) only [↓Qa, ↓Qb, ↓Qc, Qd, Qe, Qf, Qg, Qh, Qi, Qj, Qk, Ql, Qm, Qn, Qo, Qp, Qq, Qr, Qs, Qt, Qu, Qv, Qw, Qx, Qy, ptrTo, Qz, QA, QB, QC, QD, QE, QF, QG, QH, QI, QJ, QK, QL, QM, QN, QO, QP, QQ, QR, QS, QT, QU, QV, QW, QX, QY, QZ, Ja, Jb, Jc, Jd, Je, Jf, Jg, Jh, Ji, Jj, Jk, Jl, Jm, Jn, Jo, Jp, Jq, Jr, Js, Jt, Nat.reduceAdd]
    have := hk m' e1
    unfold wayX at this
    rw [if_neg h] at this
    exact this
  · rintro a w rfl rfl ha1 ha8 hwl hw h0 u m1 e1 hu
    unfold wayX at hk
    rw [if_pos h0, pkX_yes h0, h0, nnl_ci] at hk
    have hul := fates_len a w
    have hpl := parkL_len a w
    have e1n := e1.next
    have h64 := mul_le64 (a := a) (b := w.length) ha8 (by omega)
    try simp (disch := first | omega | with_unfolding_all exact id rfl | with_unfolding_all exact Nat.le_of_ble_eq_true rfl | (simp only [Jd, Je, Jr, Js, Jt, Nat.reduceAdd, allOne, oneCell, Bool.and_self, Jc]; first | done | omega)) only [hu.sl.ln, ↓Qa, ↓Qb, ↓Qc, Qd, Qe, Qf, Qg, Qh, Qi, Qj, Qk, Ql, Qm, Qn, Qo, Qp, Qq, Qr, Qs, Qt, Qu, Qv, Qw, Qx, Qy, ptrTo, Qz, QA, QB, QC, QD, QE, QF, QG, QH, QI, QJ, QK, QL, QM, QN, QO, QP, QQ, QR, QS, QT, QU, QV, QW, QX, QY, QZ, Ja, Jb, Jc, Jd, Je, Jf, Jg, Jh, Ji, Jj, Jk, Jl, Jm, Jn, Jo, Jp, Jq, Jr, Js, Jt, Nat.reduceAdd]
    rw [hul]
    refine loop_up w.length (fun i vs m' => vs = [.int .i64 (zsum wayF ((parkL a w).take i) (w.take i)), .int .i64 (i : Int)] ∧ Gt m1 m') (by omega) ⟨rfl, Gt.refl _⟩ ?_
    rintro i vs m2 hi ⟨rfl, e2⟩ self hself
    have e2n := e2.next
    try simp (disch := first | omega | with_unfolding_all exact id rfl | with_unfolding_all exact Nat.le_of_ble_eq_true rfl | (simp only [Jd, Je, Jr, Js, Jt, Nat.reduceAdd, allOne, oneCell, Bool.and_self, Jc]; first | done | omega)) only [↓Qa, ↓Qb, ↓Qc, Qd, Qe, Qf, Qg, Qh, Qi, Qj, Qk, Ql, Qm, Qn, Qo, Qp, Qq, Qr, Qs, Qt, Qu, Qv, Qw, Qx, Qy, ptrTo, Qz, QA, QB, QC, QD, QE, QF, QG, QH, QI, QJ, QK, QL, QM, QN, QO, QP, QQ, QR, QS, QT, QU, QV, QW, QX, QY, QZ, Ja, Jb, Jc, Jd, Je, Jf, Jg, Jh, Ji, Jj, Jk, Jl, Jm, Jn, Jo, Jp, Jq, Jr, Js, Jt, Nat.reduceAdd]
    refine oIf_dec (fun h => ?_) (fun h => ?_)
    · have hil : i < w.length := by omega
      have hu2 : Sl 1 m2 u (fates a w).length (fates a w) := hu.sl.mono e2
      obtain ⟨p, hp, hpb⟩ := parkL_bd (n := a) hil
      have hfg := fates_get (n := a) hil (by omega)
      have hpe : (parkL a w)[i]'(by omega) = p := by rw [List.getElem?_eq_getElem (by omega)] at hp; exact Option.some.inj hp
      rw [hpe] at hfg
      have hb1 := zip_bd (w := w) (wayF_bd a) i
      have hb2 := zip_bd (w := w) (wayF_bd a) (i + 1)
      have hz := zsum_take (f := wayF) hp hil
      rw [hz] at hself hb2
      unfold wayF at hself hb2
      try simp (disch := first | omega | with_unfolding_all exact id rfl | with_unfolding_all exact Nat.le_of_ble_eq_true rfl | (simp only [Jd, Je, Jr, Js, Jt, Nat.reduceAdd, allOne, oneCell, Bool.and_self, Jc]; first | done | omega)) only [hu2.ia (show i < (fates a w).length by omega), hu2.ld (show i < (fates a w).length by omega) hfg, ↓Qa, ↓Qb, ↓Qc, Qd, Qe, Qf, Qg, Qh, Qi, Qj, Qk, Ql, Qm, Qn, Qo, Qp, Qq, Qr, Qs, Qt, Qu, Qv, Qw, Qx, Qy, ptrTo, Qz, QA, QB, QC, QD, QE, QF, QG, QH, QI, QJ, QK, QL, QM, QN, QO, QP, QQ, QR, QS, QT, QU, QV, QW, QX, QY, QZ, Ja, Jb, Jc, Jd, Je, Jf, Jg, Jh, Ji, Jj, Jk, Jl, Jm, Jn, Jo, Jp, Jq, Jr, Js, Jt, Nat.reduceAdd]
      unfold fV
      by_cases hp1 : p = -1
      · rw [if_pos hp1] at hself hb2
        rw [if_pos hp1]
        try simp (disch := first | omega | with_unfolding_all exact id rfl | with_unfolding_all exact Nat.le_of_ble_eq_true rfl | (simp only [Jd, Je, Jr, Js, Jt, Nat.reduceAdd, allOne, oneCell, Bool.and_self, Jc]; first | done | omega)) only [as70_le, ↓Qa, ↓Qb, ↓Qc, Qd, Qe, Qf, Qg, Qh, Qi, Qj, Qk, Ql, Qm, Qn, Qo, Qp, Qq, Qr, Qs, Qt, Qu, Qv, Qw, Qx, Qy, ptrTo, Qz, QA, QB, QC, QD, QE, QF, QG, QH, QI, QJ, QK, QL, QM, QN, QO, QP, QQ, QR, QS, QT, QU, QV, QW, QX, QY, QZ, Ja, Jb, Jc, Jd, Je, Jf, Jg, Jh, Ji, Jj, Jk, Jl, Jm, Jn, Jo, Jp, Jq, Jr, Js, Jt, Nat.reduceAdd]
        rw [oInt_add ⟨by omega, by omega⟩]
        refine hself hil _ _ ⟨?_, e2.trans (Mem.put_gt (Mem.gt_push _ _) _ (by omega))⟩
        rw [Int.add_zero]; rfl
      · rw [if_neg hp1] at hself hb2
        rw [if_neg hp1]
        try simp (disch := first | omega | with_unfolding_all exact id rfl | with_unfolding_all exact Nat.le_of_ble_eq_true rfl | (simp only [Jd, Je, Jr, Js, Jt, Nat.reduceAdd, allOne, oneCell, Bool.and_self, Jc]; first | done | omega)) only [as70_st, ↓Qa, ↓Qb, ↓Qc, Qd, Qe, Qf, Qg, Qh, Qi, Qj, Qk, Ql, Qm, Qn, Qo, Qp, Qq, Qr, Qs, Qt, Qu, Qv, Qw, Qx, Qy, ptrTo, Qz, QA, QB, QC, QD, QE, QF, QG, QH, QI, QJ, QK, QL, QM, QN, QO, QP, QQ, QR, QS, QT, QU, QV, QW, QX, QY, QZ, Ja, Jb, Jc, Jd, Je, Jf, Jg, Jh, Ji, Jj, Jk, Jl, Jm, Jn, Jo, Jp, Jq, Jr, Js, Jt, Nat.reduceAdd]
        rw [oInt_add ⟨by omega, by omega⟩, oInt_add ⟨by omega, by omega⟩]
        exact hself hil _ _ ⟨rfl, e2.trans (Mem.put_gt (Mem.gt_push _ _) _ (by omega))⟩
    · have hiw : i = w.length := by omega
      subst hiw
      rw [List.take_of_length_le (by rw [parkL_len]; omega), List.take_length]
      exact hk m2 (e1.trans e2)
theorem rway_sp {N : Int} {v : Value} {l : List Int} (hlf : 1000000 ≤ lf) (hL : L ≤ m.next) (hv : IL m v l) (hl : l.length < 1000000)
    (hk : ∀ m', Gt m m' → k (.tuple ⟨[.int .i64 (wayX N l), .int .i64 (chkD N (N - 1) l)]⟩) m' = some ()) :
    runT (tab lf) (n + 5) 24 [.int .i64 N, v] L m k = some () := by
  rw [r24]; dsimp only [S24, iofNat, inegSucc]
  try simp (disch := first | omega | with_unfolding_all exact id rfl | with_unfolding_all exact Nat.le_of_ble_eq_true rfl | (simp only [Jd, Je, Jr, Js, Jt, Nat.reduceAdd, allOne, oneCell, Bool.and_self, Jc]; first | done | omega)) only [↓Qa, ↓Qb, ↓Qc, Qd, Qe, Qf, Qg, Qh, Qi, Qj, Qk, Ql, Qm, Qn, Qo, Qp, Qq, Qr, Qs, Qt, Qu, Qv, Qw, Qx, Qy, ptrTo, Qz, QA, QB, QC, QD, QE, QF, QG, QH, QI, QJ, QK, QL, QM, QN, QO, QP, QQ, QR, QS, QT, QU, QV, QW, QX, QY, QZ, Ja, Jb, Jc, Jd, Je, Jf, Jg, Jh, Ji, Jj, Jk, Jl, Jm, Jn, Jo, Jp, Jq, Jr, Js, Jt, Nat.reduceAdd]
  refine rcheck_sp hlf hv hl ?_
  try simp (disch := first | omega | with_unfolding_all exact id rfl | with_unfolding_all exact Nat.le_of_ble_eq_true rfl | (simp only [Jd, Je, Jr, Js, Jt, Nat.reduceAdd, allOne, oneCell, Bool.and_self, Jc]; first | done | omega)) only [↓Qa, ↓Qb, ↓Qc, Qd, Qe, Qf, Qg, Qh, Qi, Qj, Qk, Ql, Qm, Qn, Qo, Qp, Qq, Qr, Qs, Qt, Qu, Qv, Qw, Qx, Qy, ptrTo, Qz, QA, QB, QC, QD, QE, QF, QG, QH, QI, QJ, QK, QL, QM, QN, QO, QP, QQ, QR, QS, QT, QU, QV, QW, QX, QY, QZ, Ja, Jb, Jc, Jd, Je, Jf, Jg, Jh, Ji, Jj, Jk, Jl, Jm, Jn, Jo, Jp, Jq, Jr, Js, Jt, Nat.reduceAdd]
  refine oIf_ndec (fun h => ?_) (fun h => ?_)
  · have := hk m (Gt.refl _)
    unfold wayX at this
    rw [if_neg h] at this
    exact this
  · have h0 : chkD N (N - 1) l = 0 := h
    obtain ⟨a, w, rfl, rfl, ha1, ha8, hwl, hw⟩ := chkD_ok h0
    unfold wayX at hk
    rw [if_pos h0, pkX_yes h0, h0, nnl_ci] at hk
    have hpl := parkL_len a w
    have h64 := mul_le64 (a := a) (b := w.length) ha8 (by omega)
    refine rpark_sp hlf hL ha8 hwl hw hv fun u m1 e1 hu => ?_
    have hv1 : IN m1 v w := IL.mono hv e1
    refine loop_up w.length (fun i vs m' => vs = [.int .i64 (zsum wayF ((parkL a w).take i) (w.take i)), .int .i64 (i : Int)] ∧ m' = m1) (by omega) ⟨rfl, rfl⟩ ?_
    rintro i vs m2 hi ⟨rfl, rfl⟩ self hself
    try simp (disch := first | omega | with_unfolding_all exact id rfl | with_unfolding_all exact Nat.le_of_ble_eq_true rfl | (simp only [Jd, Je, Jr, Js, Jt, Nat.reduceAdd, allOne, oneCell, Bool.and_self, Jc]; first | done | omega)) only [hu.ln, ↓Qa, ↓Qb, ↓Qc, Qd, Qe, Qf, Qg, Qh, Qi, Qj, Qk, Ql, Qm, Qn, Qo, Qp, Qq, Qr, Qs, Qt, Qu, Qv, Qw, Qx, Qy, ptrTo, Qz, QA, QB, QC, QD, QE, QF, QG, QH, QI, QJ, QK, QL, QM, QN, QO, QP, QQ, QR, QS, QT, QU, QV, QW, QX, QY, QZ, Ja, Jb, Jc, Jd, Je, Jf, Jg, Jh, Ji, Jj, Jk, Jl, Jm, Jn, Jo, Jp, Jq, Jr, Js, Jt, Nat.reduceAdd]
    rw [hpl]
    refine oIf_dec (fun h => ?_) (fun h => ?_)
    · have hil : i < w.length := by omega
      obtain ⟨p, hp, hpb⟩ := parkL_bd (n := a) hil
      have hpe : (parkL a w)[i]'(by omega) = p := by rw [List.getElem?_eq_getElem (by omega)] at hp; exact Option.some.inj hp
      have hb1 := zip_bd (w := w) (wayF_bd a) i
      have hb2 := zip_bd (w := w) (wayF_bd a) (i + 1)
      have hz := zsum_take (f := wayF) hp hil
      rw [hz] at hself hb2
      unfold wayF at hself hb2
      try simp (disch := first | omega | with_unfolding_all exact id rfl | with_unfolding_all exact Nat.le_of_ble_eq_true rfl | (simp only [Jd, Je, Jr, Js, Jt, Nat.reduceAdd, allOne, oneCell, Bool.and_self, Jc]; first | done | omega)) only [hu.il.ia (show i < (parkL a w).length by omega), hu.il.ld (show i < (parkL a w).length by omega), ↓Qa, ↓Qb, ↓Qc, Qd, Qe, Qf, Qg, Qh, Qi, Qj, Qk, Ql, Qm, Qn, Qo, Qp, Qq, Qr, Qs, Qt, Qu, Qv, Qw, Qx, Qy, ptrTo, Qz, QA, QB, QC, QD, QE, QF, QG, QH, QI, QJ, QK, QL, QM, QN, QO, QP, QQ, QR, QS, QT, QU, QV, QW, QX, QY, QZ, Ja, Jb, Jc, Jd, Je, Jf, Jg, Jh, Ji, Jj, Jk, Jl, Jm, Jn, Jo, Jp, Jq, Jr, Js, Jt, Nat.reduceAdd]
      rw [hpe]
      by_cases hp1 : p = -1
      · rw [if_pos hp1] at hself hb2
        rw [decide_eq_false (by omega), oIf_f]
        rw [oInt_add ⟨by omega, by omega⟩]
        refine hself hil _ _ ⟨?_, rfl⟩
        rw [Int.add_zero]; rfl
      · rw [if_neg hp1] at hself hb2
        rw [decide_eq_true (by omega), oIf_t]
        try simp (disch := first | omega | with_unfolding_all exact id rfl | with_unfolding_all exact Nat.le_of_ble_eq_true rfl | (simp only [Jd, Je, Jr, Js, Jt, Nat.reduceAdd, allOne, oneCell, Bool.and_self, Jc]; first | done | omega)) only [hv1.ia hil, hv1.ld hil, ↓Qa, ↓Qb, ↓Qc, Qd, Qe, Qf, Qg, Qh, Qi, Qj, Qk, Ql, Qm, Qn, Qo, Qp, Qq, Qr, Qs, Qt, Qu, Qv, Qw, Qx, Qy, ptrTo, Qz, QA, QB, QC, QD, QE, QF, QG, QH, QI, QJ, QK, QL, QM, QN, QO, QP, QQ, QR, QS, QT, QU, QV, QW, QX, QY, QZ, Ja, Jb, Jc, Jd, Je, Jf, Jg, Jh, Ji, Jj, Jk, Jl, Jm, Jn, Jo, Jp, Jq, Jr, Js, Jt, Nat.reduceAdd]
        rw [oInt_sub ⟨by omega, by omega⟩, oInt_add ⟨by omega, by omega⟩, oInt_add ⟨by omega, by omega⟩]
        exact hself hil _ _ ⟨rfl, rfl⟩
    · have hiw : i = w.length := by omega
      subst hiw
      rw [List.take_of_length_le (by rw [parkL_len]; omega), List.take_length]
      exact hk _ e1
theorem lucky_sp {N : Int} {v : Value} {l : List Int} (hlf : 1000000 ≤ lf) (hL : L ≤ m.next) (hT : TabOk mTab m) (hv : IL m v l) (hl : l.length < 1000000)
    (hk : ∀ m', Gt m m' → k (.tuple ⟨[.int .i64 (lkX N l), .int .i64 (chkD N (N - 1) l)]⟩) m' = some ()) :
    runT (tab lf) (n + 8) 25 [.int .i64 N, v] L m k = some () := by
  rw [r25]; dsimp only [S25, iofNat, inegSucc]
  try simp (disch := first | omega | with_unfolding_all exact id rfl | with_unfolding_all exact Nat.le_of_ble_eq_true rfl | (simp only [Jd, Je, Jr, Js, Jt, Nat.reduceAdd, allOne, oneCell, Bool.and_self, Jc]; first | done | omega)) only [↓Qa, ↓Qb, ↓Qc, Qd, Qe, Qf, Qg, Qh, Qi, Qj, Qk, Ql, Qm, Qn, Qo, Qp, Qq, Qr, Qs, Qt, Qu, Qv, Qw, Qx, Qy, ptrTo, Qz, QA, QB, QC, QD, QE, QF, QG, QH, QI, QJ, QK, QL, QM, QN, QO, QP, QQ, QR, QS, QT, QU, QV, QW, QX, QY, QZ, Ja, Jb, Jc, Jd, Je, Jf, Jg, Jh, Ji, Jj, Jk, Jl, Jm, Jn, Jo, Jp, Jq, Jr, Js, Jt, Nat.reduceAdd]
  refine comeAll_sp hlf hL hT hv hl (fun h m1 e1 => ?_) ?_
  · try simp (disch := first | omega | with_unfolding_all exact id rfl | with_unfolding_all exact Nat.le_of_ble_eq_true rfl | (simp only [Jd, Je, Jr, Js, Jt, Nat.reduceAdd, allOne, oneCell, Bool.and_self, Jc]; first | done | omega)) only [↓Qa, ↓Qb, ↓Qc, Qd, Qe, Qf, Qg, Qh, Qi, Qj, Qk, Ql, Qm, Qn, Qo, Qp, Qq, Qr, Qs, Qt, Qu, Qv, Qw, Qx, Qy, ptrTo, Qz, QA, QB, QC, QD, QE, QF, QG, QH, QI, QJ, QK, QL, QM, QN, QO, QP, QQ, QR, QS, QT, QU, QV, QW, QX, QY, QZ, Ja, Jb, Jc, Jd, Je, Jf, Jg, Jh, Ji, Jj, Jk, Jl, Jm, Jn, Jo, Jp, Jq, Jr, Js, Jt, Nat.reduceAdd]
    refine loop_up 0 (fun i vs m' => vs = [.int .i64 0, .int .i64 0] ∧ m' = m1) (by omega) ⟨rfl, rfl⟩ ?_
    rintro i vs m' hi ⟨rfl, rfl⟩ self hself
    try simp (disch := first | omega | with_unfolding_all exact id rfl | with_unfolding_all exact Nat.le_of_ble_eq_true rfl | (simp only [Jd, Je, Jr, Js, Jt, Nat.reduceAdd, allOne, oneCell, Bool.and_self, Jc]; first | done | omega)) only [↓Qa, ↓Qb, ↓Qc, Qd, Qe, Qf, Qg, Qh, Qi, Qj, Qk, Ql, Qm, Qn, Qo, Qp, Qq, Qr, Qs, Qt, Qu, Qv, Qw, Qx, Qy, ptrTo, Qz, QA, QB, QC, QD, QE, QF, QG, QH, QI, QJ, QK, QL, QM, QN, QO, QP, QQ, QR, QS, QT, QU, QV, QW, QX, QY, QZ, Ja, Jb, Jc, Jd, Je, Jf, Jg, Jh, Ji, Jj, Jk, Jl, Jm, Jn, Jo, Jp, Jq, Jr, Js, Jt, Nat.reduceAdd]
    have := hk m' e1
    unfold lkX at this
    rw [if_neg h] at this
    exact this
  · rintro a w rfl rfl ha1 ha8 hwl hw h0 u m1 e1 hu
    unfold lkX at hk
    rw [if_pos h0, pkX_yes h0, h0, nnl_ci] at hk
    have hul := fates_len a w
    have hpl := parkL_len a w
    have e1n := e1.next
    have h64 := mul_le64 (a := a) (b := w.length) ha8 (by omega)
    try simp (disch := first | omega | with_unfolding_all exact id rfl | with_unfolding_all exact Nat.le_of_ble_eq_true rfl | (simp only [Jd, Je, Jr, Js, Jt, Nat.reduceAdd, allOne, oneCell, Bool.and_self, Jc]; first | done | omega)) only [hu.sl.ln, ↓Qa, ↓Qb, ↓Qc, Qd, Qe, Qf, Qg, Qh, Qi, Qj, Qk, Ql, Qm, Qn, Qo, Qp, Qq, Qr, Qs, Qt, Qu, Qv, Qw, Qx, Qy, ptrTo, Qz, QA, QB, QC, QD, QE, QF, QG, QH, QI, QJ, QK, QL, QM, QN, QO, QP, QQ, QR, QS, QT, QU, QV, QW, QX, QY, QZ, Ja, Jb, Jc, Jd, Je, Jf, Jg, Jh, Ji, Jj, Jk, Jl, Jm, Jn, Jo, Jp, Jq, Jr, Js, Jt, Nat.reduceAdd]
    rw [hul]
    refine loop_up w.length (fun i vs m' => vs = [.int .i64 (zsum luckF ((parkL a w).take i) (w.take i)), .int .i64 (i : Int)] ∧ Gt m1 m') (by omega) ⟨rfl, Gt.refl _⟩ ?_
    rintro i vs m2 hi ⟨rfl, e2⟩ self hself
    have e2n := e2.next
    try simp (disch := first | omega | with_unfolding_all exact id rfl | with_unfolding_all exact Nat.le_of_ble_eq_true rfl | (simp only [Jd, Je, Jr, Js, Jt, Nat.reduceAdd, allOne, oneCell, Bool.and_self, Jc]; first | done | omega)) only [↓Qa, ↓Qb, ↓Qc, Qd, Qe, Qf, Qg, Qh, Qi, Qj, Qk, Ql, Qm, Qn, Qo, Qp, Qq, Qr, Qs, Qt, Qu, Qv, Qw, Qx, Qy, ptrTo, Qz, QA, QB, QC, QD, QE, QF, QG, QH, QI, QJ, QK, QL, QM, QN, QO, QP, QQ, QR, QS, QT, QU, QV, QW, QX, QY, QZ, Ja, Jb, Jc, Jd, Je, Jf, Jg, Jh, Ji, Jj, Jk, Jl, Jm, Jn, Jo, Jp, Jq, Jr, Js, Jt, Nat.reduceAdd]
    refine oIf_dec (fun h => ?_) (fun h => ?_)
    · have hil : i < w.length := by omega
      have hu2 : Sl 1 m2 u (fates a w).length (fates a w) := hu.sl.mono e2
      obtain ⟨p, hp, hpb⟩ := parkL_bd (n := a) hil
      have hfg := fates_get (n := a) hil (by omega)
      have hpe : (parkL a w)[i]'(by omega) = p := by rw [List.getElem?_eq_getElem (by omega)] at hp; exact Option.some.inj hp
      rw [hpe] at hfg
      have hb1 := zip_bd (w := w) (luckF_bd ha1) i
      have hb2 := zip_bd (w := w) (luckF_bd ha1) (i + 1)
      have hz := zsum_take (f := luckF) hp hil
      rw [hz] at hself hb2
      unfold luckF at hself hb2
      try simp (disch := first | omega | with_unfolding_all exact id rfl | with_unfolding_all exact Nat.le_of_ble_eq_true rfl | (simp only [Jd, Je, Jr, Js, Jt, Nat.reduceAdd, allOne, oneCell, Bool.and_self, Jc]; first | done | omega)) only [hu2.ia (show i < (fates a w).length by omega), hu2.ld (show i < (fates a w).length by omega) hfg, ↓Qa, ↓Qb, ↓Qc, Qd, Qe, Qf, Qg, Qh, Qi, Qj, Qk, Ql, Qm, Qn, Qo, Qp, Qq, Qr, Qs, Qt, Qu, Qv, Qw, Qx, Qy, ptrTo, Qz, QA, QB, QC, QD, QE, QF, QG, QH, QI, QJ, QK, QL, QM, QN, QO, QP, QQ, QR, QS, QT, QU, QV, QW, QX, QY, QZ, Ja, Jb, Jc, Jd, Je, Jf, Jg, Jh, Ji, Jj, Jk, Jl, Jm, Jn, Jo, Jp, Jq, Jr, Js, Jt, Nat.reduceAdd]
      unfold fV
      by_cases hp1 : p = -1
      · rw [if_neg (by omega)] at hself hb2
        rw [if_pos hp1]
        try simp (disch := first | omega | with_unfolding_all exact id rfl | with_unfolding_all exact Nat.le_of_ble_eq_true rfl | (simp only [Jd, Je, Jr, Js, Jt, Nat.reduceAdd, allOne, oneCell, Bool.and_self, Jc]; first | done | omega)) only [as70_le, ↓Qa, ↓Qb, ↓Qc, Qd, Qe, Qf, Qg, Qh, Qi, Qj, Qk, Ql, Qm, Qn, Qo, Qp, Qq, Qr, Qs, Qt, Qu, Qv, Qw, Qx, Qy, ptrTo, Qz, QA, QB, QC, QD, QE, QF, QG, QH, QI, QJ, QK, QL, QM, QN, QO, QP, QQ, QR, QS, QT, QU, QV, QW, QX, QY, QZ, Ja, Jb, Jc, Jd, Je, Jf, Jg, Jh, Ji, Jj, Jk, Jl, Jm, Jn, Jo, Jp, Jq, Jr, Js, Jt, Nat.reduceAdd]
        rw [oInt_add ⟨by omega, by omega⟩]
        refine hself hil _ _ ⟨?_, e2⟩
        rw [Int.add_zero]; rfl
      · rw [if_neg hp1]
        try simp (disch := first | omega | with_unfolding_all exact id rfl | with_unfolding_all exact Nat.le_of_ble_eq_true rfl | (simp only [Jd, Je, Jr, Js, Jt, Nat.reduceAdd, allOne, oneCell, Bool.and_self, Jc]; first | done | omega)) only [as70_st, ↓Qa, ↓Qb, ↓Qc, Qd, Qe, Qf, Qg, Qh, Qi, Qj, Qk, Ql, Qm, Qn, Qo, Qp, Qq, Qr, Qs, Qt, Qu, Qv, Qw, Qx, Qy, ptrTo, Qz, QA, QB, QC, QD, QE, QF, QG, QH, QI, QJ, QK, QL, QM, QN, QO, QP, QQ, QR, QS, QT, QU, QV, QW, QX, QY, QZ, Ja, Jb, Jc, Jd, Je, Jf, Jg, Jh, Ji, Jj, Jk, Jl, Jm, Jn, Jo, Jp, Jq, Jr, Js, Jt, Nat.reduceAdd]
        refine oIf_dec (fun h2 => ?_) (fun h2 => ?_)
        · rw [if_pos (by omega)] at hself hb2
          rw [oInt_add ⟨by omega, by omega⟩, oInt_add ⟨by omega, by omega⟩]
          exact hself hil _ _ ⟨rfl, e2.trans (Mem.put_gt (Mem.gt_push _ _) _ (by omega))⟩
        · rw [if_neg (by omega)] at hself hb2
          rw [oInt_add ⟨by omega, by omega⟩]
          refine hself hil _ _ ⟨?_, e2.trans (Mem.put_gt (Mem.gt_push _ _) _ (by omega))⟩
          rw [Int.add_zero]; rfl
    · have hiw : i = w.length := by omega
      subst hiw
      rw [List.take_of_length_le (by rw [parkL_len]; omega), List.take_length]
      exact hk m2 (e1.trans e2)
theorem rlucky_sp {N : Int} {v : Value} {l : List Int} (hlf : 1000000 ≤ lf) (hL : L ≤ m.next) (hv : IL m v l) (hl : l.length < 1000000)
    (hk : ∀ m', Gt m m' → k (.tuple ⟨[.int .i64 (lkX N l), .int .i64 (chkD N (N - 1) l)]⟩) m' = some ()) :
    runT (tab lf) (n + 5) 26 [.int .i64 N, v] L m k = some () := by
  rw [r26]; dsimp only [S26, iofNat, inegSucc]
  try simp (disch := first | omega | with_unfolding_all exact id rfl | with_unfolding_all exact Nat.le_of_ble_eq_true rfl | (simp only [Jd, Je, Jr, Js, Jt, Nat.reduceAdd, allOne, oneCell, Bool.and_self, Jc]; first | done | omega)) only [↓Qa, ↓Qb, ↓Qc, Qd, Qe, Qf, Qg, Qh, Qi, Qj, Qk, Ql, Qm, Qn, Qo, Qp, Qq, Qr, Qs, Qt, Qu, Qv, Qw, Qx, Qy, ptrTo, Qz, QA, QB, QC, QD, QE, QF, QG, QH, QI, QJ, QK, QL, QM, QN, QO, QP, QQ, QR, QS, QT, QU, QV, QW, QX, QY, QZ, Ja, Jb, Jc, Jd, Je, Jf, Jg, Jh, Ji, Jj, Jk, Jl, Jm, Jn, Jo, Jp, Jq, Jr, Js, Jt, Nat.reduceAdd]
  refine rcheck_sp hlf hv hl ?_
  try simp (disch := first | omega | with_unfolding_all exact id rfl | with_unfolding_all exact Nat.le_of_ble_eq_true rfl | (simp only [Jd, Je, Jr, Js, Jt, Nat.reduceAdd, allOne, oneCell, Bool.and_self, Jc]; first | done | omega)) only [↓Qa, ↓Qb, ↓Qc, Qd, Qe, Qf, Qg, Qh, Qi, Qj, Qk, Ql, Qm, Qn, Qo, Qp, Qq, Qr, Qs, Qt, Qu, Qv, Qw, Qx, Qy, ptrTo, Qz, QA, QB, QC, QD, QE, QF, QG, QH, QI, QJ, QK, QL, QM, QN, QO, QP, QQ, QR, QS, QT, QU, QV, QW, QX, QY, QZ, Ja, Jb, Jc, Jd, Je, Jf, Jg, Jh, Ji, Jj, Jk, Jl, Jm, Jn, Jo, Jp, Jq, Jr, Js, Jt, Nat.reduceAdd]
  refine oIf_ndec (fun h => ?_) (fun h => ?_)
  · have := hk m (Gt.refl _)
    unfold lkX at this
    rw [if_neg h] at this
    exact this
  · have h0 : chkD N (N - 1) l = 0 := h
    obtain ⟨a, w, rfl, rfl, ha1, ha8, hwl, hw⟩ := chkD_ok h0
    unfold lkX at hk
    rw [if_pos h0, pkX_yes h0, h0, nnl_ci] at hk
    have hpl := parkL_len a w
    have h64 := mul_le64 (a := a) (b := w.length) ha8 (by omega)
    refine rpark_sp hlf hL ha8 hwl hw hv fun u m1 e1 hu => ?_
    have hv1 : IN m1 v w := IL.mono hv e1
    refine loop_up w.length (fun i vs m' => vs = [.int .i64 (zsum luckF ((parkL a w).take i) (w.take i)), .int .i64 (i : Int)] ∧ m' = m1) (by omega) ⟨rfl, rfl⟩ ?_
    rintro i vs m2 hi ⟨rfl, rfl⟩ self hself
    try simp (disch := first | omega | with_unfolding_all exact id rfl | with_unfolding_all exact Nat.le_of_ble_eq_true rfl | (simp only [Jd, Je, Jr, Js, Jt, Nat.reduceAdd, allOne, oneCell, Bool.and_self, Jc]; first | done | omega)) only [hu.ln, ↓Qa, ↓Qb, ↓Qc, Qd, Qe, Qf, Qg, Qh, Qi, Qj, Qk, Ql, Qm, Qn, Qo, Qp, Qq, Qr, Qs, Qt, Qu, Qv, Qw, Qx, Qy, ptrTo, Qz, QA, QB, QC, QD, QE, QF, QG, QH, QI, QJ, QK, QL, QM, QN, QO, QP, QQ, QR, QS, QT, QU, QV, QW, QX, QY, QZ, Ja, Jb, Jc, Jd, Je, Jf, Jg, Jh, Ji, Jj, Jk, Jl, Jm, Jn, Jo, Jp, Jq, Jr, Js, Jt, Nat.reduceAdd]
    rw [hpl]
    refine oIf_dec (fun h => ?_) (fun h => ?_)
    · have hil : i < w.length := by omega
      obtain ⟨p, hp, hpb⟩ := parkL_bd (n := a) hil
      have hpe : (parkL a w)[i]'(by omega) = p := by rw [List.getElem?_eq_getElem (by omega)] at hp; exact Option.some.inj hp
      have hb1 := zip_bd (w := w) (luckF_bd ha1) i
      have hb2 := zip_bd (w := w) (luckF_bd ha1) (i + 1)
      have hz := zsum_take (f := luckF) hp hil
      rw [hz] at hself hb2
      unfold luckF at hself hb2
      try simp (disch := first | omega | with_unfolding_all exact id rfl | with_unfolding_all exact Nat.le_of_ble_eq_true rfl | (simp only [Jd, Je, Jr, Js, Jt, Nat.reduceAdd, allOne, oneCell, Bool.and_self, Jc]; first | done | omega)) only [hu.il.ia (show i < (parkL a w).length by omega), hu.il.ld (show i < (parkL a w).length by omega), hv1.ia hil, hv1.ld hil, ↓Qa, ↓Qb, ↓Qc, Qd, Qe, Qf, Qg, Qh, Qi, Qj, Qk, Ql, Qm, Qn, Qo, Qp, Qq, Qr, Qs, Qt, Qu, Qv, Qw, Qx, Qy, ptrTo, Qz, QA, QB, QC, QD, QE, QF, QG, QH, QI, QJ, QK, QL, QM, QN, QO, QP, QQ, QR, QS, QT, QU, QV, QW, QX, QY, QZ, Ja, Jb, Jc, Jd, Je, Jf, Jg, Jh, Ji, Jj, Jk, Jl, Jm, Jn, Jo, Jp, Jq, Jr, Js, Jt, Nat.reduceAdd]
      rw [hpe]
      refine oIf_dec (fun h2 => ?_) (fun h2 => ?_)
      · rw [if_pos h2] at hself hb2
        rw [oInt_add ⟨by omega, by omega⟩, oInt_add ⟨by omega, by omega⟩]
        exact hself hil _ _ ⟨rfl, rfl⟩
      · rw [if_neg h2] at hself hb2
        rw [oInt_add ⟨by omega, by omega⟩]
        refine hself hil _ _ ⟨?_, rfl⟩
        rw [Int.add_zero]; rfl
    · have hiw : i = w.length := by omega
      subst hiw
      rw [List.take_of_length_le (by rw [parkL_len]; omega), List.take_length]
      exact hk _ e1
/-- The row in which some bays are taken, or the error. -/
theorem filled_sp {N : Int} {v : Value} {l : List Int} (hlf : 1000000 ≤ lf) (hL : L ≤ m.next) (hv : IL m v l) (hl : l.length < 1000000)
    (hno : difX N l ≠ 0 → ∀ x m', Gt m m' → k (.tuple ⟨[.agg ⟨[.int .i64 N, .int .u64 x]⟩, .int .i64 (difX N l)]⟩) m' = some ())
    (hyes : ∀ (a T : Nat), N = a → 1 ≤ a → a ≤ 8 → difX N l = 0 → (∀ x ∈ l, inI x 0 (N - 1)) → BitsOf a T l → ∀ m', Gt m m' → k (.tuple ⟨[.agg ⟨[.int .i64 N, .int .u64 (T : Int)]⟩, .int .i64 0]⟩) m' = some ()) :
    runT (tab lf) (n + 2) 60 [.int .i64 N, v] L m k = some () := by
  rw [r60]; dsimp only [S60, iofNat, inegSucc]
  try simp (disch := first | omega | with_unfolding_all exact id rfl | with_unfolding_all exact Nat.le_of_ble_eq_true rfl | (simp only [Jd, Je, Jr, Js, Jt, Nat.reduceAdd, allOne, oneCell, Bool.and_self, Jc]; first | done | omega)) only [bu76, ↓Qa, ↓Qb, ↓Qc, Qd, Qe, Qf, Qg, Qh, Qi, Qj, Qk, Ql, Qm, Qn, Qo, Qp, Qq, Qr, Qs, Qt, Qu, Qv, Qw, Qx, Qy, ptrTo, Qz, QA, QB, QC, QD, QE, QF, QG, QH, QI, QJ, QK, QL, QM, QN, QO, QP, QQ, QR, QS, QT, QU, QV, QW, QX, QY, QZ, Ja, Jb, Jc, Jd, Je, Jf, Jg, Jh, Ji, Jj, Jk, Jl, Jm, Jn, Jo, Jp, Jq, Jr, Js, Jt, Nat.reduceAdd]
  generalize hb : m.next = b at *
  have g1 := Mem.gt_push m ⟨1, [.int .i64 0, .int .u64 0], none⟩
  generalize hm1 : m.push ⟨1, [.int .i64 0, .int .u64 0], none⟩ = m1 at g1 ⊢
  have hm1n : m1.next = b + 1 := by rw [← hm1, Mem.push_next, hb]
  have hr1 : m1.rd b = some ⟨1, [.int .i64 0, .int .u64 0], none⟩ := by rw [← hm1, ← hb]; exact Mem.rd_push _ _
  have g2 : Gt m ((m1.push ⟨1, [.int .i64 0, .int .u64 0], none⟩).put m1.next (some ⟨1, [.int .i64 N, .int .u64 0], none⟩)) := Mem.put_gt (g1.trans (Mem.gt_push _ _)) _ (by omega)
  have hr2 : ((m1.push ⟨1, [.int .i64 0, .int .u64 0], none⟩).put m1.next (some ⟨1, [.int .i64 N, .int .u64 0], none⟩)).rd m1.next = some ⟨1, [.int .i64 N, .int .u64 0], none⟩ := Mem.rd_put_eq _ _ (by rw [Mem.push_next]; omega)
  have hr3 : ((m1.push ⟨1, [.int .i64 0, .int .u64 0], none⟩).put m1.next (some ⟨1, [.int .i64 N, .int .u64 0], none⟩)).rd b = some ⟨1, [.int .i64 0, .int .u64 0], none⟩ := by
    rw [Mem.rd_put _ _ _ _ (by omega), Mem.rd_push_lt _ _ (by omega), hr1]
  have hn2 : ((m1.push ⟨1, [.int .i64 0, .int .u64 0], none⟩).put m1.next (some ⟨1, [.int .i64 N, .int .u64 0], none⟩)).next = b + 2 := by rw [Mem.put_next', Mem.push_next, hm1n]
  rw [hm1n] at g2 hr2 hr3 hn2
  generalize (m1.push ⟨1, [.int .i64 0, .int .u64 0], none⟩).put (b + 1) (some ⟨1, [.int .i64 N, .int .u64 0], none⟩) = m2 at g2 hr2 hr3 hn2 ⊢
  refine within_sp _ _ _ ?_
  by_cases hN : inI N 1 8
  · have hd : difX N l = difL N [] l := by unfold difX; rw [if_pos hN]
    obtain ⟨h1, h8⟩ := id hN
    obtain ⟨a, rfl⟩ : ∃ a : Nat, N = a := ⟨N.toNat, by omega⟩
    have hv2 := hv.mono g2
    have fin : ∀ (T : Nat) (e : Int) (m3 : Mem), Gt m m3 → m3.rd (b + 1) = some (rowB a T) → m3.rd b = some ⟨1, [.int .i64 0, .int .u64 0], none⟩ →
        (∀ m', Gt m m' → k (.tuple ⟨[.agg ⟨[.int .i64 (a : Int), .int .u64 (T : Int)]⟩, .int .i64 e]⟩) m' = some ()) →
        (oOpt (rdn (m3.rd (b + 1)) 0 2) fun t31 => oRes (stw 2 L m3 b 0 t31.cells.toList (m3.rd b)) fun t32 m33 => oOpt (rdn (m33.rd b) 0 2) fun t34 => k (.tuple ⟨[t34, .int .i64 e]⟩) m33) = some () := by
      intro T e m3 q1 q2 q3 q4
      unfold rowB at q2
      have hbl := Mem.rd_lt q3
      have q5 : (m3.put b (some ⟨1, [.int .i64 (a : Int), .int .u64 (T : Int)], none⟩)).rd b = some ⟨1, [.int .i64 (a : Int), .int .u64 (T : Int)], none⟩ := Mem.rd_put_eq _ _ hbl
      try simp (disch := first | omega | with_unfolding_all exact id rfl | with_unfolding_all exact Nat.le_of_ble_eq_true rfl | (simp only [Jd, Je, Jr, Js, Jt, Nat.reduceAdd, allOne, oneCell, Bool.and_self, Jc]; first | done | omega)) only [q2, q3, q5, ↓Qa, ↓Qb, ↓Qc, Qd, Qe, Qf, Qg, Qh, Qi, Qj, Qk, Ql, Qm, Qn, Qo, Qp, Qq, Qr, Qs, Qt, Qu, Qv, Qw, Qx, Qy, ptrTo, Qz, QA, QB, QC, QD, QE, QF, QG, QH, QI, QJ, QK, QL, QM, QN, QO, QP, QQ, QR, QS, QT, QU, QV, QW, QX, QY, QZ, Ja, Jb, Jc, Jd, Je, Jf, Jg, Jh, Ji, Jj, Jk, Jl, Jm, Jn, Jo, Jp, Jq, Jr, Js, Jt, Nat.reduceAdd]
      exact q4 _ (Mem.put_gt q1 _ (by omega))
    try simp (disch := first | omega | with_unfolding_all exact id rfl | with_unfolding_all exact Nat.le_of_ble_eq_true rfl | (simp only [Jd, Je, Jr, Js, Jt, Nat.reduceAdd, allOne, oneCell, Bool.and_self, Jc]; first | done | omega)) only [decide_eq_true hN, hv2.ln, ↓Qa, ↓Qb, ↓Qc, Qd, Qe, Qf, Qg, Qh, Qi, Qj, Qk, Ql, Qm, Qn, Qo, Qp, Qq, Qr, Qs, Qt, Qu, Qv, Qw, Qx, Qy, ptrTo, Qz, QA, QB, QC, QD, QE, QF, QG, QH, QI, QJ, QK, QL, QM, QN, QO, QP, QQ, QR, QS, QT, QU, QV, QW, QX, QY, QZ, Ja, Jb, Jc, Jd, Je, Jf, Jg, Jh, Ji, Jj, Jk, Jl, Jm, Jn, Jo, Jp, Jq, Jr, Js, Jt, Nat.reduceAdd]
    refine loop_up l.length (fun i vs m' => ∃ T, vs = [.int .i64 (i : Int)] ∧ Gt m m' ∧ m'.rd (b + 1) = some (rowB a T) ∧ m'.rd b = some ⟨1, [.int .i64 0, .int .u64 0], none⟩ ∧ BitsOf a T (l.take i) ∧ (∀ x ∈ l.take i, inI x 0 ((a : Int) - 1)) ∧ difL a [] l = difL a (l.take i) (l.drop i)) (by omega)
      ⟨0, rfl, g2, hr2, hr3, BitsOf.nil a, (fun x hx => by cases hx), rfl⟩ ?_
    rintro i vs m3 hi ⟨T, rfl, e3, q2, q3, hB, hin, hdl⟩ self hself
    have hv3 := hv.mono e3
    try simp (disch := first | omega | with_unfolding_all exact id rfl | with_unfolding_all exact Nat.le_of_ble_eq_true rfl | (simp only [Jd, Je, Jr, Js, Jt, Nat.reduceAdd, allOne, oneCell, Bool.and_self, Jc]; first | done | omega)) only [↓Qa, ↓Qb, ↓Qc, Qd, Qe, Qf, Qg, Qh, Qi, Qj, Qk, Ql, Qm, Qn, Qo, Qp, Qq, Qr, Qs, Qt, Qu, Qv, Qw, Qx, Qy, ptrTo, Qz, QA, QB, QC, QD, QE, QF, QG, QH, QI, QJ, QK, QL, QM, QN, QO, QP, QQ, QR, QS, QT, QU, QV, QW, QX, QY, QZ, Ja, Jb, Jc, Jd, Je, Jf, Jg, Jh, Ji, Jj, Jk, Jl, Jm, Jn, Jo, Jp, Jq, Jr, Js, Jt, Nat.reduceAdd]
    refine oIf_dec (fun h => ?_) (fun h => ?_)
    · have hil : i < l.length := by omega
      rw [difL_step hil] at hdl
      rw [hdl] at hd
      try simp (disch := first | omega | with_unfolding_all exact id rfl | with_unfolding_all exact Nat.le_of_ble_eq_true rfl | (simp only [Jd, Je, Jr, Js, Jt, Nat.reduceAdd, allOne, oneCell, Bool.and_self, Jc]; first | done | omega)) only [hv3.ia hil, hv3.ld hil, ↓Qa, ↓Qb, ↓Qc, Qd, Qe, Qf, Qg, Qh, Qi, Qj, Qk, Ql, Qm, Qn, Qo, Qp, Qq, Qr, Qs, Qt, Qu, Qv, Qw, Qx, Qy, ptrTo, Qz, QA, QB, QC, QD, QE, QF, QG, QH, QI, QJ, QK, QL, QM, QN, QO, QP, QQ, QR, QS, QT, QU, QV, QW, QX, QY, QZ, Ja, Jb, Jc, Jd, Je, Jf, Jg, Jh, Ji, Jj, Jk, Jl, Jm, Jn, Jo, Jp, Jq, Jr, Js, Jt, Nat.reduceAdd]
      rw [oInt_sub ⟨by omega, by omega⟩]
      refine within_sp _ _ _ ?_
      have htk : l.take (i + 1) = l.take i ++ [l[i]] := by rw [List.take_add_one, List.getElem?_eq_getElem hil]; rfl
      generalize l[i] = x at hd htk hdl ⊢
      by_cases hx : inI x 0 ((a : Int) - 1)
      · rw [if_pos hx] at hd hdl
        obtain ⟨c, rfl⟩ : ∃ c : Nat, x = c := ⟨x.toNat, by have := hx.1; omega⟩
        have hca : c < a := by have := hx.2; omega
        have q2' := q2
        unfold rowB at q2'
        try simp (disch := first | omega | with_unfolding_all exact id rfl | with_unfolding_all exact Nat.le_of_ble_eq_true rfl | (simp only [Jd, Je, Jr, Js, Jt, Nat.reduceAdd, allOne, oneCell, Bool.and_self, Jc]; first | done | omega)) only [decide_eq_true hx, q2', shr_u, shl_u, ↓Qa, ↓Qb, ↓Qc, Qd, Qe, Qf, Qg, Qh, Qi, Qj, Qk, Ql, Qm, Qn, Qo, Qp, Qq, Qr, Qs, Qt, Qu, Qv, Qw, Qx, Qy, ptrTo, Qz, QA, QB, QC, QD, QE, QF, QG, QH, QI, QJ, QK, QL, QM, QN, QO, QP, QQ, QR, QS, QT, QU, QV, QW, QX, QY, QZ, Ja, Jb, Jc, Jd, Je, Jf, Jg, Jh, Ji, Jj, Jk, Jl, Jm, Jn, Jo, Jp, Jq, Jr, Js, Jt, Nat.reduceAdd]
        rw [bit_e hB.1 (by omega), eql_u, hB.2 c hca]
        by_cases hxa : (c : Int) ∈ l.take i
        · rw [if_pos hxa] at hd
          rw [decide_eq_true hxa]
          simp only [if_true, decide_true, oIf_t]
          refine Eq.trans ?_ (fin T 6 m3 e3 q2 q3 fun m' e' => ?_)
          · rw [q2']; rfl
          · have := hno (by rw [hd]; decide) T m' e'
            rw [hd] at this
            exact this
        · rw [if_neg hxa] at hdl
          rw [decide_eq_false hxa]
          simp only [Bool.false_eq_true, if_false, show decide ((0 : Int) = 1) = false from rfl, oIf_f]
          rw [or_e hB.1 (by omega)]
          try simp (disch := first | omega | with_unfolding_all exact id rfl | with_unfolding_all exact Nat.le_of_ble_eq_true rfl | (simp only [Jd, Je, Jr, Js, Jt, Nat.reduceAdd, allOne, oneCell, Bool.and_self, Jc]; first | done | omega)) only [q2', ↓Qa, ↓Qb, ↓Qc, Qd, Qe, Qf, Qg, Qh, Qi, Qj, Qk, Ql, Qm, Qn, Qo, Qp, Qq, Qr, Qs, Qt, Qu, Qv, Qw, Qx, Qy, ptrTo, Qz, QA, QB, QC, QD, QE, QF, QG, QH, QI, QJ, QK, QL, QM, QN, QO, QP, QQ, QR, QS, QT, QU, QV, QW, QX, QY, QZ, Ja, Jb, Jc, Jd, Je, Jf, Jg, Jh, Ji, Jj, Jk, Jl, Jm, Jn, Jo, Jp, Jq, Jr, Js, Jt, Nat.reduceAdd]
          rw [oInt_add ⟨by omega, by omega⟩]
          have hb3 := Mem.rd_lt q2
          refine hself hil _ _ ⟨T ||| 2 ^ c, rfl, Mem.put_gt e3 _ (by omega), Mem.rd_put_eq _ _ hb3, ?_, ?_, ?_, ?_⟩
          · rw [Mem.rd_put _ _ _ _ (by omega)]; exact q3
          · rw [htk]; exact hB.put (by omega)
          · rw [htk]
            intro y hy
            rcases List.mem_append.1 hy with hy | hy
            · exact hin y hy
            · rw [List.mem_singleton.1 hy]; exact hx
          · rw [hdl]
      · rw [if_neg hx] at hd
        try simp (disch := first | omega | with_unfolding_all exact id rfl | with_unfolding_all exact Nat.le_of_ble_eq_true rfl | (simp only [Jd, Je, Jr, Js, Jt, Nat.reduceAdd, allOne, oneCell, Bool.and_self, Jc]; first | done | omega)) only [decide_eq_false hx, ↓Qa, ↓Qb, ↓Qc, Qd, Qe, Qf, Qg, Qh, Qi, Qj, Qk, Ql, Qm, Qn, Qo, Qp, Qq, Qr, Qs, Qt, Qu, Qv, Qw, Qx, Qy, ptrTo, Qz, QA, QB, QC, QD, QE, QF, QG, QH, QI, QJ, QK, QL, QM, QN, QO, QP, QQ, QR, QS, QT, QU, QV, QW, QX, QY, QZ, Ja, Jb, Jc, Jd, Je, Jf, Jg, Jh, Ji, Jj, Jk, Jl, Jm, Jn, Jo, Jp, Jq, Jr, Js, Jt, Nat.reduceAdd]
        refine fin T 2 m3 e3 q2 q3 fun m' e' => ?_
        have := hno (by rw [hd]; decide) T m' e'
        rw [hd] at this
        exact this
    · have hiw : i = l.length := by omega
      subst hiw
      rw [List.take_length] at hB hin
      rw [List.drop_length] at hdl
      refine fin T 0 m3 e3 q2 q3 fun m' e' => ?_
      exact hyes a T rfl (by omega) (by omega) (by rw [hd, hdl]; rfl) hin hB m' e'
  · have hd : difX N l = 1 := if_neg hN
    have hbl := Mem.rd_lt hr3
    have q5 : (m2.put b (some ⟨1, [.int .i64 N, .int .u64 0], none⟩)).rd b = some ⟨1, [.int .i64 N, .int .u64 0], none⟩ := Mem.rd_put_eq _ _ hbl
    try simp (disch := first | omega | with_unfolding_all exact id rfl | with_unfolding_all exact Nat.le_of_ble_eq_true rfl | (simp only [Jd, Je, Jr, Js, Jt, Nat.reduceAdd, allOne, oneCell, Bool.and_self, Jc]; first | done | omega)) only [decide_eq_false hN, hr2, hr3, q5, ↓Qa, ↓Qb, ↓Qc, Qd, Qe, Qf, Qg, Qh, Qi, Qj, Qk, Ql, Qm, Qn, Qo, Qp, Qq, Qr, Qs, Qt, Qu, Qv, Qw, Qx, Qy, ptrTo, Qz, QA, QB, QC, QD, QE, QF, QG, QH, QI, QJ, QK, QL, QM, QN, QO, QP, QQ, QR, QS, QT, QU, QV, QW, QX, QY, QZ, Ja, Jb, Jc, Jd, Je, Jf, Jg, Jh, Ji, Jj, Jk, Jl, Jm, Jn, Jo, Jp, Jq, Jr, Js, Jt, Nat.reduceAdd]
    have := hno (by rw [hd]; decide) 0 _ (Mem.put_gt g2 (some ⟨1, [.int .i64 N, .int .u64 0], none⟩) (show m.next ≤ b by omega))
    rw [hd] at this
    exact this
end
end Go.Vit
