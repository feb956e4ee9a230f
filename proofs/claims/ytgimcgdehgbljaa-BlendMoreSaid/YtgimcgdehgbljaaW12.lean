/- Walks: recipes and blends are checked and weighed; all that fit are gone through. -/
import Derived.Test.YtgimcgdehgbljaaW11
import Derived.Test.YtgimcgdehgbljaaVitAG
set_option linter.unusedSimpArgs false
set_option linter.unusedVariables false
set_option maxRecDepth 20000
namespace Go.Vit
open Go Go.Proofs
attribute [local irreducible] runT loopS
section
variable {lf n L : Nat} {m : Mem} {k : Value → Mem → Option Unit}
theorem check37_sp {wv : Value} {l : List Int} {lo hi : Int} (hlf : 1000000 ≤ lf) (hw : IL m wv l) (hk : ∀ m', Gt m m' → k (.int .i64 (chkR l lo hi)) m' = some ()) : runT (tab lf) (n + 2) 37 [rcp wv lo hi] L m k = some () := by
  rw [r37]; dsimp only [S37, iofNat, inegSucc]
  rw [uc_e, un0_e, abox_e, oRes_e, cells_agg]
  have g1 := Mem.gt_push m ⟨1, rcC wv lo hi, none⟩
  have hA : At (m.push ⟨1, rcC wv lo hi, none⟩) m.next (rcC wv lo hi) := At.push m _
  have hk := hk _ g1
  generalize m.push ⟨1, rcC wv lo hi, none⟩ = m1 at g1 hA hk ⊢
  unfold ptrTo
  have hw1 := hw.mono g1
  have c0 : (rcC wv lo hi)[0]? = some wv := rfl
  have c1 : (rcC wv lo hi)[0 + 1]? = some (.int .i64 lo) := rfl
  have c2 : (rcC wv lo hi)[0 + 2]? = some (.int .i64 hi) := rfl
  unfold chkR at hk
  by_cases h1 : l.length = 0
  · rw [if_pos h1] at hk
    have d1 : decide ((l.length : Int) = 0) = true := decide_eq_true (by omega)
    try simp (disch := first | omega | with_unfolding_all exact id rfl | with_unfolding_all exact Nat.le_of_ble_eq_true rfl | (simp only [Jd, Je, Jr, Js, Jt, Nat.reduceAdd, allOne, oneCell, Bool.and_self, Jc]; first | done | omega)) only [hA.rd, c0, hw1.ln, d1, ↓Qa, ↓Qb, ↓Qc, Qd, Qe, Qf, Qg, Qh, Qi, Qj, Qk, Ql, Qm, Qn, Qo, Qp, Qq, Qr, Qs, Qt, Qu, Qv, Qw, Qx, Qy, ptrTo, Qz, QA, QB, QC, QD, QE, QF, QG, QH, QI, QJ, QK, QL, QM, QN, QO, QP, QQ, QR, QS, QT, QU, QV, QW, QX, QY, QZ, Ja, Jb, Jc, Jd, Je, Jf, Jg, Jh, Ji, Jj, Jk, Jl, Jm, Jn, Jo, Jp, Jq, Jr, Js, Jt, Nat.reduceAdd]
    exact hk
  rw [if_neg h1] at hk
  have d1 : decide ((l.length : Int) = 0) = false := decide_eq_false (by omega)
  by_cases h2 : 10 < l.length
  · rw [if_pos h2] at hk
    have d2 : decide ((10 : Int) < (l.length : Int)) = true := decide_eq_true (by omega)
    try simp (disch := first | omega | with_unfolding_all exact id rfl | with_unfolding_all exact Nat.le_of_ble_eq_true rfl | (simp only [Jd, Je, Jr, Js, Jt, Nat.reduceAdd, allOne, oneCell, Bool.and_self, Jc]; first | done | omega)) only [hA.rd, c0, hw1.ln, d1, d2, ↓Qa, ↓Qb, ↓Qc, Qd, Qe, Qf, Qg, Qh, Qi, Qj, Qk, Ql, Qm, Qn, Qo, Qp, Qq, Qr, Qs, Qt, Qu, Qv, Qw, Qx, Qy, ptrTo, Qz, QA, QB, QC, QD, QE, QF, QG, QH, QI, QJ, QK, QL, QM, QN, QO, QP, QQ, QR, QS, QT, QU, QV, QW, QX, QY, QZ, Ja, Jb, Jc, Jd, Je, Jf, Jg, Jh, Ji, Jj, Jk, Jl, Jm, Jn, Jo, Jp, Jq, Jr, Js, Jt, Nat.reduceAdd]
    exact hk
  rw [if_neg h2] at hk
  have d2 : decide ((10 : Int) < (l.length : Int)) = false := decide_eq_false (by omega)
  try simp (disch := first | omega | with_unfolding_all exact id rfl | with_unfolding_all exact Nat.le_of_ble_eq_true rfl | (simp only [Jd, Je, Jr, Js, Jt, Nat.reduceAdd, allOne, oneCell, Bool.and_self, Jc]; first | done | omega)) only [hA.rd, c0, hw1.ln, d1, d2, ↓Qa, ↓Qb, ↓Qc, Qd, Qe, Qf, Qg, Qh, Qi, Qj, Qk, Ql, Qm, Qn, Qo, Qp, Qq, Qr, Qs, Qt, Qu, Qv, Qw, Qx, Qy, ptrTo, Qz, QA, QB, QC, QD, QE, QF, QG, QH, QI, QJ, QK, QL, QM, QN, QO, QP, QQ, QR, QS, QT, QU, QV, QW, QX, QY, QZ, Ja, Jb, Jc, Jd, Je, Jf, Jg, Jh, Ji, Jj, Jk, Jl, Jm, Jn, Jo, Jp, Jq, Jr, Js, Jt, Nat.reduceAdd]
  refine loop_up l.length (fun i vs m' => vs = [.int .i64 (i : Int)] ∧ m' = m1 ∧ ∀ j (h : j < l.length), j < i → badW l[j] = false) (by omega) ⟨rfl, rfl, fun j h hj => by omega⟩ ?_
  rintro i vs m' hi' ⟨rfl, rfl, hno⟩ self hself
  try simp (disch := first | omega | with_unfolding_all exact id rfl | with_unfolding_all exact Nat.le_of_ble_eq_true rfl | (simp only [Jd, Je, Jr, Js, Jt, Nat.reduceAdd, allOne, oneCell, Bool.and_self, Jc]; first | done | omega)) only [hA.rd, c0, hw1.ln, ↓Qa, ↓Qb, ↓Qc, Qd, Qe, Qf, Qg, Qh, Qi, Qj, Qk, Ql, Qm, Qn, Qo, Qp, Qq, Qr, Qs, Qt, Qu, Qv, Qw, Qx, Qy, ptrTo, Qz, QA, QB, QC, QD, QE, QF, QG, QH, QI, QJ, QK, QL, QM, QN, QO, QP, QQ, QR, QS, QT, QU, QV, QW, QX, QY, QZ, Ja, Jb, Jc, Jd, Je, Jf, Jg, Jh, Ji, Jj, Jk, Jl, Jm, Jn, Jo, Jp, Jq, Jr, Js, Jt, Nat.reduceAdd]
  refine oIf_dec (fun h => ?_) (fun h => ?_)
  · have hil : i < l.length := by omega
    try simp (disch := first | omega | with_unfolding_all exact id rfl | with_unfolding_all exact Nat.le_of_ble_eq_true rfl | (simp only [Jd, Je, Jr, Js, Jt, Nat.reduceAdd, allOne, oneCell, Bool.and_self, Jc]; first | done | omega)) only [hA.rd, c0, hw1.ia hil, hw1.ld hil, ↓Qa, ↓Qb, ↓Qc, Qd, Qe, Qf, Qg, Qh, Qi, Qj, Qk, Ql, Qm, Qn, Qo, Qp, Qq, Qr, Qs, Qt, Qu, Qv, Qw, Qx, Qy, ptrTo, Qz, QA, QB, QC, QD, QE, QF, QG, QH, QI, QJ, QK, QL, QM, QN, QO, QP, QQ, QR, QS, QT, QU, QV, QW, QX, QY, QZ, Ja, Jb, Jc, Jd, Je, Jf, Jg, Jh, Ji, Jj, Jk, Jl, Jm, Jn, Jo, Jp, Jq, Jr, Js, Jt, Nat.reduceAdd]
    refine in_sp _ _ _ ?_
    cases hb : badW l[i] with
    | true =>
      have hb' : decide (0 ≤ l[i] ∧ l[i] ≤ 50) = false := by
        cases hd : decide (0 ≤ l[i] ∧ l[i] ≤ 50) with
        | true => unfold badW at hb; rw [hd] at hb; cases hb
        | false => rfl
      rw [hb']
      have h3' : (l.any fun w => !decide (0 ≤ w ∧ w ≤ 50)) = true := List.any_eq_true.2 ⟨_, List.getElem_mem hil, hb⟩
      rw [if_pos h3'] at hk
      try simp (disch := first | omega | with_unfolding_all exact id rfl | with_unfolding_all exact Nat.le_of_ble_eq_true rfl | (simp only [Jd, Je, Jr, Js, Jt, Nat.reduceAdd, allOne, oneCell, Bool.and_self, Jc]; first | done | omega)) only [↓Qa, ↓Qb, ↓Qc, Qd, Qe, Qf, Qg, Qh, Qi, Qj, Qk, Ql, Qm, Qn, Qo, Qp, Qq, Qr, Qs, Qt, Qu, Qv, Qw, Qx, Qy, ptrTo, Qz, QA, QB, QC, QD, QE, QF, QG, QH, QI, QJ, QK, QL, QM, QN, QO, QP, QQ, QR, QS, QT, QU, QV, QW, QX, QY, QZ, Ja, Jb, Jc, Jd, Je, Jf, Jg, Jh, Ji, Jj, Jk, Jl, Jm, Jn, Jo, Jp, Jq, Jr, Js, Jt, Nat.reduceAdd]
      exact hk
    | false =>
      have hb' : decide (0 ≤ l[i] ∧ l[i] ≤ 50) = true := by
        cases hd : decide (0 ≤ l[i] ∧ l[i] ≤ 50) with
        | true => rfl
        | false => unfold badW at hb; rw [hd] at hb; cases hb
      rw [hb']
      try simp (disch := first | omega | with_unfolding_all exact id rfl | with_unfolding_all exact Nat.le_of_ble_eq_true rfl | (simp only [Jd, Je, Jr, Js, Jt, Nat.reduceAdd, allOne, oneCell, Bool.and_self, Jc]; first | done | omega)) only [↓Qa, ↓Qb, ↓Qc, Qd, Qe, Qf, Qg, Qh, Qi, Qj, Qk, Ql, Qm, Qn, Qo, Qp, Qq, Qr, Qs, Qt, Qu, Qv, Qw, Qx, Qy, ptrTo, Qz, QA, QB, QC, QD, QE, QF, QG, QH, QI, QJ, QK, QL, QM, QN, QO, QP, QQ, QR, QS, QT, QU, QV, QW, QX, QY, QZ, Ja, Jb, Jc, Jd, Je, Jf, Jg, Jh, Ji, Jj, Jk, Jl, Jm, Jn, Jo, Jp, Jq, Jr, Js, Jt, Nat.reduceAdd]
      rw [oInt_add ⟨by omega, by omega⟩]
      refine hself hil _ _ ⟨rfl, rfl, fun j hj hji => ?_⟩
      by_cases hje : j = i
      · subst hje; exact hb
      · exact hno j hj (by omega)
  · have h3' : ¬ (l.any fun w => !decide (0 ≤ w ∧ w ≤ 50)) = true := by
      rw [Bool.not_eq_true, List.any_eq_false]
      intro w hw
      obtain ⟨j, hj, rfl⟩ := List.getElem_of_mem hw
      have := hno j hj (by omega)
      unfold badW at this
      rw [this]; decide
    rw [if_neg h3'] at hk
    by_cases h4 : hi < lo
    · rw [if_pos h4] at hk
      try simp (disch := first | omega | with_unfolding_all exact id rfl | with_unfolding_all exact Nat.le_of_ble_eq_true rfl | (simp only [Jd, Je, Jr, Js, Jt, Nat.reduceAdd, allOne, oneCell, Bool.and_self, Jc]; first | done | omega)) only [hA.rd, decide_eq_true h4, c1, c2, ↓Qa, ↓Qb, ↓Qc, Qd, Qe, Qf, Qg, Qh, Qi, Qj, Qk, Ql, Qm, Qn, Qo, Qp, Qq, Qr, Qs, Qt, Qu, Qv, Qw, Qx, Qy, ptrTo, Qz, QA, QB, QC, QD, QE, QF, QG, QH, QI, QJ, QK, QL, QM, QN, QO, QP, QQ, QR, QS, QT, QU, QV, QW, QX, QY, QZ, Ja, Jb, Jc, Jd, Je, Jf, Jg, Jh, Ji, Jj, Jk, Jl, Jm, Jn, Jo, Jp, Jq, Jr, Js, Jt, Nat.reduceAdd]
      exact hk
    · rw [if_neg h4] at hk
      try simp (disch := first | omega | with_unfolding_all exact id rfl | with_unfolding_all exact Nat.le_of_ble_eq_true rfl | (simp only [Jd, Je, Jr, Js, Jt, Nat.reduceAdd, allOne, oneCell, Bool.and_self, Jc]; first | done | omega)) only [hA.rd, decide_eq_false h4, c1, c2, ↓Qa, ↓Qb, ↓Qc, Qd, Qe, Qf, Qg, Qh, Qi, Qj, Qk, Ql, Qm, Qn, Qo, Qp, Qq, Qr, Qs, Qt, Qu, Qv, Qw, Qx, Qy, ptrTo, Qz, QA, QB, QC, QD, QE, QF, QG, QH, QI, QJ, QK, QL, QM, QN, QO, QP, QQ, QR, QS, QT, QU, QV, QW, QX, QY, QZ, Ja, Jb, Jc, Jd, Je, Jf, Jg, Jh, Ji, Jj, Jk, Jl, Jm, Jn, Jo, Jp, Jq, Jr, Js, Jt, Nat.reduceAdd]
      exact hk
theorem blended_sp {wv u : Value} {l b : List Int} {lo hi : Int} (hlf : 1000000 ≤ lf) (hw : IL m wv l) (hu : IL m u b) (hb : b.length < 1000000) (hk : ∀ m', Gt m m' → k (.int .i64 (bldE l lo hi b)) m' = some ()) : runT (tab lf) (n + 6) 76 [rcp wv lo hi, u] L m k = some () := by
  rw [r76]; dsimp only [S76, iofNat, inegSucc]
  rw [uc_e, uc_e, un0_e, abox_e, oRes_e, cells_agg]
  have g1 := Mem.gt_push m ⟨1, rcC wv lo hi, none⟩
  have hA : At (m.push ⟨1, rcC wv lo hi, none⟩) m.next (rcC wv lo hi) := At.push m _
  generalize m.push ⟨1, rcC wv lo hi, none⟩ = m1 at g1 hA ⊢
  unfold ptrTo
  have c0 : (rcC wv lo hi)[0]? = some wv := rfl
  rw [ldN_u, hA.rd, rdn3, oOpt_e]
  refine check36_sp hlf (hw.mono g1) fun m2 e2 => ?_
  have G := g1.trans e2
  have hA2 := hA.mono e2
  have hw2 := hw.mono G
  unfold bldE at hk
  by_cases h : chkR l lo hi = 0
  · rw [if_pos h] at hk
    rw [h]
    try simp (disch := first | omega | with_unfolding_all exact id rfl | with_unfolding_all exact Nat.le_of_ble_eq_true rfl | (simp only [Jd, Je, Jr, Js, Jt, Nat.reduceAdd, allOne, oneCell, Bool.and_self, Jc]; first | done | omega)) only [hA2.rd, c0, hw2.ln, ↓Qa, ↓Qb, ↓Qc, Qd, Qe, Qf, Qg, Qh, Qi, Qj, Qk, Ql, Qm, Qn, Qo, Qp, Qq, Qr, Qs, Qt, Qu, Qv, Qw, Qx, Qy, ptrTo, Qz, QA, QB, QC, QD, QE, QF, QG, QH, QI, QJ, QK, QL, QM, QN, QO, QP, QQ, QR, QS, QT, QU, QV, QW, QX, QY, QZ, Ja, Jb, Jc, Jd, Je, Jf, Jg, Jh, Ji, Jj, Jk, Jl, Jm, Jn, Jo, Jp, Jq, Jr, Js, Jt, Nat.reduceAdd]
    refine check_sp hlf (hu.mono G) hb ?_
    exact hk _ G
  · rw [if_neg h] at hk
    try simp (disch := first | omega | with_unfolding_all exact id rfl | with_unfolding_all exact Nat.le_of_ble_eq_true rfl | (simp only [Jd, Je, Jr, Js, Jt, Nat.reduceAdd, allOne, oneCell, Bool.and_self, Jc]; first | done | omega)) only [decide_eq_false h, ↓Qa, ↓Qb, ↓Qc, Qd, Qe, Qf, Qg, Qh, Qi, Qj, Qk, Ql, Qm, Qn, Qo, Qp, Qq, Qr, Qs, Qt, Qu, Qv, Qw, Qx, Qy, ptrTo, Qz, QA, QB, QC, QD, QE, QF, QG, QH, QI, QJ, QK, QL, QM, QN, QO, QP, QQ, QR, QS, QT, QU, QV, QW, QX, QY, QZ, Ja, Jb, Jc, Jd, Je, Jf, Jg, Jh, Ji, Jj, Jk, Jl, Jm, Jn, Jo, Jp, Jq, Jr, Js, Jt, Nat.reduceAdd]
    exact hk _ G
theorem blended78_sp {wv u : Value} {l b : List Int} {lo hi : Int} (hlf : 1000000 ≤ lf) (hw : IL m wv l) (hu : IL m u b) (hb : b.length < 1000000) (hk : ∀ m', Gt m m' → k (.int .i64 (bldE l lo hi b)) m' = some ()) : runT (tab lf) (n + 6) 78 [rcp wv lo hi, u] L m k = some () := by
  rw [r78]; dsimp only [S78, iofNat, inegSucc]
  rw [uc_e, uc_e, un0_e, abox_e, oRes_e, cells_agg]
  have g1 := Mem.gt_push m ⟨1, rcC wv lo hi, none⟩
  have hA : At (m.push ⟨1, rcC wv lo hi, none⟩) m.next (rcC wv lo hi) := At.push m _
  generalize m.push ⟨1, rcC wv lo hi, none⟩ = m1 at g1 hA ⊢
  unfold ptrTo
  have c0 : (rcC wv lo hi)[0]? = some wv := rfl
  rw [ldN_u, hA.rd, rdn3, oOpt_e]
  refine check37_sp hlf (hw.mono g1) fun m2 e2 => ?_
  have G := g1.trans e2
  have hA2 := hA.mono e2
  have hw2 := hw.mono G
  unfold bldE at hk
  by_cases h : chkR l lo hi = 0
  · rw [if_pos h] at hk
    rw [h]
    have d0 : decide ((0 : Int) = 0) = true := by decide
    try simp (disch := first | omega | with_unfolding_all exact id rfl | with_unfolding_all exact Nat.le_of_ble_eq_true rfl | (simp only [Jd, Je, Jr, Js, Jt, Nat.reduceAdd, allOne, oneCell, Bool.and_self, Jc]; first | done | omega)) only [hA2.rd, c0, hw2.ln, d0, ↓Qa, ↓Qb, ↓Qc, Qd, Qe, Qf, Qg, Qh, Qi, Qj, Qk, Ql, Qm, Qn, Qo, Qp, Qq, Qr, Qs, Qt, Qu, Qv, Qw, Qx, Qy, ptrTo, Qz, QA, QB, QC, QD, QE, QF, QG, QH, QI, QJ, QK, QL, QM, QN, QO, QP, QQ, QR, QS, QT, QU, QV, QW, QX, QY, QZ, Ja, Jb, Jc, Jd, Je, Jf, Jg, Jh, Ji, Jj, Jk, Jl, Jm, Jn, Jo, Jp, Jq, Jr, Js, Jt, Nat.reduceAdd]
    refine check26_sp hlf (hu.mono G) hb ?_
    try simp (disch := first | omega | with_unfolding_all exact id rfl | with_unfolding_all exact Nat.le_of_ble_eq_true rfl | (simp only [Jd, Je, Jr, Js, Jt, Nat.reduceAdd, allOne, oneCell, Bool.and_self, Jc]; first | done | omega)) only [↓Qa, ↓Qb, ↓Qc, Qd, Qe, Qf, Qg, Qh, Qi, Qj, Qk, Ql, Qm, Qn, Qo, Qp, Qq, Qr, Qs, Qt, Qu, Qv, Qw, Qx, Qy, ptrTo, Qz, QA, QB, QC, QD, QE, QF, QG, QH, QI, QJ, QK, QL, QM, QN, QO, QP, QQ, QR, QS, QT, QU, QV, QW, QX, QY, QZ, Ja, Jb, Jc, Jd, Je, Jf, Jg, Jh, Ji, Jj, Jk, Jl, Jm, Jn, Jo, Jp, Jq, Jr, Js, Jt, Nat.reduceAdd]
    exact hk _ G
  · rw [if_neg h] at hk
    try simp (disch := first | omega | with_unfolding_all exact id rfl | with_unfolding_all exact Nat.le_of_ble_eq_true rfl | (simp only [Jd, Je, Jr, Js, Jt, Nat.reduceAdd, allOne, oneCell, Bool.and_self, Jc]; first | done | omega)) only [decide_eq_false h, ↓Qa, ↓Qb, ↓Qc, Qd, Qe, Qf, Qg, Qh, Qi, Qj, Qk, Ql, Qm, Qn, Qo, Qp, Qq, Qr, Qs, Qt, Qu, Qv, Qw, Qx, Qy, ptrTo, Qz, QA, QB, QC, QD, QE, QF, QG, QH, QI, QJ, QK, QL, QM, QN, QO, QP, QQ, QR, QS, QT, QU, QV, QW, QX, QY, QZ, Ja, Jb, Jc, Jd, Je, Jf, Jg, Jh, Ji, Jj, Jk, Jl, Jm, Jn, Jo, Jp, Jq, Jr, Js, Jt, Nat.reduceAdd]
    exact hk _ G
/-- The weight of a blend, as it is answered. -/
def wgtX (l : List Int) (lo hi : Int) (b : List Int) : Int := if bldE l lo hi b = 0 then (wgt (nni l) (nni b) : Int) else 0
theorem weight32_sp {wv u : Value} {l b : List Int} {lo hi : Int} (hlf : 1000000 ≤ lf) (hw : IL m wv l) (hu : IL m u b) (hb : b.length < 1000000) (hk : ∀ m', Gt m m' → k (.tuple ⟨[.int .i64 (wgtX l lo hi b), .int .i64 (bldE l lo hi b)]⟩) m' = some ()) : runT (tab lf) (n + 7) 32 [rcp wv lo hi, u] L m k = some () := by
  rw [r32]; dsimp only [S32, iofNat, inegSucc]
  rw [uc_e, uc_e, un0_e, abox_e, oRes_e, cells_agg]
  have g1 := Mem.gt_push m ⟨1, rcC wv lo hi, none⟩
  have hA : At (m.push ⟨1, rcC wv lo hi, none⟩) m.next (rcC wv lo hi) := At.push m _
  generalize m.push ⟨1, rcC wv lo hi, none⟩ = m1 at g1 hA ⊢
  unfold ptrTo
  rw [ldN_u, hA.rd, rdn3, oOpt_e]
  refine blended_sp hlf (hw.mono g1) (hu.mono g1) hb fun m2 e2 => ?_
  have G := g1.trans e2
  have hA2 := hA.mono e2
  have hw2 := hw.mono G
  have hu2 := hu.mono G
  unfold wgtX at hk
  by_cases h : bldE l lo hi b = 0
  · obtain ⟨ws, b', rfl, rfl, q1, q2, q3, q4, q5⟩ := bldE_ok h
    rw [if_pos h, nni_ci, nni_ci, h] at hk
    rw [h]
    try simp (disch := first | omega | with_unfolding_all exact id rfl | with_unfolding_all exact Nat.le_of_ble_eq_true rfl | (simp only [Jd, Je, Jr, Js, Jt, Nat.reduceAdd, allOne, oneCell, Bool.and_self, Jc]; first | done | omega)) only [↓Qa, ↓Qb, ↓Qc, Qd, Qe, Qf, Qg, Qh, Qi, Qj, Qk, Ql, Qm, Qn, Qo, Qp, Qq, Qr, Qs, Qt, Qu, Qv, Qw, Qx, Qy, ptrTo, Qz, QA, QB, QC, QD, QE, QF, QG, QH, QI, QJ, QK, QL, QM, QN, QO, QP, QQ, QR, QS, QT, QU, QV, QW, QX, QY, QZ, Ja, Jb, Jc, Jd, Je, Jf, Jg, Jh, Ji, Jj, Jk, Jl, Jm, Jn, Jo, Jp, Jq, Jr, Js, Jt, Nat.reduceAdd]
    rw [hA2.rd, rdn3, oOpt_e]
    refine weight_sp hlf hw2 q3 q2 hu2 q5 fun m3 e3 => ?_
    try simp (disch := first | omega | with_unfolding_all exact id rfl | with_unfolding_all exact Nat.le_of_ble_eq_true rfl | (simp only [Jd, Je, Jr, Js, Jt, Nat.reduceAdd, allOne, oneCell, Bool.and_self, Jc]; first | done | omega)) only [↓Qa, ↓Qb, ↓Qc, Qd, Qe, Qf, Qg, Qh, Qi, Qj, Qk, Ql, Qm, Qn, Qo, Qp, Qq, Qr, Qs, Qt, Qu, Qv, Qw, Qx, Qy, ptrTo, Qz, QA, QB, QC, QD, QE, QF, QG, QH, QI, QJ, QK, QL, QM, QN, QO, QP, QQ, QR, QS, QT, QU, QV, QW, QX, QY, QZ, Ja, Jb, Jc, Jd, Je, Jf, Jg, Jh, Ji, Jj, Jk, Jl, Jm, Jn, Jo, Jp, Jq, Jr, Js, Jt, Nat.reduceAdd]
    exact hk _ (G.trans e3)
  · rw [if_neg h] at hk
    try simp (disch := first | omega | with_unfolding_all exact id rfl | with_unfolding_all exact Nat.le_of_ble_eq_true rfl | (simp only [Jd, Je, Jr, Js, Jt, Nat.reduceAdd, allOne, oneCell, Bool.and_self, Jc]; first | done | omega)) only [decide_eq_false h, ↓Qa, ↓Qb, ↓Qc, Qd, Qe, Qf, Qg, Qh, Qi, Qj, Qk, Ql, Qm, Qn, Qo, Qp, Qq, Qr, Qs, Qt, Qu, Qv, Qw, Qx, Qy, ptrTo, Qz, QA, QB, QC, QD, QE, QF, QG, QH, QI, QJ, QK, QL, QM, QN, QO, QP, QQ, QR, QS, QT, QU, QV, QW, QX, QY, QZ, Ja, Jb, Jc, Jd, Je, Jf, Jg, Jh, Ji, Jj, Jk, Jl, Jm, Jn, Jo, Jp, Jq, Jr, Js, Jt, Nat.reduceAdd]
    exact hk _ G
theorem weight33_sp {wv u : Value} {l b : List Int} {lo hi : Int} (hlf : 1000000 ≤ lf) (hw : IL m wv l) (hu : IL m u b) (hb : b.length < 1000000) (hk : ∀ m', Gt m m' → k (.tuple ⟨[.int .i64 (wgtX l lo hi b), .int .i64 (bldE l lo hi b)]⟩) m' = some ()) : runT (tab lf) (n + 7) 33 [rcp wv lo hi, u] L m k = some () := by
  rw [r33]; dsimp only [S33, iofNat, inegSucc]
  rw [uc_e, uc_e, un0_e, abox_e, oRes_e, cells_agg]
  have g1 := Mem.gt_push m ⟨1, rcC wv lo hi, none⟩
  have hA : At (m.push ⟨1, rcC wv lo hi, none⟩) m.next (rcC wv lo hi) := At.push m _
  generalize m.push ⟨1, rcC wv lo hi, none⟩ = m1 at g1 hA ⊢
  unfold ptrTo
  rw [ldN_u, hA.rd, rdn3, oOpt_e]
  refine blended78_sp hlf (hw.mono g1) (hu.mono g1) hb fun m2 e2 => ?_
  have G := g1.trans e2
  have hA2 := hA.mono e2
  have hw2 := hw.mono G
  have hu2 := hu.mono G
  unfold wgtX at hk
  by_cases h : bldE l lo hi b = 0
  · obtain ⟨ws, b', rfl, rfl, q1, q2, q3, q4, q5⟩ := bldE_ok h
    rw [if_pos h, nni_ci, nni_ci, h] at hk
    rw [h]
    try simp (disch := first | omega | with_unfolding_all exact id rfl | with_unfolding_all exact Nat.le_of_ble_eq_true rfl | (simp only [Jd, Je, Jr, Js, Jt, Nat.reduceAdd, allOne, oneCell, Bool.and_self, Jc]; first | done | omega)) only [↓Qa, ↓Qb, ↓Qc, Qd, Qe, Qf, Qg, Qh, Qi, Qj, Qk, Ql, Qm, Qn, Qo, Qp, Qq, Qr, Qs, Qt, Qu, Qv, Qw, Qx, Qy, ptrTo, Qz, QA, QB, QC, QD, QE, QF, QG, QH, QI, QJ, QK, QL, QM, QN, QO, QP, QQ, QR, QS, QT, QU, QV, QW, QX, QY, QZ, Ja, Jb, Jc, Jd, Je, Jf, Jg, Jh, Ji, Jj, Jk, Jl, Jm, Jn, Jo, Jp, Jq, Jr, Js, Jt, Nat.reduceAdd]
    rw [hA2.rd, rdn3, oOpt_e]
    refine weight79_sp hlf hw2 q3 q2 hu2 q5 fun m3 e3 => ?_
    try simp (disch := first | omega | with_unfolding_all exact id rfl | with_unfolding_all exact Nat.le_of_ble_eq_true rfl | (simp only [Jd, Je, Jr, Js, Jt, Nat.reduceAdd, allOne, oneCell, Bool.and_self, Jc]; first | done | omega)) only [↓Qa, ↓Qb, ↓Qc, Qd, Qe, Qf, Qg, Qh, Qi, Qj, Qk, Ql, Qm, Qn, Qo, Qp, Qq, Qr, Qs, Qt, Qu, Qv, Qw, Qx, Qy, ptrTo, Qz, QA, QB, QC, QD, QE, QF, QG, QH, QI, QJ, QK, QL, QM, QN, QO, QP, QQ, QR, QS, QT, QU, QV, QW, QX, QY, QZ, Ja, Jb, Jc, Jd, Je, Jf, Jg, Jh, Ji, Jj, Jk, Jl, Jm, Jn, Jo, Jp, Jq, Jr, Js, Jt, Nat.reduceAdd]
    exact hk _ (G.trans e3)
  · rw [if_neg h] at hk
    try simp (disch := first | omega | with_unfolding_all exact id rfl | with_unfolding_all exact Nat.le_of_ble_eq_true rfl | (simp only [Jd, Je, Jr, Js, Jt, Nat.reduceAdd, allOne, oneCell, Bool.and_self, Jc]; first | done | omega)) only [decide_eq_false h, ↓Qa, ↓Qb, ↓Qc, Qd, Qe, Qf, Qg, Qh, Qi, Qj, Qk, Ql, Qm, Qn, Qo, Qp, Qq, Qr, Qs, Qt, Qu, Qv, Qw, Qx, Qy, ptrTo, Qz, QA, QB, QC, QD, QE, QF, QG, QH, QI, QJ, QK, QL, QM, QN, QO, QP, QQ, QR, QS, QT, QU, QV, QW, QX, QY, QZ, Ja, Jb, Jc, Jd, Je, Jf, Jg, Jh, Ji, Jj, Jk, Jl, Jm, Jn, Jo, Jp, Jq, Jr, Js, Jt, Nat.reduceAdd]
    exact hk _ G
/-- The iterator: each blend that fits is handed on, one after another. X: the blocks that the rounds change; J: what holds after some. -/
theorem fits91_sp {X : Nat → Prop} {J : List (List Nat) → Mem → Prop} {y pr ps : Nat} {wv : Value} {ws : List Nat} {s : Nat} {lo hi : Int} (hlf : 1000000 ≤ lf) (hL : L ≤ m.next) (hw : IN m wv ws) (hws : ∀ w ∈ ws, w ≤ 50) (h10 : ws.length ≤ 10) (hs : s ≤ ws.length)
    (hr : At m pr (rcC wv lo hi)) (hp : At m ps [.int .i64 (s : Int)]) (hXr : ¬ X pr) (hXp : ¬ X ps) (hXw : ∀ c, bid wv = some c → ¬ X c) (hX : ∀ c, X c → c < m.next) (hJ0 : J [] m) (hJm : ∀ seen m m', J seen m → Gt m m' → J seen m')
    (hy : ∀ {m1 u b seen K}, GtX X m m1 → J seen m1 → seen.length ≤ 1000 → IN m1 u b → Bl ws.length s b → (∀ c, bid u = some c → ¬ X c) → (∀ m2, GtX X m1 m2 → J (seen ++ [b]) m2 → K (.bool true) m2 = some ()) → oCallV (runT (tab lf) (n + 8)) (yv y) [u] L m1 K = some ())
    (hk : ∀ m', GtX X m m' → J (fitL ws s lo hi) m' → k (.tuple ⟨[]⟩) m' = some ()) :
    runT (tab lf) (n + 9) 91 [yv y, .pointer (some ⟨pr, 0, none⟩), .pointer (some ⟨ps, 0, none⟩)] L m k = some () := by
  rw [r91]; dsimp only [S91, iofNat, inegSucc]
  have c0 : (rcC wv lo hi)[0]? = some wv := rfl
  have c1 : (rcC wv lo hi)[0 + 1]? = some (.int .i64 lo) := rfl
  have c2 : (rcC wv lo hi)[0 + 2]? = some (.int .i64 hi) := rfl
  have cp : ([.int .i64 (s : Int)] : List Value)[0]? = some (.int .i64 (s : Int)) := rfl
  try simp (disch := first | omega | with_unfolding_all exact id rfl | with_unfolding_all exact Nat.le_of_ble_eq_true rfl | (simp only [Jd, Je, Jr, Js, Jt, Nat.reduceAdd, allOne, oneCell, Bool.and_self, Jc]; first | done | omega)) only [hr.rd, c0, hw.ln, hp.rd, cp, ↓Qa, ↓Qb, Qd, Qe, Qf, Qg, Qh, Qi, Qj, Qk, Ql, Qm, Qn, Qo, Qp, Qq, Qr, Qs, Qt, Qu, Qv, Qw, Qx, Qy, ptrTo, Qz, QA, QB, QC, QD, QE, QF, QG, QH, QI, QJ, QK, QL, QM, QN, QO, QP, QQ, QR, QS, QT, QU, QV, QW, QX, QY, QZ, Ja, Jb, Jc, Jd, Je, Jf, Jg, Jh, Ji, Jj, Jk, Jl, Jm, Jn, Jo, Jp, Jq, Jr, Js, Jt, Nat.reduceAdd]
  refine choose_sp hlf (by omega) (by omega) ?_
  have hcl := chs_le (n := ws.length) (k := s) (by omega)
  refine loop_up (chs ws.length s) (fun i vs m' => vs = [.int .i64 (i : Int)] ∧ GtX X m m' ∧ J (fitI ws s lo hi i) m') (by omega) ⟨rfl, GtX.refl _, hJ0⟩ ?_
  rintro i vs m1 hi' ⟨rfl, e1, hj⟩ self hself
  have n1 := e1.next
  have hr1 := hr.monoX e1 hXr
  have hp1 := hp.monoX e1 hXp
  have hw1 := hw.monoX e1 fun _ => hXw
  try simp (disch := first | omega | with_unfolding_all exact id rfl | with_unfolding_all exact Nat.le_of_ble_eq_true rfl | (simp only [Jd, Je, Jr, Js, Jt, Nat.reduceAdd, allOne, oneCell, Bool.and_self, Jc]; first | done | omega)) only [hp1.rd, cp, ↓Qa, ↓Qb, Qd, Qe, Qf, Qg, Qh, Qi, Qj, Qk, Ql, Qm, Qn, Qo, Qp, Qq, Qr, Qs, Qt, Qu, Qv, Qw, Qx, Qy, ptrTo, Qz, QA, QB, QC, QD, QE, QF, QG, QH, QI, QJ, QK, QL, QM, QN, QO, QP, QQ, QR, QS, QT, QU, QV, QW, QX, QY, QZ, Ja, Jb, Jc, Jd, Je, Jf, Jg, Jh, Ji, Jj, Jk, Jl, Jm, Jn, Jo, Jp, Jq, Jr, Js, Jt, Nat.reduceAdd]
  refine oIf_dec (fun h => ?_) (fun h => ?_)
  · have hic : i < chs ws.length s := by omega
    refine nth_sp hlf (by omega) h10 hs hic fun u m2 e2 hu hub _ => ?_
    have n2 := e2.next
    have hb := nth_bl h10 hs hic
    have hr2 := hr1.mono e2
    have hw2 := hw1.mono e2
    rw [hr2.rd, rdn3, oOpt_e]
    refine weight_sp hlf hw2 hws h10 hu hb fun m3 e3 => ?_
    have hr3 := hr2.mono e3
    have hf6 : ∀ K : Value → Option Unit, oInt .add .i64 (.int .i64 (i : Int)) (.int .i64 1) K = K (.int .i64 ((i + 1 : Nat) : Int)) := fun K => by rw [oInt_add ⟨by omega, by omega⟩]; rfl
    try simp (disch := first | omega | with_unfolding_all exact id rfl | with_unfolding_all exact Nat.le_of_ble_eq_true rfl | (simp only [Jd, Je, Jr, Js, Jt, Nat.reduceAdd, allOne, oneCell, Bool.and_self, Jc]; first | done | omega)) only [hr3.rd, c1, c2, ↓Qa, ↓Qb, Qd, Qe, Qf, Qg, Qh, Qi, Qj, Qk, Ql, Qm, Qn, Qo, Qp, Qq, Qr, Qs, Qt, Qu, Qv, Qw, Qx, Qy, ptrTo, Qz, QA, QB, QC, QD, QE, QF, QG, QH, QI, QJ, QK, QL, QM, QN, QO, QP, QQ, QR, QS, QT, QU, QV, QW, QX, QY, QZ, Ja, Jb, Jc, Jd, Je, Jf, Jg, Jh, Ji, Jj, Jk, Jl, Jm, Jn, Jo, Jp, Jq, Jr, Js, Jt, Nat.reduceAdd]
    refine within_sp _ _ _ ?_
    have E3 := e2.trans e3
    cases hb2 : fitB ws lo hi (nthK s i) with
    | true =>
      have hb2' : decide (lo ≤ (wgt ws (nthK s i) : Int) ∧ (wgt ws (nthK s i) : Int) ≤ hi) = true := hb2
      try simp (disch := first | omega | with_unfolding_all exact id rfl | with_unfolding_all exact Nat.le_of_ble_eq_true rfl | (simp only [Jd, Je, Jr, Js, Jt, Nat.reduceAdd, allOne, oneCell, Bool.and_self, Jc]; first | done | omega)) only [hb2', ↓Qa, ↓Qb, Qd, Qe, Qf, Qg, Qh, Qi, Qj, Qk, Ql, Qm, Qn, Qo, Qp, Qq, Qr, Qs, Qt, Qu, Qv, Qw, Qx, Qy, ptrTo, Qz, QA, QB, QC, QD, QE, QF, QG, QH, QI, QJ, QK, QL, QM, QN, QO, QP, QQ, QR, QS, QT, QU, QV, QW, QX, QY, QZ, Ja, Jb, Jc, Jd, Je, Jf, Jg, Jh, Ji, Jj, Jk, Jl, Jm, Jn, Jo, Jp, Jq, Jr, Js, Jt, Nat.reduceAdd]
      rw [join_e]
      try simp (disch := first | omega | with_unfolding_all exact id rfl | with_unfolding_all exact Nat.le_of_ble_eq_true rfl | (simp only [Jd, Je, Jr, Js, Jt, Nat.reduceAdd, allOne, oneCell, Bool.and_self, Jc]; first | done | omega)) only [hb2', ↓Qa, ↓Qb, Qd, Qe, Qf, Qg, Qh, Qi, Qj, Qk, Ql, Qm, Qn, Qo, Qp, Qq, Qr, Qs, Qt, Qu, Qv, Qw, Qx, Qy, ptrTo, Qz, QA, QB, QC, QD, QE, QF, QG, QH, QI, QJ, QK, QL, QM, QN, QO, QP, QQ, QR, QS, QT, QU, QV, QW, QX, QY, QZ, Ja, Jb, Jc, Jd, Je, Jf, Jg, Jh, Ji, Jj, Jk, Jl, Jm, Jn, Jo, Jp, Jq, Jr, Js, Jt, Nat.reduceAdd]
      refine hy (e1.trans (GtX.of E3)) (hJm _ _ _ hj E3) (by have := fitI_len ws s lo hi i; omega) (hu.mono e3) hb (fun c hc hx => by have := hub c hc; have := hX c hx; omega) fun m4 e4 hj4 => ?_
      try simp (disch := first | omega | with_unfolding_all exact id rfl | with_unfolding_all exact Nat.le_of_ble_eq_true rfl | (simp only [Jd, Je, Jr, Js, Jt, Nat.reduceAdd, allOne, oneCell, Bool.and_self, Jc]; first | done | omega)) only [hf6, ↓Qa, ↓Qb, Qd, Qe, Qf, Qg, Qh, Qi, Qj, Qk, Ql, Qm, Qn, Qo, Qp, Qq, Qr, Qs, Qt, Qu, Qv, Qw, Qx, Qy, ptrTo, Qz, QA, QB, QC, QD, QE, QF, QG, QH, QI, QJ, QK, QL, QM, QN, QO, QP, QQ, QR, QS, QT, QU, QV, QW, QX, QY, QZ, Ja, Jb, Jc, Jd, Je, Jf, Jg, Jh, Ji, Jj, Jk, Jl, Jm, Jn, Jo, Jp, Jq, Jr, Js, Jt, Nat.reduceAdd]
      exact hself hic _ _ ⟨rfl, (e1.trans (GtX.of E3)).trans e4, by rw [fitI_t hb2]; exact hj4⟩
    | false =>
      have hb2' : decide (lo ≤ (wgt ws (nthK s i) : Int) ∧ (wgt ws (nthK s i) : Int) ≤ hi) = false := hb2
      try simp (disch := first | omega | with_unfolding_all exact id rfl | with_unfolding_all exact Nat.le_of_ble_eq_true rfl | (simp only [Jd, Je, Jr, Js, Jt, Nat.reduceAdd, allOne, oneCell, Bool.and_self, Jc]; first | done | omega)) only [hb2', ↓Qa, ↓Qb, Qd, Qe, Qf, Qg, Qh, Qi, Qj, Qk, Ql, Qm, Qn, Qo, Qp, Qq, Qr, Qs, Qt, Qu, Qv, Qw, Qx, Qy, ptrTo, Qz, QA, QB, QC, QD, QE, QF, QG, QH, QI, QJ, QK, QL, QM, QN, QO, QP, QQ, QR, QS, QT, QU, QV, QW, QX, QY, QZ, Ja, Jb, Jc, Jd, Je, Jf, Jg, Jh, Ji, Jj, Jk, Jl, Jm, Jn, Jo, Jp, Jq, Jr, Js, Jt, Nat.reduceAdd]
      repeat (rw [join_e]; try simp (disch := first | omega | with_unfolding_all exact id rfl | with_unfolding_all exact Nat.le_of_ble_eq_true rfl | (simp only [Jd, Je, Jr, Js, Jt, Nat.reduceAdd, allOne, oneCell, Bool.and_self, Jc]; first | done | omega)) only [hb2', ↓Qa, ↓Qb, Qd, Qe, Qf, Qg, Qh, Qi, Qj, Qk, Ql, Qm, Qn, Qo, Qp, Qq, Qr, Qs, Qt, Qu, Qv, Qw, Qx, Qy, ptrTo, Qz, QA, QB, QC, QD, QE, QF, QG, QH, QI, QJ, QK, QL, QM, QN, QO, QP, QQ, QR, QS, QT, QU, QV, QW, QX, QY, QZ, Ja, Jb, Jc, Jd, Je, Jf, Jg, Jh, Ji, Jj, Jk, Jl, Jm, Jn, Jo, Jp, Jq, Jr, Js, Jt, Nat.reduceAdd])
      try simp (disch := first | omega | with_unfolding_all exact id rfl | with_unfolding_all exact Nat.le_of_ble_eq_true rfl | (simp only [Jd, Je, Jr, Js, Jt, Nat.reduceAdd, allOne, oneCell, Bool.and_self, Jc]; first | done | omega)) only [hf6, ↓Qa, ↓Qb, Qd, Qe, Qf, Qg, Qh, Qi, Qj, Qk, Ql, Qm, Qn, Qo, Qp, Qq, Qr, Qs, Qt, Qu, Qv, Qw, Qx, Qy, ptrTo, Qz, QA, QB, QC, QD, QE, QF, QG, QH, QI, QJ, QK, QL, QM, QN, QO, QP, QQ, QR, QS, QT, QU, QV, QW, QX, QY, QZ, Ja, Jb, Jc, Jd, Je, Jf, Jg, Jh, Ji, Jj, Jk, Jl, Jm, Jn, Jo, Jp, Jq, Jr, Js, Jt, Nat.reduceAdd]
      exact hself hic _ _ ⟨rfl, e1.trans (GtX.of E3), by rw [fitI_f hb2]; exact hJm _ _ _ hj E3⟩
  · have : i = chs ws.length s := by omega
    subst this
    exact hk _ e1 hj
end
end Go.Vit
