/- Joined: W11 W12 W13 W15 W16 W17. -/
import Derived.Test.YtgimcgdehgbljaaWA
import Derived.Test.YtgimcgdehgbljaaPA
import Derived.Test.YtgimcgdehgbljaaBlendMetricAll
import Derived.Test.YtgimcgdehgbljaaCoreD
set_option linter.unusedSimpArgs false
set_option linter.unusedVariables false
set_option maxRecDepth 20000
/- Walks: recipes are checked, blends weighed. -/
namespace Go.Vit
open Go Go.Proofs
attribute [local irreducible] runT loopS
abbrev rcC (wv : Value) (lo hi : Int) : List Value := [wv, .int .i64 lo, .int .i64 hi]
abbrev rcp (wv : Value) (lo hi : Int) : Value := .agg ⟨rcC wv lo hi⟩
theorem rdn3 (s : Nat) (wv : Value) (lo hi : Int) : rdn (some ⟨s, rcC wv lo hi, none⟩) 0 3 = some (rcp wv lo hi) := rdn_all rfl
section
variable {lf n L : Nat} {m : Mem} {k : Value → Mem → Option Unit}
theorem weight_sp {wv u : Value} {ws b : List Nat} {kk : Nat} {lo hi : Int} (hlf : 1000000 ≤ lf) (hw : IN m wv ws) (hws : ∀ w ∈ ws, w ≤ 50) (h10 : ws.length ≤ 10) (hu : IN m u b) (hb : Bl ws.length kk b)
    (hk : ∀ m', Gt m m' → k (.int .i64 (wgt ws b : Int)) m' = some ()) : runT (tab lf) (n + 1) 77 [rcp wv lo hi, u] L m k = some () := by
  rw [r77]; dsimp only [S77, iofNat, inegSucc]
  have hkk := hb.le
  have hbl := hb.len
  rw [uc_e, uc_e, un0_e, abox_e, oRes_e, cells_agg]
  have g1 := Mem.gt_push m ⟨1, rcC wv lo hi, none⟩
  have hA : At (m.push ⟨1, rcC wv lo hi, none⟩) m.next (rcC wv lo hi) := At.push m _
  generalize m.push ⟨1, rcC wv lo hi, none⟩ = m1 at g1 hA ⊢
  unfold ptrTo
  have hu1 := hu.mono g1
  have hw1 := hw.mono g1
  try simp (disch := first | omega | with_unfolding_all exact id rfl | with_unfolding_all exact Nat.le_of_ble_eq_true rfl | (simp only [Jd, Je, Jr, Js, Jt, Nat.reduceAdd, allOne, oneCell, Bool.and_self, Jc]; first | done | omega)) only [hu1.ln, ↓Qa, ↓Qb, ↓Qc, Qd, Qe, Qf, Qg, Qh, Qi, Qj, Qk, Ql, Qm, Qn, Qo, Qp, Qq, Qr, Qs, Qt, Qu, Qv, Qw, Qx, Qy, ptrTo, Qz, QA, QB, QC, QD, QE, QF, QG, QH, QI, QJ, QK, QL, QM, QN, QO, QP, QQ, QR, QS, QT, QU, QV, QW, QX, QY, QZ, Ja, Jb, Jc, Jd, Je, Jf, Jg, Jh, Ji, Jj, Jk, Jl, Jm, Jn, Jo, Jp, Jq, Jr, Js, Jt, Nat.reduceAdd]
  refine loop_up b.length (fun i vs m' => vs = [.int .i64 (wgt ws (b.take i) : Int), .int .i64 (i : Int)] ∧ m' = m1) (by omega) ⟨rfl, rfl⟩ ?_
  rintro i vs m' hi' ⟨rfl, rfl⟩ self hself
  have hle := wgt_le hws (b.take i)
  rw [List.length_take] at hle
  try simp (disch := first | omega | with_unfolding_all exact id rfl | with_unfolding_all exact Nat.le_of_ble_eq_true rfl | (simp only [Jd, Je, Jr, Js, Jt, Nat.reduceAdd, allOne, oneCell, Bool.and_self, Jc]; first | done | omega)) only [↓Qa, ↓Qb, ↓Qc, Qd, Qe, Qf, Qg, Qh, Qi, Qj, Qk, Ql, Qm, Qn, Qo, Qp, Qq, Qr, Qs, Qt, Qu, Qv, Qw, Qx, Qy, ptrTo, Qz, QA, QB, QC, QD, QE, QF, QG, QH, QI, QJ, QK, QL, QM, QN, QO, QP, QQ, QR, QS, QT, QU, QV, QW, QX, QY, QZ, Ja, Jb, Jc, Jd, Je, Jf, Jg, Jh, Ji, Jj, Jk, Jl, Jm, Jn, Jo, Jp, Jq, Jr, Js, Jt, Nat.reduceAdd]
  refine oIf_dec (fun h => ?_) (fun h => ?_)
  · have hib : i < b.length := by omega
    have hx := hb.lt _ (List.getElem_mem hib)
    have h50 := hws _ (List.getElem_mem hx)
    have hg : ws.getD b[i] 0 = ws[b[i]] := by rw [List.getD_eq_getElem?_getD, List.getElem?_eq_getElem hx]; rfl
    have hst := wgt_step ws b hib
    rw [hg] at hst
    try simp (disch := first | omega | with_unfolding_all exact id rfl | with_unfolding_all exact Nat.le_of_ble_eq_true rfl | (simp only [Jd, Je, Jr, Js, Jt, Nat.reduceAdd, allOne, oneCell, Bool.and_self, Jc]; first | done | omega)) only [hu1.ia hib, hu1.ld hib, hA.rd, ↓Qa, ↓Qb, ↓Qc, Qd, Qe, Qf, Qg, Qh, Qi, Qj, Qk, Ql, Qm, Qn, Qo, Qp, Qq, Qr, Qs, Qt, Qu, Qv, Qw, Qx, Qy, ptrTo, Qz, QA, QB, QC, QD, QE, QF, QG, QH, QI, QJ, QK, QL, QM, QN, QO, QP, QQ, QR, QS, QT, QU, QV, QW, QX, QY, QZ, Ja, Jb, Jc, Jd, Je, Jf, Jg, Jh, Ji, Jj, Jk, Jl, Jm, Jn, Jo, Jp, Jq, Jr, Js, Jt, Nat.reduceAdd]
    have hcell : (rcC wv lo hi)[0]? = some wv := rfl
    try simp (disch := first | omega | with_unfolding_all exact id rfl | with_unfolding_all exact Nat.le_of_ble_eq_true rfl | (simp only [Jd, Je, Jr, Js, Jt, Nat.reduceAdd, allOne, oneCell, Bool.and_self, Jc]; first | done | omega)) only [hcell, hw1.ia hx, hw1.ld hx, ↓Qa, ↓Qb, ↓Qc, Qd, Qe, Qf, Qg, Qh, Qi, Qj, Qk, Ql, Qm, Qn, Qo, Qp, Qq, Qr, Qs, Qt, Qu, Qv, Qw, Qx, Qy, ptrTo, Qz, QA, QB, QC, QD, QE, QF, QG, QH, QI, QJ, QK, QL, QM, QN, QO, QP, QQ, QR, QS, QT, QU, QV, QW, QX, QY, QZ, Ja, Jb, Jc, Jd, Je, Jf, Jg, Jh, Ji, Jj, Jk, Jl, Jm, Jn, Jo, Jp, Jq, Jr, Js, Jt, Nat.reduceAdd]
    rw [oInt_addN (by omega), oInt_add ⟨by omega, by omega⟩]
    exact hself hib _ _ ⟨by rw [hst]; rfl, rfl⟩
  · have : i = b.length := by omega
    subst this
    rw [List.take_length]
    exact hk _ g1
theorem weight79_sp {wv u : Value} {ws b : List Nat} {kk : Nat} {lo hi : Int} (hlf : 1000000 ≤ lf) (hw : IN m wv ws) (hws : ∀ w ∈ ws, w ≤ 50) (h10 : ws.length ≤ 10) (hu : IN m u b) (hb : Bl ws.length kk b)
    (hk : ∀ m', Gt m m' → k (.int .i64 (wgt ws b : Int)) m' = some ()) : runT (tab lf) (n + 1) 79 [rcp wv lo hi, u] L m k = some () := by
  rw [r79]; dsimp only [S79, iofNat, inegSucc]
  have hkk := hb.le
  have hbl := hb.len
  rw [uc_e, uc_e, un0_e, abox_e, oRes_e, cells_agg]
  have g1 := Mem.gt_push m ⟨1, rcC wv lo hi, none⟩
  have hA : At (m.push ⟨1, rcC wv lo hi, none⟩) m.next (rcC wv lo hi) := At.push m _
  generalize m.push ⟨1, rcC wv lo hi, none⟩ = m1 at g1 hA ⊢
  unfold ptrTo
  have hu1 := hu.mono g1
  have hw1 := hw.mono g1
  try simp (disch := first | omega | with_unfolding_all exact id rfl | with_unfolding_all exact Nat.le_of_ble_eq_true rfl | (simp only [Jd, Je, Jr, Js, Jt, Nat.reduceAdd, allOne, oneCell, Bool.and_self, Jc]; first | done | omega)) only [↓Qa, ↓Qb, ↓Qc, Qd, Qe, Qf, Qg, Qh, Qi, Qj, Qk, Ql, Qm, Qn, Qo, Qp, Qq, Qr, Qs, Qt, Qu, Qv, Qw, Qx, Qy, ptrTo, Qz, QA, QB, QC, QD, QE, QF, QG, QH, QI, QJ, QK, QL, QM, QN, QO, QP, QQ, QR, QS, QT, QU, QV, QW, QX, QY, QZ, Ja, Jb, Jc, Jd, Je, Jf, Jg, Jh, Ji, Jj, Jk, Jl, Jm, Jn, Jo, Jp, Jq, Jr, Js, Jt, Nat.reduceAdd]
  refine loop_up b.length (fun i vs m' => vs = [.int .i64 (wgt ws (b.take i) : Int), .int .i64 (i : Int)] ∧ m' = m1) (by omega) ⟨rfl, rfl⟩ ?_
  rintro i vs m' hi' ⟨rfl, rfl⟩ self hself
  have hle := wgt_le hws (b.take i)
  rw [List.length_take] at hle
  try simp (disch := first | omega | with_unfolding_all exact id rfl | with_unfolding_all exact Nat.le_of_ble_eq_true rfl | (simp only [Jd, Je, Jr, Js, Jt, Nat.reduceAdd, allOne, oneCell, Bool.and_self, Jc]; first | done | omega)) only [hu1.ln, ↓Qa, ↓Qb, ↓Qc, Qd, Qe, Qf, Qg, Qh, Qi, Qj, Qk, Ql, Qm, Qn, Qo, Qp, Qq, Qr, Qs, Qt, Qu, Qv, Qw, Qx, Qy, ptrTo, Qz, QA, QB, QC, QD, QE, QF, QG, QH, QI, QJ, QK, QL, QM, QN, QO, QP, QQ, QR, QS, QT, QU, QV, QW, QX, QY, QZ, Ja, Jb, Jc, Jd, Je, Jf, Jg, Jh, Ji, Jj, Jk, Jl, Jm, Jn, Jo, Jp, Jq, Jr, Js, Jt, Nat.reduceAdd]
  refine oIf_dec (fun h => ?_) (fun h => ?_)
  · have hib : i < b.length := by omega
    have hx := hb.lt _ (List.getElem_mem hib)
    have h50 := hws _ (List.getElem_mem hx)
    have hg : ws.getD b[i] 0 = ws[b[i]] := by rw [List.getD_eq_getElem?_getD, List.getElem?_eq_getElem hx]; rfl
    have hst := wgt_step ws b hib
    rw [hg] at hst
    have hcell : (rcC wv lo hi)[0]? = some wv := rfl
    try simp (disch := first | omega | with_unfolding_all exact id rfl | with_unfolding_all exact Nat.le_of_ble_eq_true rfl | (simp only [Jd, Je, Jr, Js, Jt, Nat.reduceAdd, allOne, oneCell, Bool.and_self, Jc]; first | done | omega)) only [hu1.ia hib, hu1.ld hib, hA.rd, hcell, hw1.ia hx, hw1.ld hx, ↓Qa, ↓Qb, ↓Qc, Qd, Qe, Qf, Qg, Qh, Qi, Qj, Qk, Ql, Qm, Qn, Qo, Qp, Qq, Qr, Qs, Qt, Qu, Qv, Qw, Qx, Qy, ptrTo, Qz, QA, QB, QC, QD, QE, QF, QG, QH, QI, QJ, QK, QL, QM, QN, QO, QP, QQ, QR, QS, QT, QU, QV, QW, QX, QY, QZ, Ja, Jb, Jc, Jd, Je, Jf, Jg, Jh, Ji, Jj, Jk, Jl, Jm, Jn, Jo, Jp, Jq, Jr, Js, Jt, Nat.reduceAdd]
    rw [oInt_addN (by omega), oInt_add ⟨by omega, by omega⟩]
    exact hself hib _ _ ⟨by rw [hst]; rfl, rfl⟩
  · have : i = b.length := by omega
    subst this
    rw [List.take_length]
    exact hk _ g1
/-- Some weight is out of its bounds. -/
def badW (w : Int) : Bool := !decide (0 ≤ w ∧ w ≤ 50)
theorem find92_sp {v : Value} {l : List Int} (hlf : 1000000 ≤ lf) (hv : IL m v l) (hl : l.length < 1000000) (h1 : l.any badW = true → ∀ i : Nat, k (.int .i64 (i : Int)) m = some ()) (h2 : l.any badW = false → k (.int .i64 (-1)) m = some ()) :
    runT (tab lf) (n + 3) 92 [v, .func (.func 82) #[] #[]] L m k = some () := by
  rw [r92]; dsimp only [S92, iofNat, inegSucc]
  try simp (disch := first | omega | with_unfolding_all exact id rfl | with_unfolding_all exact Nat.le_of_ble_eq_true rfl | (simp only [Jd, Je, Jr, Js, Jt, Nat.reduceAdd, allOne, oneCell, Bool.and_self, Jc]; first | done | omega)) only [hv.ln, ↓Qa, ↓Qb, ↓Qc, Qd, Qe, Qf, Qg, Qh, Qi, Qj, Qk, Ql, Qm, Qn, Qo, Qp, Qq, Qr, Qs, Qt, Qu, Qv, Qw, Qx, Qy, ptrTo, Qz, QA, QB, QC, QD, QE, QF, QG, QH, QI, QJ, QK, QL, QM, QN, QO, QP, QQ, QR, QS, QT, QU, QV, QW, QX, QY, QZ, Ja, Jb, Jc, Jd, Je, Jf, Jg, Jh, Ji, Jj, Jk, Jl, Jm, Jn, Jo, Jp, Jq, Jr, Js, Jt, Nat.reduceAdd]
  refine loop_up l.length (fun i vs m' => vs = [.int .i64 (i : Int)] ∧ m' = m ∧ ∀ j (h : j < l.length), j < i → badW l[j] = false) (by omega) ⟨rfl, rfl, fun j h hj => by omega⟩ ?_
  rintro i vs m' hi ⟨rfl, rfl, hno⟩ self hself
  try simp (disch := first | omega | with_unfolding_all exact id rfl | with_unfolding_all exact Nat.le_of_ble_eq_true rfl | (simp only [Jd, Je, Jr, Js, Jt, Nat.reduceAdd, allOne, oneCell, Bool.and_self, Jc]; first | done | omega)) only [↓Qa, ↓Qb, ↓Qc, Qd, Qe, Qf, Qg, Qh, Qi, Qj, Qk, Ql, Qm, Qn, Qo, Qp, Qq, Qr, Qs, Qt, Qu, Qv, Qw, Qx, Qy, ptrTo, Qz, QA, QB, QC, QD, QE, QF, QG, QH, QI, QJ, QK, QL, QM, QN, QO, QP, QQ, QR, QS, QT, QU, QV, QW, QX, QY, QZ, Ja, Jb, Jc, Jd, Je, Jf, Jg, Jh, Ji, Jj, Jk, Jl, Jm, Jn, Jo, Jp, Jq, Jr, Js, Jt, Nat.reduceAdd]
  refine oIf_dec (fun h => ?_) (fun h => ?_)
  · have hil : i < l.length := by omega
    rw [hv.ia hil, oOpt_e, hv.ld hil, oOpt_e, r82]
    dsimp only [S82, iofNat, inegSucc]
    try simp (disch := first | omega | with_unfolding_all exact id rfl | with_unfolding_all exact Nat.le_of_ble_eq_true rfl | (simp only [Jd, Je, Jr, Js, Jt, Nat.reduceAdd, allOne, oneCell, Bool.and_self, Jc]; first | done | omega)) only [↓Qa, ↓Qb, ↓Qc, Qd, Qe, Qf, Qg, Qh, Qi, Qj, Qk, Ql, Qm, Qn, Qo, Qp, Qq, Qr, Qs, Qt, Qu, Qv, Qw, Qx, Qy, ptrTo, Qz, QA, QB, QC, QD, QE, QF, QG, QH, QI, QJ, QK, QL, QM, QN, QO, QP, QQ, QR, QS, QT, QU, QV, QW, QX, QY, QZ, Ja, Jb, Jc, Jd, Je, Jf, Jg, Jh, Ji, Jj, Jk, Jl, Jm, Jn, Jo, Jp, Jq, Jr, Js, Jt, Nat.reduceAdd]
    refine within_sp _ _ _ ?_
    cases hb : badW l[i] with
    | true =>
      have hb' : decide (0 ≤ l[i] ∧ l[i] ≤ 50) = false := by
        cases hd : decide (0 ≤ l[i] ∧ l[i] ≤ 50) with
        | true => unfold badW at hb; rw [hd] at hb; cases hb
        | false => rfl
      rw [hb']
      try simp (disch := first | omega | with_unfolding_all exact id rfl | with_unfolding_all exact Nat.le_of_ble_eq_true rfl | (simp only [Jd, Je, Jr, Js, Jt, Nat.reduceAdd, allOne, oneCell, Bool.and_self, Jc]; first | done | omega)) only [↓Qa, ↓Qb, ↓Qc, Qd, Qe, Qf, Qg, Qh, Qi, Qj, Qk, Ql, Qm, Qn, Qo, Qp, Qq, Qr, Qs, Qt, Qu, Qv, Qw, Qx, Qy, ptrTo, Qz, QA, QB, QC, QD, QE, QF, QG, QH, QI, QJ, QK, QL, QM, QN, QO, QP, QQ, QR, QS, QT, QU, QV, QW, QX, QY, QZ, Ja, Jb, Jc, Jd, Je, Jf, Jg, Jh, Ji, Jj, Jk, Jl, Jm, Jn, Jo, Jp, Jq, Jr, Js, Jt, Nat.reduceAdd]
      exact h1 (List.any_eq_true.2 ⟨_, List.getElem_mem hil, hb⟩) i
    | false =>
      have hb' : decide (0 ≤ l[i] ∧ l[i] ≤ 50) = true := by
        cases hd : decide (0 ≤ l[i] ∧ l[i] ≤ 50) with
        | true => rfl
        | false => unfold badW at hb; rw [hd] at hb; cases hb
      rw [hb']
      try simp (disch := first | omega | with_unfolding_all exact id rfl | with_unfolding_all exact Nat.le_of_ble_eq_true rfl | (simp only [Jd, Je, Jr, Js, Jt, Nat.reduceAdd, allOne, oneCell, Bool.and_self, Jc]; first | done | omega)) only [↓Qa, ↓Qb, ↓Qc, Qd, Qe, Qf, Qg, Qh, Qi, Qj, Qk, Ql, Qm, Qn, Qo, Qp, Qq, Qr, Qs, Qt, Qu, Qv, Qw, Qx, Qy, ptrTo, Qz, QA, QB, QC, QD, QE, QF, QG, QH, QI, QJ, QK, QL, QM, QN, QO, QP, QQ, QR, QS, QT, QU, QV, QW, QX, QY, QZ, Ja, Jb, Jc, Jd, Je, Jf, Jg, Jh, Ji, Jj, Jk, Jl, Jm, Jn, Jo, Jp, Jq, Jr, Js, Jt, Nat.reduceAdd]
      rw [oInt_add ⟨by omega, by omega⟩]
      refine hself hil _ _ ⟨rfl, rfl, fun j hj hji => ?_⟩
      by_cases hje : j = i
      · subst hje; exact hb
      · exact hno j hj (by omega)
  · refine h2 ?_
    rw [List.any_eq_false]
    intro w hw
    obtain ⟨j, hj, rfl⟩ := List.getElem_of_mem hw
    rw [hno j hj (by omega)]; decide
theorem any81_sp {v : Value} {l : List Int} (hlf : 1000000 ≤ lf) (hv : IL m v l) (hl : l.length < 1000000) (hk : k (.bool (l.any badW)) m = some ()) :
    runT (tab lf) (n + 4) 81 [v, .func (.func 82) #[] #[]] L m k = some () := by
  rw [r81]; dsimp only [S81, iofNat, inegSucc]
  try simp (disch := first | omega | with_unfolding_all exact id rfl | with_unfolding_all exact Nat.le_of_ble_eq_true rfl | (simp only [Jd, Je, Jr, Js, Jt, Nat.reduceAdd, allOne, oneCell, Bool.and_self, Jc]; first | done | omega)) only [↓Qa, ↓Qb, ↓Qc, Qd, Qe, Qf, Qg, Qh, Qi, Qj, Qk, Ql, Qm, Qn, Qo, Qp, Qq, Qr, Qs, Qt, Qu, Qv, Qw, Qx, Qy, ptrTo, Qz, QA, QB, QC, QD, QE, QF, QG, QH, QI, QJ, QK, QL, QM, QN, QO, QP, QQ, QR, QS, QT, QU, QV, QW, QX, QY, QZ, Ja, Jb, Jc, Jd, Je, Jf, Jg, Jh, Ji, Jj, Jk, Jl, Jm, Jn, Jo, Jp, Jq, Jr, Js, Jt, Nat.reduceAdd]
  refine find92_sp hlf hv hl (fun h i => ?_) (fun h => ?_)
  · rw [h] at hk
    have d1 : decide ((0 : Int) ≤ (i : Int)) = true := decide_eq_true (by omega)
    try simp (disch := first | omega | with_unfolding_all exact id rfl | with_unfolding_all exact Nat.le_of_ble_eq_true rfl | (simp only [Jd, Je, Jr, Js, Jt, Nat.reduceAdd, allOne, oneCell, Bool.and_self, Jc]; first | done | omega)) only [d1, ↓Qa, ↓Qb, ↓Qc, Qd, Qe, Qf, Qg, Qh, Qi, Qj, Qk, Ql, Qm, Qn, Qo, Qp, Qq, Qr, Qs, Qt, Qu, Qv, Qw, Qx, Qy, ptrTo, Qz, QA, QB, QC, QD, QE, QF, QG, QH, QI, QJ, QK, QL, QM, QN, QO, QP, QQ, QR, QS, QT, QU, QV, QW, QX, QY, QZ, Ja, Jb, Jc, Jd, Je, Jf, Jg, Jh, Ji, Jj, Jk, Jl, Jm, Jn, Jo, Jp, Jq, Jr, Js, Jt, Nat.reduceAdd]
    exact hk
  · rw [h] at hk
    try simp (disch := first | omega | with_unfolding_all exact id rfl | with_unfolding_all exact Nat.le_of_ble_eq_true rfl | (simp only [Jd, Je, Jr, Js, Jt, Nat.reduceAdd, allOne, oneCell, Bool.and_self, Jc]; first | done | omega)) only [↓Qa, ↓Qb, ↓Qc, Qd, Qe, Qf, Qg, Qh, Qi, Qj, Qk, Ql, Qm, Qn, Qo, Qp, Qq, Qr, Qs, Qt, Qu, Qv, Qw, Qx, Qy, ptrTo, Qz, QA, QB, QC, QD, QE, QF, QG, QH, QI, QJ, QK, QL, QM, QN, QO, QP, QQ, QR, QS, QT, QU, QV, QW, QX, QY, QZ, Ja, Jb, Jc, Jd, Je, Jf, Jg, Jh, Ji, Jj, Jk, Jl, Jm, Jn, Jo, Jp, Jq, Jr, Js, Jt, Nat.reduceAdd]
    exact hk
theorem check36_sp {wv : Value} {l : List Int} {lo hi : Int} (hlf : 1000000 ≤ lf) (hw : IL m wv l) (hk : ∀ m', Gt m m' → k (.int .i64 (chkR l lo hi)) m' = some ()) : runT (tab lf) (n + 5) 36 [rcp wv lo hi] L m k = some () := by
  rw [r36]; dsimp only [S36, iofNat, inegSucc]
  rw [uc_e, un0_e, abox_e, oRes_e, cells_agg]
  have g1 := Mem.gt_push m ⟨1, rcC wv lo hi, none⟩
  have hA : At (m.push ⟨1, rcC wv lo hi, none⟩) m.next (rcC wv lo hi) := At.push m _
  have hk := hk _ g1
  generalize m.push ⟨1, rcC wv lo hi, none⟩ = m1 at g1 hA hk ⊢
  unfold ptrTo
  have hw1 := hw.mono g1
  have c0 : (rcC wv lo hi)[0]? = some wv := rfl
  have c1 : (rcC wv lo hi)[0 + 1]? = some (.int .i64 lo) := rfl
  have c2 : (rcC wv lo hi)[0 + 2]? = some (.int .i64 hi) := rfl
  unfold chkR at hk
  by_cases h1 : l.length = 0
  · rw [if_pos h1] at hk
    have d1 : decide ((l.length : Int) = 0) = true := decide_eq_true (by omega)
    try simp (disch := first | omega | with_unfolding_all exact id rfl | with_unfolding_all exact Nat.le_of_ble_eq_true rfl | (simp only [Jd, Je, Jr, Js, Jt, Nat.reduceAdd, allOne, oneCell, Bool.and_self, Jc]; first | done | omega)) only [hA.rd, c0, hw1.ln, d1, ↓Qa, ↓Qb, ↓Qc, Qd, Qe, Qf, Qg, Qh, Qi, Qj, Qk, Ql, Qm, Qn, Qo, Qp, Qq, Qr, Qs, Qt, Qu, Qv, Qw, Qx, Qy, ptrTo, Qz, QA, QB, QC, QD, QE, QF, QG, QH, QI, QJ, QK, QL, QM, QN, QO, QP, QQ, QR, QS, QT, QU, QV, QW, QX, QY, QZ, Ja, Jb, Jc, Jd, Je, Jf, Jg, Jh, Ji, Jj, Jk, Jl, Jm, Jn, Jo, Jp, Jq, Jr, Js, Jt, Nat.reduceAdd]
    exact hk
  rw [if_neg h1] at hk
  have d1 : decide ((l.length : Int) = 0) = false := decide_eq_false (by omega)
  by_cases h2 : 10 < l.length
  · rw [if_pos h2] at hk
    have d2 : decide ((10 : Int) < (l.length : Int)) = true := decide_eq_true (by omega)
    try simp (disch := first | omega | with_unfolding_all exact id rfl | with_unfolding_all exact Nat.le_of_ble_eq_true rfl | (simp only [Jd, Je, Jr, Js, Jt, Nat.reduceAdd, allOne, oneCell, Bool.and_self, Jc]; first | done | omega)) only [hA.rd, c0, hw1.ln, d1, d2, ↓Qa, ↓Qb, ↓Qc, Qd, Qe, Qf, Qg, Qh, Qi, Qj, Qk, Ql, Qm, Qn, Qo, Qp, Qq, Qr, Qs, Qt, Qu, Qv, Qw, Qx, Qy, ptrTo, Qz, QA, QB, QC, QD, QE, QF, QG, QH, QI, QJ, QK, QL, QM, QN, QO, QP, QQ, QR, QS, QT, QU, QV, QW, QX, QY, QZ, Ja, Jb, Jc, Jd, Je, Jf, Jg, Jh, Ji, Jj, Jk, Jl, Jm, Jn, Jo, Jp, Jq, Jr, Js, Jt, Nat.reduceAdd]
    exact hk
  rw [if_neg h2] at hk
  have d2 : decide ((10 : Int) < (l.length : Int)) = false := decide_eq_false (by omega)
  try simp (disch := first | omega | with_unfolding_all exact id rfl | with_unfolding_all exact Nat.le_of_ble_eq_true rfl | (simp only [Jd, Je, Jr, Js, Jt, Nat.reduceAdd, allOne, oneCell, Bool.and_self, Jc]; first | done | omega)) only [hA.rd, c0, hw1.ln, d1, d2, ↓Qa, ↓Qb, ↓Qc, Qd, Qe, Qf, Qg, Qh, Qi, Qj, Qk, Ql, Qm, Qn, Qo, Qp, Qq, Qr, Qs, Qt, Qu, Qv, Qw, Qx, Qy, ptrTo, Qz, QA, QB, QC, QD, QE, QF, QG, QH, QI, QJ, QK, QL, QM, QN, QO, QP, QQ, QR, QS, QT, QU, QV, QW, QX, QY, QZ, Ja, Jb, Jc, Jd, Je, Jf, Jg, Jh, Ji, Jj, Jk, Jl, Jm, Jn, Jo, Jp, Jq, Jr, Js, Jt, Nat.reduceAdd]
  refine any81_sp hlf hw1 (by omega) ?_
  cases h3 : l.any badW with
  | true =>
    have h3' : (l.any fun w => !decide (0 ≤ w ∧ w ≤ 50)) = true := h3
    rw [if_pos h3'] at hk
    try simp (disch := first | omega | with_unfolding_all exact id rfl | with_unfolding_all exact Nat.le_of_ble_eq_true rfl | (simp only [Jd, Je, Jr, Js, Jt, Nat.reduceAdd, allOne, oneCell, Bool.and_self, Jc]; first | done | omega)) only [↓Qa, ↓Qb, ↓Qc, Qd, Qe, Qf, Qg, Qh, Qi, Qj, Qk, Ql, Qm, Qn, Qo, Qp, Qq, Qr, Qs, Qt, Qu, Qv, Qw, Qx, Qy, ptrTo, Qz, QA, QB, QC, QD, QE, QF, QG, QH, QI, QJ, QK, QL, QM, QN, QO, QP, QQ, QR, QS, QT, QU, QV, QW, QX, QY, QZ, Ja, Jb, Jc, Jd, Je, Jf, Jg, Jh, Ji, Jj, Jk, Jl, Jm, Jn, Jo, Jp, Jq, Jr, Js, Jt, Nat.reduceAdd]
    exact hk
  | false =>
    have h3' : ¬ (l.any fun w => !decide (0 ≤ w ∧ w ≤ 50)) = true := by rw [show (l.any fun w => !decide (0 ≤ w ∧ w ≤ 50)) = false from h3]; decide
    rw [if_neg h3'] at hk
    try simp (disch := first | omega | with_unfolding_all exact id rfl | with_unfolding_all exact Nat.le_of_ble_eq_true rfl | (simp only [Jd, Je, Jr, Js, Jt, Nat.reduceAdd, allOne, oneCell, Bool.and_self, Jc]; first | done | omega)) only [hA.rd, ↓Qa, ↓Qb, ↓Qc, Qd, Qe, Qf, Qg, Qh, Qi, Qj, Qk, Ql, Qm, Qn, Qo, Qp, Qq, Qr, Qs, Qt, Qu, Qv, Qw, Qx, Qy, ptrTo, Qz, QA, QB, QC, QD, QE, QF, QG, QH, QI, QJ, QK, QL, QM, QN, QO, QP, QQ, QR, QS, QT, QU, QV, QW, QX, QY, QZ, Ja, Jb, Jc, Jd, Je, Jf, Jg, Jh, Ji, Jj, Jk, Jl, Jm, Jn, Jo, Jp, Jq, Jr, Js, Jt, Nat.reduceAdd]
    by_cases h4 : hi < lo
    · rw [if_pos h4] at hk
      try simp (disch := first | omega | with_unfolding_all exact id rfl | with_unfolding_all exact Nat.le_of_ble_eq_true rfl | (simp only [Jd, Je, Jr, Js, Jt, Nat.reduceAdd, allOne, oneCell, Bool.and_self, Jc]; first | done | omega)) only [decide_eq_true h4, c1, c2, ↓Qa, ↓Qb, ↓Qc, Qd, Qe, Qf, Qg, Qh, Qi, Qj, Qk, Ql, Qm, Qn, Qo, Qp, Qq, Qr, Qs, Qt, Qu, Qv, Qw, Qx, Qy, ptrTo, Qz, QA, QB, QC, QD, QE, QF, QG, QH, QI, QJ, QK, QL, QM, QN, QO, QP, QQ, QR, QS, QT, QU, QV, QW, QX, QY, QZ, Ja, Jb, Jc, Jd, Je, Jf, Jg, Jh, Ji, Jj, Jk, Jl, Jm, Jn, Jo, Jp, Jq, Jr, Js, Jt, Nat.reduceAdd]
      exact hk
    · rw [if_neg h4] at hk
      try simp (disch := first | omega | with_unfolding_all exact id rfl | with_unfolding_all exact Nat.le_of_ble_eq_true rfl | (simp only [Jd, Je, Jr, Js, Jt, Nat.reduceAdd, allOne, oneCell, Bool.and_self, Jc]; first | done | omega)) only [decide_eq_false h4, c1, c2, ↓Qa, ↓Qb, ↓Qc, Qd, Qe, Qf, Qg, Qh, Qi, Qj, Qk, Ql, Qm, Qn, Qo, Qp, Qq, Qr, Qs, Qt, Qu, Qv, Qw, Qx, Qy, ptrTo, Qz, QA, QB, QC, QD, QE, QF, QG, QH, QI, QJ, QK, QL, QM, QN, QO, QP, QQ, QR, QS, QT, QU, QV, QW, QX, QY, QZ, Ja, Jb, Jc, Jd, Je, Jf, Jg, Jh, Ji, Jj, Jk, Jl, Jm, Jn, Jo, Jp, Jq, Jr, Js, Jt, Nat.reduceAdd]
      exact hk
end
end Go.Vit

/- Walks: recipes and blends are checked and weighed; all that fit are gone through. -/
namespace Go.Vit
open Go Go.Proofs
attribute [local irreducible] runT loopS
section
variable {lf n L : Nat} {m : Mem} {k : Value → Mem → Option Unit}
theorem check37_sp {wv : Value} {l : List Int} {lo hi : Int} (hlf : 1000000 ≤ lf) (hw : IL m wv l) (hk : ∀ m', Gt m m' → k (.int .i64 (chkR l lo hi)) m' = some ()) : runT (tab lf) (n + 2) 37 [rcp wv lo hi] L m k = some () := by
  rw [r37]; dsimp only [S37, iofNat, inegSucc]
  rw [uc_e, un0_e, abox_e, oRes_e, cells_agg]
  have g1 := Mem.gt_push m ⟨1, rcC wv lo hi, none⟩
  have hA : At (m.push ⟨1, rcC wv lo hi, none⟩) m.next (rcC wv lo hi) := At.push m _
  have hk := hk _ g1
  generalize m.push ⟨1, rcC wv lo hi, none⟩ = m1 at g1 hA hk ⊢
  unfold ptrTo
  have hw1 := hw.mono g1
  have c0 : (rcC wv lo hi)[0]? = some wv := rfl
  have c1 : (rcC wv lo hi)[0 + 1]? = some (.int .i64 lo) := rfl
  have c2 : (rcC wv lo hi)[0 + 2]? = some (.int .i64 hi) := rfl
  unfold chkR at hk
  by_cases h1 : l.length = 0
  · rw [if_pos h1] at hk
    have d1 : decide ((l.length : Int) = 0) = true := decide_eq_true (by omega)
    try simp (disch := first | omega | with_unfolding_all exact id rfl | with_unfolding_all exact Nat.le_of_ble_eq_true rfl | (simp only [Jd, Je, Jr, Js, Jt, Nat.reduceAdd, allOne, oneCell, Bool.and_self, Jc]; first | done | omega)) only [hA.rd, c0, hw1.ln, d1, ↓Qa, ↓Qb, ↓Qc, Qd, Qe, Qf, Qg, Qh, Qi, Qj, Qk, Ql, Qm, Qn, Qo, Qp, Qq, Qr, Qs, Qt, Qu, Qv, Qw, Qx, Qy, ptrTo, Qz, QA, QB, QC, QD, QE, QF, QG, QH, QI, QJ, QK, QL, QM, QN, QO, QP, QQ, QR, QS, QT, QU, QV, QW, QX, QY, QZ, Ja, Jb, Jc, Jd, Je, Jf, Jg, Jh, Ji, Jj, Jk, Jl, Jm, Jn, Jo, Jp, Jq, Jr, Js, Jt, Nat.reduceAdd]
    exact hk
  rw [if_neg h1] at hk
  have d1 : decide ((l.length : Int) = 0) = false := decide_eq_false (by omega)
  by_cases h2 : 10 < l.length
  · rw [if_pos h2] at hk
    have d2 : decide ((10 : Int) < (l.length : Int)) = true := decide_eq_true (by omega)
    try simp (disch := first | omega | with_unfolding_all exact id rfl | with_unfolding_all exact Nat.le_of_ble_eq_true rfl | (simp only [Jd, Je, Jr, Js, Jt, Nat.reduceAdd, allOne, oneCell, Bool.and_self, Jc]; first | done | omega)) only [hA.rd, c0, hw1.ln, d1, d2, ↓Qa, ↓Qb, ↓Qc, Qd, Qe, Qf, Qg, Qh, Qi, Qj, Qk, Ql, Qm, Qn, Qo, Qp, Qq, Qr, Qs, Qt, Qu, Qv, Qw, Qx, Qy, ptrTo, Qz, QA, QB, QC, QD, QE, QF, QG, QH, QI, QJ, QK, QL, QM, QN, QO, QP, QQ, QR, QS, QT, QU, QV, QW, QX, QY, QZ, Ja, Jb, Jc, Jd, Je, Jf, Jg, Jh, Ji, Jj, Jk, Jl, Jm, Jn, Jo, Jp, Jq, Jr, Js, Jt, Nat.reduceAdd]
    exact hk
  rw [if_neg h2] at hk
  have d2 : decide ((10 : Int) < (l.length : Int)) = false := decide_eq_false (by omega)
  try simp (disch := first | omega | with_unfolding_all exact id rfl | with_unfolding_all exact Nat.le_of_ble_eq_true rfl | (simp only [Jd, Je, Jr, Js, Jt, Nat.reduceAdd, allOne, oneCell, Bool.and_self, Jc]; first | done | omega)) only [hA.rd, c0, hw1.ln, d1, d2, ↓Qa, ↓Qb, ↓Qc, Qd, Qe, Qf, Qg, Qh, Qi, Qj, Qk, Ql, Qm, Qn, Qo, Qp, Qq, Qr, Qs, Qt, Qu, Qv, Qw, Qx, Qy, ptrTo, Qz, QA, QB, QC, QD, QE, QF, QG, QH, QI, QJ, QK, QL, QM, QN, QO, QP, QQ, QR, QS, QT, QU, QV, QW, QX, QY, QZ, Ja, Jb, Jc, Jd, Je, Jf, Jg, Jh, Ji, Jj, Jk, Jl, Jm, Jn, Jo, Jp, Jq, Jr, Js, Jt, Nat.reduceAdd]
  refine loop_up l.length (fun i vs m' => vs = [.int .i64 (i : Int)] ∧ m' = m1 ∧ ∀ j (h : j < l.length), j < i → badW l[j] = false) (by omega) ⟨rfl, rfl, fun j h hj => by omega⟩ ?_
  rintro i vs m' hi' ⟨rfl, rfl, hno⟩ self hself
  try simp (disch := first | omega | with_unfolding_all exact id rfl | with_unfolding_all exact Nat.le_of_ble_eq_true rfl | (simp only [Jd, Je, Jr, Js, Jt, Nat.reduceAdd, allOne, oneCell, Bool.and_self, Jc]; first | done | omega)) only [hA.rd, c0, hw1.ln, ↓Qa, ↓Qb, ↓Qc, Qd, Qe, Qf, Qg, Qh, Qi, Qj, Qk, Ql, Qm, Qn, Qo, Qp, Qq, Qr, Qs, Qt, Qu, Qv, Qw, Qx, Qy, ptrTo, Qz, QA, QB, QC, QD, QE, QF, QG, QH, QI, QJ, QK, QL, QM, QN, QO, QP, QQ, QR, QS, QT, QU, QV, QW, QX, QY, QZ, Ja, Jb, Jc, Jd, Je, Jf, Jg, Jh, Ji, Jj, Jk, Jl, Jm, Jn, Jo, Jp, Jq, Jr, Js, Jt, Nat.reduceAdd]
  refine oIf_dec (fun h => ?_) (fun h => ?_)
  · have hil : i < l.length := by omega
    try simp (disch := first | omega | with_unfolding_all exact id rfl | with_unfolding_all exact Nat.le_of_ble_eq_true rfl | (simp only [Jd, Je, Jr, Js, Jt, Nat.reduceAdd, allOne, oneCell, Bool.and_self, Jc]; first | done | omega)) only [hA.rd, c0, hw1.ia hil, hw1.ld hil, ↓Qa, ↓Qb, ↓Qc, Qd, Qe, Qf, Qg, Qh, Qi, Qj, Qk, Ql, Qm, Qn, Qo, Qp, Qq, Qr, Qs, Qt, Qu, Qv, Qw, Qx, Qy, ptrTo, Qz, QA, QB, QC, QD, QE, QF, QG, QH, QI, QJ, QK, QL, QM, QN, QO, QP, QQ, QR, QS, QT, QU, QV, QW, QX, QY, QZ, Ja, Jb, Jc, Jd, Je, Jf, Jg, Jh, Ji, Jj, Jk, Jl, Jm, Jn, Jo, Jp, Jq, Jr, Js, Jt, Nat.reduceAdd]
    refine in_sp _ _ _ ?_
    cases hb : badW l[i] with
    | true =>
      have hb' : decide (0 ≤ l[i] ∧ l[i] ≤ 50) = false := by
        cases hd : decide (0 ≤ l[i] ∧ l[i] ≤ 50) with
        | true => unfold badW at hb; rw [hd] at hb; cases hb
        | false => rfl
      rw [hb']
      have h3' : (l.any fun w => !decide (0 ≤ w ∧ w ≤ 50)) = true := List.any_eq_true.2 ⟨_, List.getElem_mem hil, hb⟩
      rw [if_pos h3'] at hk
      try simp (disch := first | omega | with_unfolding_all exact id rfl | with_unfolding_all exact Nat.le_of_ble_eq_true rfl | (simp only [Jd, Je, Jr, Js, Jt, Nat.reduceAdd, allOne, oneCell, Bool.and_self, Jc]; first | done | omega)) only [↓Qa, ↓Qb, ↓Qc, Qd, Qe, Qf, Qg, Qh, Qi, Qj, Qk, Ql, Qm, Qn, Qo, Qp, Qq, Qr, Qs, Qt, Qu, Qv, Qw, Qx, Qy, ptrTo, Qz, QA, QB, QC, QD, QE, QF, QG, QH, QI, QJ, QK, QL, QM, QN, QO, QP, QQ, QR, QS, QT, QU, QV, QW, QX, QY, QZ, Ja, Jb, Jc, Jd, Je, Jf, Jg, Jh, Ji, Jj, Jk, Jl, Jm, Jn, Jo, Jp, Jq, Jr, Js, Jt, Nat.reduceAdd]
      exact hk
    | false =>
      have hb' : decide (0 ≤ l[i] ∧ l[i] ≤ 50) = true := by
        cases hd : decide (0 ≤ l[i] ∧ l[i] ≤ 50) with
        | true => rfl
        | false => unfold badW at hb; rw [hd] at hb; cases hb
      rw [hb']
      try simp (disch := first | omega | with_unfolding_all exact id rfl | with_unfolding_all exact Nat.le_of_ble_eq_true rfl | (simp only [Jd, Je, Jr, Js, Jt, Nat.reduceAdd, allOne, oneCell, Bool.and_self, Jc]; first | done | omega)) only [↓Qa, ↓Qb, ↓Qc, Qd, Qe, Qf, Qg, Qh, Qi, Qj, Qk, Ql, Qm, Qn, Qo, Qp, Qq, Qr, Qs, Qt, Qu, Qv, Qw, Qx, Qy, ptrTo, Qz, QA, QB, QC, QD, QE, QF, QG, QH, QI, QJ, QK, QL, QM, QN, QO, QP, QQ, QR, QS, QT, QU, QV, QW, QX, QY, QZ, Ja, Jb, Jc, Jd, Je, Jf, Jg, Jh, Ji, Jj, Jk, Jl, Jm, Jn, Jo, Jp, Jq, Jr, Js, Jt, Nat.reduceAdd]
      rw [oInt_add ⟨by omega, by omega⟩]
      refine hself hil _ _ ⟨rfl, rfl, fun j hj hji => ?_⟩
      by_cases hje : j = i
      · subst hje; exact hb
      · exact hno j hj (by omega)
  · have h3' : ¬ (l.any fun w => !decide (0 ≤ w ∧ w ≤ 50)) = true := by
      rw [Bool.not_eq_true, List.any_eq_false]
      intro w hw
      obtain ⟨j, hj, rfl⟩ := List.getElem_of_mem hw
      have := hno j hj (by omega)
      unfold badW at this
      rw [this]; decide
    rw [if_neg h3'] at hk
    by_cases h4 : hi < lo
    · rw [if_pos h4] at hk
      try simp (disch := first | omega | with_unfolding_all exact id rfl | with_unfolding_all exact Nat.le_of_ble_eq_true rfl | (simp only [Jd, Je, Jr, Js, Jt, Nat.reduceAdd, allOne, oneCell, Bool.and_self, Jc]; first | done | omega)) only [hA.rd, decide_eq_true h4, c1, c2, ↓Qa, ↓Qb, ↓Qc, Qd, Qe, Qf, Qg, Qh, Qi, Qj, Qk, Ql, Qm, Qn, Qo, Qp, Qq, Qr, Qs, Qt, Qu, Qv, Qw, Qx, Qy, ptrTo, Qz, QA, QB, QC, QD, QE, QF, QG, QH, QI, QJ, QK, QL, QM, QN, QO, QP, QQ, QR, QS, QT, QU, QV, QW, QX, QY, QZ, Ja, Jb, Jc, Jd, Je, Jf, Jg, Jh, Ji, Jj, Jk, Jl, Jm, Jn, Jo, Jp, Jq, Jr, Js, Jt, Nat.reduceAdd]
      exact hk
    · rw [if_neg h4] at hk
      try simp (disch := first | omega | with_unfolding_all exact id rfl | with_unfolding_all exact Nat.le_of_ble_eq_true rfl | (simp only [Jd, Je, Jr, Js, Jt, Nat.reduceAdd, allOne, oneCell, Bool.and_self, Jc]; first | done | omega)) only [hA.rd, decide_eq_false h4, c1, c2, ↓Qa, ↓Qb, ↓Qc, Qd, Qe, Qf, Qg, Qh, Qi, Qj, Qk, Ql, Qm, Qn, Qo, Qp, Qq, Qr, Qs, Qt, Qu, Qv, Qw, Qx, Qy, ptrTo, Qz, QA, QB, QC, QD, QE, QF, QG, QH, QI, QJ, QK, QL, QM, QN, QO, QP, QQ, QR, QS, QT, QU, QV, QW, QX, QY, QZ, Ja, Jb, Jc, Jd, Je, Jf, Jg, Jh, Ji, Jj, Jk, Jl, Jm, Jn, Jo, Jp, Jq, Jr, Js, Jt, Nat.reduceAdd]
      exact hk
theorem blended_sp {wv u : Value} {l b : List Int} {lo hi : Int} (hlf : 1000000 ≤ lf) (hw : IL m wv l) (hu : IL m u b) (hb : b.length < 1000000) (hk : ∀ m', Gt m m' → k (.int .i64 (bldE l lo hi b)) m' = some ()) : runT (tab lf) (n + 6) 76 [rcp wv lo hi, u] L m k = some () := by
  rw [r76]; dsimp only [S76, iofNat, inegSucc]
  rw [uc_e, uc_e, un0_e, abox_e, oRes_e, cells_agg]
  have g1 := Mem.gt_push m ⟨1, rcC wv lo hi, none⟩
  have hA : At (m.push ⟨1, rcC wv lo hi, none⟩) m.next (rcC wv lo hi) := At.push m _
  generalize m.push ⟨1, rcC wv lo hi, none⟩ = m1 at g1 hA ⊢
  unfold ptrTo
  have c0 : (rcC wv lo hi)[0]? = some wv := rfl
  rw [ldN_u, hA.rd, rdn3, oOpt_e]
  refine check36_sp hlf (hw.mono g1) fun m2 e2 => ?_
  have G := g1.trans e2
  have hA2 := hA.mono e2
  have hw2 := hw.mono G
  unfold bldE at hk
  by_cases h : chkR l lo hi = 0
  · rw [if_pos h] at hk
    rw [h]
    try simp (disch := first | omega | with_unfolding_all exact id rfl | with_unfolding_all exact Nat.le_of_ble_eq_true rfl | (simp only [Jd, Je, Jr, Js, Jt, Nat.reduceAdd, allOne, oneCell, Bool.and_self, Jc]; first | done | omega)) only [hA2.rd, c0, hw2.ln, ↓Qa, ↓Qb, ↓Qc, Qd, Qe, Qf, Qg, Qh, Qi, Qj, Qk, Ql, Qm, Qn, Qo, Qp, Qq, Qr, Qs, Qt, Qu, Qv, Qw, Qx, Qy, ptrTo, Qz, QA, QB, QC, QD, QE, QF, QG, QH, QI, QJ, QK, QL, QM, QN, QO, QP, QQ, QR, QS, QT, QU, QV, QW, QX, QY, QZ, Ja, Jb, Jc, Jd, Je, Jf, Jg, Jh, Ji, Jj, Jk, Jl, Jm, Jn, Jo, Jp, Jq, Jr, Js, Jt, Nat.reduceAdd]
    refine check_sp hlf (hu.mono G) hb ?_
    exact hk _ G
  · rw [if_neg h] at hk
    try simp (disch := first | omega | with_unfolding_all exact id rfl | with_unfolding_all exact Nat.le_of_ble_eq_true rfl | (simp only [Jd, Je, Jr, Js, Jt, Nat.reduceAdd, allOne, oneCell, Bool.and_self, Jc]; first | done | omega)) only [decide_eq_false h, ↓Qa, ↓Qb, ↓Qc, Qd, Qe, Qf, Qg, Qh, Qi, Qj, Qk, Ql, Qm, Qn, Qo, Qp, Qq, Qr, Qs, Qt, Qu, Qv, Qw, Qx, Qy, ptrTo, Qz, QA, QB, QC, QD, QE, QF, QG, QH, QI, QJ, QK, QL, QM, QN, QO, QP, QQ, QR, QS, QT, QU, QV, QW, QX, QY, QZ, Ja, Jb, Jc, Jd, Je, Jf, Jg, Jh, Ji, Jj, Jk, Jl, Jm, Jn, Jo, Jp, Jq, Jr, Js, Jt, Nat.reduceAdd]
    exact hk _ G
theorem blended78_sp {wv u : Value} {l b : List Int} {lo hi : Int} (hlf : 1000000 ≤ lf) (hw : IL m wv l) (hu : IL m u b) (hb : b.length < 1000000) (hk : ∀ m', Gt m m' → k (.int .i64 (bldE l lo hi b)) m' = some ()) : runT (tab lf) (n + 6) 78 [rcp wv lo hi, u] L m k = some () := by
  rw [r78]; dsimp only [S78, iofNat, inegSucc]
  rw [uc_e, uc_e, un0_e, abox_e, oRes_e, cells_agg]
  have g1 := Mem.gt_push m ⟨1, rcC wv lo hi, none⟩
  have hA : At (m.push ⟨1, rcC wv lo hi, none⟩) m.next (rcC wv lo hi) := At.push m _
  generalize m.push ⟨1, rcC wv lo hi, none⟩ = m1 at g1 hA ⊢
  unfold ptrTo
  have c0 : (rcC wv lo hi)[0]? = some wv := rfl
  rw [ldN_u, hA.rd, rdn3, oOpt_e]
  refine check37_sp hlf (hw.mono g1) fun m2 e2 => ?_
  have G := g1.trans e2
  have hA2 := hA.mono e2
  have hw2 := hw.mono G
  unfold bldE at hk
  by_cases h : chkR l lo hi = 0
  · rw [if_pos h] at hk
    rw [h]
    have d0 : decide ((0 : Int) = 0) = true := by decide
    try simp (disch := first | omega | with_unfolding_all exact id rfl | with_unfolding_all exact Nat.le_of_ble_eq_true rfl | (simp only [Jd, Je, Jr, Js, Jt, Nat.reduceAdd, allOne, oneCell, Bool.and_self, Jc]; first | done | omega)) only [hA2.rd, c0, hw2.ln, d0, ↓Qa, ↓Qb, ↓Qc, Qd, Qe, Qf, Qg, Qh, Qi, Qj, Qk, Ql, Qm, Qn, Qo, Qp, Qq, Qr, Qs, Qt, Qu, Qv, Qw, Qx, Qy, ptrTo, Qz, QA, QB, QC, QD, QE, QF, QG, QH, QI, QJ, QK, QL, QM, QN, QO, QP, QQ, QR, QS, QT, QU, QV, QW, QX, QY, QZ, Ja, Jb, Jc, Jd, Je, Jf, Jg, Jh, Ji, Jj, Jk, Jl, Jm, Jn, Jo, Jp, Jq, Jr, Js, Jt, Nat.reduceAdd]
    refine check26_sp hlf (hu.mono G) hb ?_
    try simp (disch := first | omega | with_unfolding_all exact id rfl | with_unfolding_all exact Nat.le_of_ble_eq_true rfl | (simp only [Jd, Je, Jr, Js, Jt, Nat.reduceAdd, allOne, oneCell, Bool.and_self, Jc]; first | done | omega)) only [↓Qa, ↓Qb, ↓Qc, Qd, Qe, Qf, Qg, Qh, Qi, Qj, Qk, Ql, Qm, Qn, Qo, Qp, Qq, Qr, Qs, Qt, Qu, Qv, Qw, Qx, Qy, ptrTo, Qz, QA, QB, QC, QD, QE, QF, QG, QH, QI, QJ, QK, QL, QM, QN, QO, QP, QQ, QR, QS, QT, QU, QV, QW, QX, QY, QZ, Ja, Jb, Jc, Jd, Je, Jf, Jg, Jh, Ji, Jj, Jk, Jl, Jm, Jn, Jo, Jp, Jq, Jr, Js, Jt, Nat.reduceAdd]
    exact hk _ G
  · rw [if_neg h] at hk
    try simp (disch := first | omega | with_unfolding_all exact id rfl | with_unfolding_all exact Nat.le_of_ble_eq_true rfl | (simp only [Jd, Je, Jr, Js, Jt, Nat.reduceAdd, allOne, oneCell, Bool.and_self, Jc]; first | done | omega)) only [decide_eq_false h, ↓Qa, ↓Qb, ↓Qc, Qd, Qe, Qf, Qg, Qh, Qi, Qj, Qk, Ql, Qm, Qn, Qo, Qp, Qq, Qr, Qs, Qt, Qu, Qv, Qw, Qx, Qy, ptrTo, Qz, QA, QB, QC, QD, QE, QF, QG, QH, QI, QJ, QK, QL, QM, QN, QO, QP, QQ, QR, QS, QT, QU, QV, QW, QX, QY, QZ, Ja, Jb, Jc, Jd, Je, Jf, Jg, Jh, Ji, Jj, Jk, Jl, Jm, Jn, Jo, Jp, Jq, Jr, Js, Jt, Nat.reduceAdd]
    exact hk _ G
/-- The weight of a blend, as it is answered. -/
def wgtX (l : List Int) (lo hi : Int) (b : List Int) : Int := if bldE l lo hi b = 0 then (wgt (nni l) (nni b) : Int) else 0
theorem weight32_sp {wv u : Value} {l b : List Int} {lo hi : Int} (hlf : 1000000 ≤ lf) (hw : IL m wv l) (hu : IL m u b) (hb : b.length < 1000000) (hk : ∀ m', Gt m m' → k (.tuple ⟨[.int .i64 (wgtX l lo hi b), .int .i64 (bldE l lo hi b)]⟩) m' = some ()) : runT (tab lf) (n + 7) 32 [rcp wv lo hi, u] L m k = some () := by
  rw [r32]; dsimp only [S32, iofNat, inegSucc]
  rw [uc_e, uc_e, un0_e, abox_e, oRes_e, cells_agg]
  have g1 := Mem.gt_push m ⟨1, rcC wv lo hi, none⟩
  have hA : At (m.push ⟨1, rcC wv lo hi, none⟩) m.next (rcC wv lo hi) := At.push m _
  generalize m.push ⟨1, rcC wv lo hi, none⟩ = m1 at g1 hA ⊢
  unfold ptrTo
  rw [ldN_u, hA.rd, rdn3, oOpt_e]
  refine blended_sp hlf (hw.mono g1) (hu.mono g1) hb fun m2 e2 => ?_
  have G := g1.trans e2
  have hA2 := hA.mono e2
  have hw2 := hw.mono G
  have hu2 := hu.mono G
  unfold wgtX at hk
  by_cases h : bldE l lo hi b = 0
  · obtain ⟨ws, b', rfl, rfl, q1, q2, q3, q4, q5⟩ := bldE_ok h
    rw [if_pos h, nni_ci, nni_ci, h] at hk
    rw [h]
    try simp (disch := first | omega | with_unfolding_all exact id rfl | with_unfolding_all exact Nat.le_of_ble_eq_true rfl | (simp only [Jd, Je, Jr, Js, Jt, Nat.reduceAdd, allOne, oneCell, Bool.and_self, Jc]; first | done | omega)) only [↓Qa, ↓Qb, ↓Qc, Qd, Qe, Qf, Qg, Qh, Qi, Qj, Qk, Ql, Qm, Qn, Qo, Qp, Qq, Qr, Qs, Qt, Qu, Qv, Qw, Qx, Qy, ptrTo, Qz, QA, QB, QC, QD, QE, QF, QG, QH, QI, QJ, QK, QL, QM, QN, QO, QP, QQ, QR, QS, QT, QU, QV, QW, QX, QY, QZ, Ja, Jb, Jc, Jd, Je, Jf, Jg, Jh, Ji, Jj, Jk, Jl, Jm, Jn, Jo, Jp, Jq, Jr, Js, Jt, Nat.reduceAdd]
    rw [hA2.rd, rdn3, oOpt_e]
    refine weight_sp hlf hw2 q3 q2 hu2 q5 fun m3 e3 => ?_
    try simp (disch := first | omega | with_unfolding_all exact id rfl | with_unfolding_all exact Nat.le_of_ble_eq_true rfl | (simp only [Jd, Je, Jr, Js, Jt, Nat.reduceAdd, allOne, oneCell, Bool.and_self, Jc]; first | done | omega)) only [↓Qa, ↓Qb, ↓Qc, Qd, Qe, Qf, Qg, Qh, Qi, Qj, Qk, Ql, Qm, Qn, Qo, Qp, Qq, Qr, Qs, Qt, Qu, Qv, Qw, Qx, Qy, ptrTo, Qz, QA, QB, QC, QD, QE, QF, QG, QH, QI, QJ, QK, QL, QM, QN, QO, QP, QQ, QR, QS, QT, QU, QV, QW, QX, QY, QZ, Ja, Jb, Jc, Jd, Je, Jf, Jg, Jh, Ji, Jj, Jk, Jl, Jm, Jn, Jo, Jp, Jq, Jr, Js, Jt, Nat.reduceAdd]
    exact hk _ (G.trans e3)
  · rw [if_neg h] at hk
    try simp (disch := first | omega | with_unfolding_all exact id rfl | with_unfolding_all exact Nat.le_of_ble_eq_true rfl | (simp only [Jd, Je, Jr, Js, Jt, Nat.reduceAdd, allOne, oneCell, Bool.and_self, Jc]; first | done | omega)) only [decide_eq_false h, ↓Qa, ↓Qb, ↓Qc, Qd, Qe, Qf, Qg, Qh, Qi, Qj, Qk, Ql, Qm, Qn, Qo, Qp, Qq, Qr, Qs, Qt, Qu, Qv, Qw, Qx, Qy, ptrTo, Qz, QA, QB, QC, QD, QE, QF, QG, QH, QI, QJ, QK, QL, QM, QN, QO, QP, QQ, QR, QS, QT, QU, QV, QW, QX, QY, QZ, Ja, Jb, Jc, Jd, Je, Jf, Jg, Jh, Ji, Jj, Jk, Jl, Jm, Jn, Jo, Jp, Jq, Jr, Js, Jt, Nat.reduceAdd]
    exact hk _ G
theorem weight33_sp {wv u : Value} {l b : List Int} {lo hi : Int} (hlf : 1000000 ≤ lf) (hw : IL m wv l) (hu : IL m u b) (hb : b.length < 1000000) (hk : ∀ m', Gt m m' → k (.tuple ⟨[.int .i64 (wgtX l lo hi b), .int .i64 (bldE l lo hi b)]⟩) m' = some ()) : runT (tab lf) (n + 7) 33 [rcp wv lo hi, u] L m k = some () := by
  rw [r33]; dsimp only [S33, iofNat, inegSucc]
  rw [uc_e, uc_e, un0_e, abox_e, oRes_e, cells_agg]
  have g1 := Mem.gt_push m ⟨1, rcC wv lo hi, none⟩
  have hA : At (m.push ⟨1, rcC wv lo hi, none⟩) m.next (rcC wv lo hi) := At.push m _
  generalize m.push ⟨1, rcC wv lo hi, none⟩ = m1 at g1 hA ⊢
  unfold ptrTo
  rw [ldN_u, hA.rd, rdn3, oOpt_e]
  refine blended78_sp hlf (hw.mono g1) (hu.mono g1) hb fun m2 e2 => ?_
  have G := g1.trans e2
  have hA2 := hA.mono e2
  have hw2 := hw.mono G
  have hu2 := hu.mono G
  unfold wgtX at hk
  by_cases h : bldE l lo hi b = 0
  · obtain ⟨ws, b', rfl, rfl, q1, q2, q3, q4, q5⟩ := bldE_ok h
    rw [if_pos h, nni_ci, nni_ci, h] at hk
    rw [h]
    try simp (disch := first | omega | with_unfolding_all exact id rfl | with_unfolding_all exact Nat.le_of_ble_eq_true rfl | (simp only [Jd, Je, Jr, Js, Jt, Nat.reduceAdd, allOne, oneCell, Bool.and_self, Jc]; first | done | omega)) only [↓Qa, ↓Qb, ↓Qc, Qd, Qe, Qf, Qg, Qh, Qi, Qj, Qk, Ql, Qm, Qn, Qo, Qp, Qq, Qr, Qs, Qt, Qu, Qv, Qw, Qx, Qy, ptrTo, Qz, QA, QB, QC, QD, QE, QF, QG, QH, QI, QJ, QK, QL, QM, QN, QO, QP, QQ, QR, QS, QT, QU, QV, QW, QX, QY, QZ, Ja, Jb, Jc, Jd, Je, Jf, Jg, Jh, Ji, Jj, Jk, Jl, Jm, Jn, Jo, Jp, Jq, Jr, Js, Jt, Nat.reduceAdd]
    rw [hA2.rd, rdn3, oOpt_e]
    refine weight79_sp hlf hw2 q3 q2 hu2 q5 fun m3 e3 => ?_
    try simp (disch := first | omega | with_unfolding_all exact id rfl | with_unfolding_all exact Nat.le_of_ble_eq_true rfl | (simp only [Jd, Je, Jr, Js, Jt, Nat.reduceAdd, allOne, oneCell, Bool.and_self, Jc]; first | done | omega)) only [↓Qa, ↓Qb, ↓Qc, Qd, Qe, Qf, Qg, Qh, Qi, Qj, Qk, Ql, Qm, Qn, Qo, Qp, Qq, Qr, Qs, Qt, Qu, Qv, Qw, Qx, Qy, ptrTo, Qz, QA, QB, QC, QD, QE, QF, QG, QH, QI, QJ, QK, QL, QM, QN, QO, QP, QQ, QR, QS, QT, QU, QV, QW, QX, QY, QZ, Ja, Jb, Jc, Jd, Je, Jf, Jg, Jh, Ji, Jj, Jk, Jl, Jm, Jn, Jo, Jp, Jq, Jr, Js, Jt, Nat.reduceAdd]
    exact hk _ (G.trans e3)
  · rw [if_neg h] at hk
    try simp (disch := first | omega | with_unfolding_all exact id rfl | with_unfolding_all exact Nat.le_of_ble_eq_true rfl | (simp only [Jd, Je, Jr, Js, Jt, Nat.reduceAdd, allOne, oneCell, Bool.and_self, Jc]; first | done | omega)) only [decide_eq_false h, ↓Qa, ↓Qb, ↓Qc, Qd, Qe, Qf, Qg, Qh, Qi, Qj, Qk, Ql, Qm, Qn, Qo, Qp, Qq, Qr, Qs, Qt, Qu, Qv, Qw, Qx, Qy, ptrTo, Qz, QA, QB, QC, QD, QE, QF, QG, QH, QI, QJ, QK, QL, QM, QN, QO, QP, QQ, QR, QS, QT, QU, QV, QW, QX, QY, QZ, Ja, Jb, Jc, Jd, Je, Jf, Jg, Jh, Ji, Jj, Jk, Jl, Jm, Jn, Jo, Jp, Jq, Jr, Js, Jt, Nat.reduceAdd]
    exact hk _ G
/-- The iterator: each blend that fits is handed on, one after another. X: the blocks that the rounds change; J: what holds after some. -/
theorem fits91_sp {X : Nat → Prop} {J : List (List Nat) → Mem → Prop} {y pr ps : Nat} {wv : Value} {ws : List Nat} {s : Nat} {lo hi : Int} (hlf : 1000000 ≤ lf) (hL : L ≤ m.next) (hw : IN m wv ws) (hws : ∀ w ∈ ws, w ≤ 50) (h10 : ws.length ≤ 10) (hs : s ≤ ws.length)
    (hr : At m pr (rcC wv lo hi)) (hp : At m ps [.int .i64 (s : Int)]) (hXr : ¬ X pr) (hXp : ¬ X ps) (hXw : ∀ c, bid wv = some c → ¬ X c) (hX : ∀ c, X c → c < m.next) (hJ0 : J [] m) (hJm : ∀ seen m m', J seen m → Gt m m' → J seen m')
    (hy : ∀ {m1 u b seen K}, GtX X m m1 → J seen m1 → seen.length ≤ 1000 → IN m1 u b → Bl ws.length s b → (∀ c, bid u = some c → ¬ X c) → (∀ m2, GtX X m1 m2 → J (seen ++ [b]) m2 → K (.bool true) m2 = some ()) → oCallV (runT (tab lf) (n + 8)) (yv y) [u] L m1 K = some ())
    (hk : ∀ m', GtX X m m' → J (fitL ws s lo hi) m' → k (.tuple ⟨[]⟩) m' = some ()) :
    runT (tab lf) (n + 9) 91 [yv y, .pointer (some ⟨pr, 0, none⟩), .pointer (some ⟨ps, 0, none⟩)] L m k = some () := by
  rw [r91]; dsimp only [S91, iofNat, inegSucc]
  have c0 : (rcC wv lo hi)[0]? = some wv := rfl
  have c1 : (rcC wv lo hi)[0 + 1]? = some (.int .i64 lo) := rfl
  have c2 : (rcC wv lo hi)[0 + 2]? = some (.int .i64 hi) := rfl
  have cp : ([.int .i64 (s : Int)] : List Value)[0]? = some (.int .i64 (s : Int)) := rfl
  try simp (disch := first | omega | with_unfolding_all exact id rfl | with_unfolding_all exact Nat.le_of_ble_eq_true rfl | (simp only [Jd, Je, Jr, Js, Jt, Nat.reduceAdd, allOne, oneCell, Bool.and_self, Jc]; first | done | omega)) only [hr.rd, c0, hw.ln, hp.rd, cp, ↓Qa, ↓Qb, Qd, Qe, Qf, Qg, Qh, Qi, Qj, Qk, Ql, Qm, Qn, Qo, Qp, Qq, Qr, Qs, Qt, Qu, Qv, Qw, Qx, Qy, ptrTo, Qz, QA, QB, QC, QD, QE, QF, QG, QH, QI, QJ, QK, QL, QM, QN, QO, QP, QQ, QR, QS, QT, QU, QV, QW, QX, QY, QZ, Ja, Jb, Jc, Jd, Je, Jf, Jg, Jh, Ji, Jj, Jk, Jl, Jm, Jn, Jo, Jp, Jq, Jr, Js, Jt, Nat.reduceAdd]
  refine choose_sp hlf (by omega) (by omega) ?_
  have hcl := chs_le (n := ws.length) (k := s) (by omega)
  refine loop_up (chs ws.length s) (fun i vs m' => vs = [.int .i64 (i : Int)] ∧ GtX X m m' ∧ J (fitI ws s lo hi i) m') (by omega) ⟨rfl, GtX.refl _, hJ0⟩ ?_
  rintro i vs m1 hi' ⟨rfl, e1, hj⟩ self hself
  have n1 := e1.next
  have hr1 := hr.monoX e1 hXr
  have hp1 := hp.monoX e1 hXp
  have hw1 := hw.monoX e1 fun _ => hXw
  try simp (disch := first | omega | with_unfolding_all exact id rfl | with_unfolding_all exact Nat.le_of_ble_eq_true rfl | (simp only [Jd, Je, Jr, Js, Jt, Nat.reduceAdd, allOne, oneCell, Bool.and_self, Jc]; first | done | omega)) only [hp1.rd, cp, ↓Qa, ↓Qb, Qd, Qe, Qf, Qg, Qh, Qi, Qj, Qk, Ql, Qm, Qn, Qo, Qp, Qq, Qr, Qs, Qt, Qu, Qv, Qw, Qx, Qy, ptrTo, Qz, QA, QB, QC, QD, QE, QF, QG, QH, QI, QJ, QK, QL, QM, QN, QO, QP, QQ, QR, QS, QT, QU, QV, QW, QX, QY, QZ, Ja, Jb, Jc, Jd, Je, Jf, Jg, Jh, Ji, Jj, Jk, Jl, Jm, Jn, Jo, Jp, Jq, Jr, Js, Jt, Nat.reduceAdd]
  refine oIf_dec (fun h => ?_) (fun h => ?_)
  · have hic : i < chs ws.length s := by omega
    refine nth_sp hlf (by omega) h10 hs hic fun u m2 e2 hu hub _ => ?_
    have n2 := e2.next
    have hb := nth_bl h10 hs hic
    have hr2 := hr1.mono e2
    have hw2 := hw1.mono e2
    rw [hr2.rd, rdn3, oOpt_e]
    refine weight_sp hlf hw2 hws h10 hu hb fun m3 e3 => ?_
    have hr3 := hr2.mono e3
    have hf6 : ∀ K : Value → Option Unit, oInt .add .i64 (.int .i64 (i : Int)) (.int .i64 1) K = K (.int .i64 ((i + 1 : Nat) : Int)) := fun K => by rw [oInt_add ⟨by omega, by omega⟩]; rfl
    try simp (disch := first | omega | with_unfolding_all exact id rfl | with_unfolding_all exact Nat.le_of_ble_eq_true rfl | (simp only [Jd, Je, Jr, Js, Jt, Nat.reduceAdd, allOne, oneCell, Bool.and_self, Jc]; first | done | omega)) only [hr3.rd, c1, c2, ↓Qa, ↓Qb, Qd, Qe, Qf, Qg, Qh, Qi, Qj, Qk, Ql, Qm, Qn, Qo, Qp, Qq, Qr, Qs, Qt, Qu, Qv, Qw, Qx, Qy, ptrTo, Qz, QA, QB, QC, QD, QE, QF, QG, QH, QI, QJ, QK, QL, QM, QN, QO, QP, QQ, QR, QS, QT, QU, QV, QW, QX, QY, QZ, Ja, Jb, Jc, Jd, Je, Jf, Jg, Jh, Ji, Jj, Jk, Jl, Jm, Jn, Jo, Jp, Jq, Jr, Js, Jt, Nat.reduceAdd]
    refine within_sp _ _ _ ?_
    have E3 := e2.trans e3
    cases hb2 : fitB ws lo hi (nthK s i) with
    | true =>
      have hb2' : decide (lo ≤ (wgt ws (nthK s i) : Int) ∧ (wgt ws (nthK s i) : Int) ≤ hi) = true := hb2
      try simp (disch := first | omega | with_unfolding_all exact id rfl | with_unfolding_all exact Nat.le_of_ble_eq_true rfl | (simp only [Jd, Je, Jr, Js, Jt, Nat.reduceAdd, allOne, oneCell, Bool.and_self, Jc]; first | done | omega)) only [hb2', ↓Qa, ↓Qb, Qd, Qe, Qf, Qg, Qh, Qi, Qj, Qk, Ql, Qm, Qn, Qo, Qp, Qq, Qr, Qs, Qt, Qu, Qv, Qw, Qx, Qy, ptrTo, Qz, QA, QB, QC, QD, QE, QF, QG, QH, QI, QJ, QK, QL, QM, QN, QO, QP, QQ, QR, QS, QT, QU, QV, QW, QX, QY, QZ, Ja, Jb, Jc, Jd, Je, Jf, Jg, Jh, Ji, Jj, Jk, Jl, Jm, Jn, Jo, Jp, Jq, Jr, Js, Jt, Nat.reduceAdd]
      rw [join_e]
      try simp (disch := first | omega | with_unfolding_all exact id rfl | with_unfolding_all exact Nat.le_of_ble_eq_true rfl | (simp only [Jd, Je, Jr, Js, Jt, Nat.reduceAdd, allOne, oneCell, Bool.and_self, Jc]; first | done | omega)) only [hb2', ↓Qa, ↓Qb, Qd, Qe, Qf, Qg, Qh, Qi, Qj, Qk, Ql, Qm, Qn, Qo, Qp, Qq, Qr, Qs, Qt, Qu, Qv, Qw, Qx, Qy, ptrTo, Qz, QA, QB, QC, QD, QE, QF, QG, QH, QI, QJ, QK, QL, QM, QN, QO, QP, QQ, QR, QS, QT, QU, QV, QW, QX, QY, QZ, Ja, Jb, Jc, Jd, Je, Jf, Jg, Jh, Ji, Jj, Jk, Jl, Jm, Jn, Jo, Jp, Jq, Jr, Js, Jt, Nat.reduceAdd]
      refine hy (e1.trans (GtX.of E3)) (hJm _ _ _ hj E3) (by have := fitI_len ws s lo hi i; omega) (hu.mono e3) hb (fun c hc hx => by have := hub c hc; have := hX c hx; omega) fun m4 e4 hj4 => ?_
      try simp (disch := first | omega | with_unfolding_all exact id rfl | with_unfolding_all exact Nat.le_of_ble_eq_true rfl | (simp only [Jd, Je, Jr, Js, Jt, Nat.reduceAdd, allOne, oneCell, Bool.and_self, Jc]; first | done | omega)) only [hf6, ↓Qa, ↓Qb, Qd, Qe, Qf, Qg, Qh, Qi, Qj, Qk, Ql, Qm, Qn, Qo, Qp, Qq, Qr, Qs, Qt, Qu, Qv, Qw, Qx, Qy, ptrTo, Qz, QA, QB, QC, QD, QE, QF, QG, QH, QI, QJ, QK, QL, QM, QN, QO, QP, QQ, QR, QS, QT, QU, QV, QW, QX, QY, QZ, Ja, Jb, Jc, Jd, Je, Jf, Jg, Jh, Ji, Jj, Jk, Jl, Jm, Jn, Jo, Jp, Jq, Jr, Js, Jt, Nat.reduceAdd]
      exact hself hic _ _ ⟨rfl, (e1.trans (GtX.of E3)).trans e4, by rw [fitI_t hb2]; exact hj4⟩
    | false =>
      have hb2' : decide (lo ≤ (wgt ws (nthK s i) : Int) ∧ (wgt ws (nthK s i) : Int) ≤ hi) = false := hb2
      try simp (disch := first | omega | with_unfolding_all exact id rfl | with_unfolding_all exact Nat.le_of_ble_eq_true rfl | (simp only [Jd, Je, Jr, Js, Jt, Nat.reduceAdd, allOne, oneCell, Bool.and_self, Jc]; first | done | omega)) only [hb2', ↓Qa, ↓Qb, Qd, Qe, Qf, Qg, Qh, Qi, Qj, Qk, Ql, Qm, Qn, Qo, Qp, Qq, Qr, Qs, Qt, Qu, Qv, Qw, Qx, Qy, ptrTo, Qz, QA, QB, QC, QD, QE, QF, QG, QH, QI, QJ, QK, QL, QM, QN, QO, QP, QQ, QR, QS, QT, QU, QV, QW, QX, QY, QZ, Ja, Jb, Jc, Jd, Je, Jf, Jg, Jh, Ji, Jj, Jk, Jl, Jm, Jn, Jo, Jp, Jq, Jr, Js, Jt, Nat.reduceAdd]
      repeat (rw [join_e]; try simp (disch := first | omega | with_unfolding_all exact id rfl | with_unfolding_all exact Nat.le_of_ble_eq_true rfl | (simp only [Jd, Je, Jr, Js, Jt, Nat.reduceAdd, allOne, oneCell, Bool.and_self, Jc]; first | done | omega)) only [hb2', ↓Qa, ↓Qb, Qd, Qe, Qf, Qg, Qh, Qi, Qj, Qk, Ql, Qm, Qn, Qo, Qp, Qq, Qr, Qs, Qt, Qu, Qv, Qw, Qx, Qy, ptrTo, Qz, QA, QB, QC, QD, QE, QF, QG, QH, QI, QJ, QK, QL, QM, QN, QO, QP, QQ, QR, QS, QT, QU, QV, QW, QX, QY, QZ, Ja, Jb, Jc, Jd, Je, Jf, Jg, Jh, Ji, Jj, Jk, Jl, Jm, Jn, Jo, Jp, Jq, Jr, Js, Jt, Nat.reduceAdd])
      try simp (disch := first | omega | with_unfolding_all exact id rfl | with_unfolding_all exact Nat.le_of_ble_eq_true rfl | (simp only [Jd, Je, Jr, Js, Jt, Nat.reduceAdd, allOne, oneCell, Bool.and_self, Jc]; first | done | omega)) only [hf6, ↓Qa, ↓Qb, Qd, Qe, Qf, Qg, Qh, Qi, Qj, Qk, Ql, Qm, Qn, Qo, Qp, Qq, Qr, Qs, Qt, Qu, Qv, Qw, Qx, Qy, ptrTo, Qz, QA, QB, QC, QD, QE, QF, QG, QH, QI, QJ, QK, QL, QM, QN, QO, QP, QQ, QR, QS, QT, QU, QV, QW, QX, QY, QZ, Ja, Jb, Jc, Jd, Je, Jf, Jg, Jh, Ji, Jj, Jk, Jl, Jm, Jn, Jo, Jp, Jq, Jr, Js, Jt, Nat.reduceAdd]
      exact hself hic _ _ ⟨rfl, e1.trans (GtX.of E3), by rw [fitI_f hb2]; exact hJm _ _ _ hj E3⟩
  · have : i = chs ws.length s := by omega
    subst this
    exact hk _ e1 hj
end
end Go.Vit

/- Walks: how many blends fit, both ways. -/
namespace Go.Vit
open Go Go.Proofs
attribute [local irreducible] runT loopS
/-- How many fit, as it is answered. -/
def fitC (l : List Int) (lo hi s : Int) : Int := if chkR l lo hi = 0 ∧ (0 ≤ s ∧ s ≤ l.length) then ((fitL (nni l) s.toNat lo hi).length : Int) else 0
def fitE (l : List Int) (lo hi s : Int) : Int := if chkR l lo hi = 0 then (if 0 ≤ s ∧ s ≤ l.length then 0 else 1) else chkR l lo hi
theorem fitL_len {ws : List Nat} {s : Nat} {lo hi : Int} (h10 : ws.length ≤ 10) : (fitL ws s lo hi).length ≤ 1000 := by
  have h1 := fitI_len ws s lo hi (chs ws.length s)
  have h2 := chs_le (n := ws.length) (k := s) (by omega)
  unfold fitL; omega
section
variable {lf n L : Nat} {m : Mem} {k : Value → Mem → Option Unit}
theorem fitting_sp {wv : Value} {lo hi : Int} {s : Int} (hk : ∀ m', Gt m m' → At m' m.next (rcC wv lo hi) → At m' (m.next + 1) [.int .i64 s] → m'.next = m.next + 2 → k (.func (.func 91) #[] ⟨[.pointer (some ⟨m.next, 0, none⟩), .pointer (some ⟨m.next + 1, 0, none⟩)]⟩) m' = some ()) :
    runT (tab lf) (n + 1) 80 [rcp wv lo hi, .int .i64 s] L m k = some () := by
  rw [r80]; dsimp only [S80, iofNat, inegSucc]
  rw [uc_e, uc_e, un0_e, abox_e, oRes_e, cells_agg, abox_e, oRes_e, cells_int]
  have g1 := Mem.gt_push m ⟨1, rcC wv lo hi, none⟩
  have n1 : (m.push ⟨1, rcC wv lo hi, none⟩).next = m.next + 1 := Mem.push_next _ _
  have hA : At (m.push ⟨1, rcC wv lo hi, none⟩) m.next (rcC wv lo hi) := At.push m _
  have g2 := Mem.gt_push (m.push ⟨1, rcC wv lo hi, none⟩) ⟨1, [.int .i64 s], none⟩
  have n2 := Mem.push_next (m.push ⟨1, rcC wv lo hi, none⟩) ⟨1, [.int .i64 s], none⟩
  have hB := At.push (m.push ⟨1, rcC wv lo hi, none⟩) [.int .i64 s]
  unfold ptrTo
  rw [n1] at hB ⊢
  exact hk _ (g1.trans g2) (hA.mono g2) hB (by omega)
/-- A round that counts. -/
theorem round34_sp {y cb : Nat} {u : Value} {z : Nat} (hLy : L ≤ y) (hLc : L ≤ cb) (hyc : y ≠ cb) (hz : z ≤ 1000) (hr : Rdy 34 m y [.pointer (some ⟨cb, 0, none⟩)]) (hc : m.rd cb = some ⟨1, [.int .i64 (z : Int)], none⟩)
    (hk : ∀ m', Rdy 34 m' y [.pointer (some ⟨cb, 0, none⟩)] → m'.rd cb = some ⟨1, [.int .i64 ((z + 1 : Nat) : Int)], none⟩ → m'.next = m.next → (∀ c, c ≠ y → c ≠ cb → m'.rd c = m.rd c) → k (.bool true) m' = some ()) :
    oCallV (runT (tab lf) (n + 1)) (yv y) [u] L m k = some () := by
  rw [oCallV_y hr, rR34]
  dsimp only [R34, iofNat, inegSucc]
  have hylt := hr.lt
  have hclt := Mem.rd_lt hc
  rw [uc_e, oYv_e hLy]
  show uc [.pointer (some ⟨cb, 0, none⟩), u] _ = _
  rw [uc_e, uc_e, un0_e, oBusy_e hr]
  have b1 : Bsy 34 (m.put y (some ⟨Nat.succ (Nat.succ (Nat.mul 2 34)), [.pointer (some ⟨cb, 0, none⟩)], some []⟩)) y [.pointer (some ⟨cb, 0, none⟩)] := Mem.rd_put_eq _ _ hylt
  have c1 : (m.put y (some ⟨Nat.succ (Nat.succ (Nat.mul 2 34)), [.pointer (some ⟨cb, 0, none⟩)], some []⟩)).rd cb = some ⟨1, [.int .i64 (z : Int)], none⟩ := (Mem.rd_put _ _ _ _ hyc).trans hc
  have n1 : (m.put y (some ⟨Nat.succ (Nat.succ (Nat.mul 2 34)), [.pointer (some ⟨cb, 0, none⟩)], some []⟩)).next = m.next := rfl
  have k1 : ∀ c, c ≠ y → (m.put y (some ⟨Nat.succ (Nat.succ (Nat.mul 2 34)), [.pointer (some ⟨cb, 0, none⟩)], some []⟩)).rd c = m.rd c := fun c hc => Mem.rd_put _ _ _ _ (Ne.symm hc)
  generalize m.put y (some ⟨Nat.succ (Nat.succ (Nat.mul 2 34)), [.pointer (some ⟨cb, 0, none⟩)], some []⟩) = m1 at b1 c1 n1 k1 ⊢
  rw [ld1_u, c1, rdo_e, List.getElem?_cons_zero, oOpt_e, oInt_add ⟨by omega, by omega⟩, show (z : Int) + 1 = ((z + 1 : Nat) : Int) from rfl, st_int c1 Nat.zero_lt_one hLc, oRes_e]
  have c2 : (m1.put cb (some ⟨1, [Value.int .i64 (z : Int)].set 0 (.int .i64 ((z + 1 : Nat) : Int)), none⟩)).rd cb = some ⟨1, [.int .i64 ((z + 1 : Nat) : Int)], none⟩ := Mem.rd_put_eq _ _ (by omega)
  have b2 : Bsy 34 (m1.put cb (some ⟨1, [Value.int .i64 (z : Int)].set 0 (.int .i64 ((z + 1 : Nat) : Int)), none⟩)) y [.pointer (some ⟨cb, 0, none⟩)] := (Mem.rd_put _ _ _ _ (Ne.symm hyc)).trans b1
  have n2 : (m1.put cb (some ⟨1, [Value.int .i64 (z : Int)].set 0 (.int .i64 ((z + 1 : Nat) : Int)), none⟩)).next = m1.next := rfl
  have k2 : ∀ c, c ≠ cb → (m1.put cb (some ⟨1, [Value.int .i64 (z : Int)].set 0 (.int .i64 ((z + 1 : Nat) : Int)), none⟩)).rd c = m1.rd c := fun c hc => Mem.rd_put _ _ _ _ (Ne.symm hc)
  generalize m1.put cb (some ⟨1, [Value.int .i64 (z : Int)].set 0 (.int .i64 ((z + 1 : Nat) : Int)), none⟩) = m2 at c2 b2 n2 k2 ⊢
  rw [oReady_e b2]
  refine hk _ (Mem.rd_put_eq _ _ (by omega)) ((Mem.rd_put _ _ _ _ hyc).trans c2) ?_ fun c h1 h2 => (Mem.rd_put _ _ _ _ (Ne.symm h1)).trans ((k2 c h2).trans (k1 c h1))
  rw [Mem.put_next']; omega
theorem fits34_sp {wv : Value} {l : List Int} {lo hi s : Int} (hlf : 1000000 ≤ lf) (hL : L ≤ m.next) (hw : IL m wv l) (hk : ∀ m', Gt m m' → k (.tuple ⟨[.int .i64 (fitC l lo hi s), .int .i64 (fitE l lo hi s)]⟩) m' = some ()) :
    runT (tab lf) (n + 10) 34 [rcp wv lo hi, .int .i64 s] L m k = some () := by
  rw [r34]; dsimp only [S34, iofNat, inegSucc]
  rw [uc_e, uc_e, un0_e, abox_e, oRes_e, cells_agg]
  have g1 := Mem.gt_push m ⟨1, rcC wv lo hi, none⟩
  have hA : At (m.push ⟨1, rcC wv lo hi, none⟩) m.next (rcC wv lo hi) := At.push m _
  have n1 : (m.push ⟨1, rcC wv lo hi, none⟩).next = m.next + 1 := Mem.push_next _ _
  generalize m.push ⟨1, rcC wv lo hi, none⟩ = m1 at g1 hA n1 ⊢
  unfold ptrTo
  have c0 : (rcC wv lo hi)[0]? = some wv := rfl
  rw [ldN_u, hA.rd, rdn3, oOpt_e]
  refine check36_sp hlf (hw.mono g1) fun m2 e2 => ?_
  have G := g1.trans e2
  have n2 := e2.next
  have hA2 := hA.mono e2
  have hw2 := hw.mono G
  by_cases h : chkR l lo hi = 0
  · rw [show fitE l lo hi s = if 0 ≤ s ∧ s ≤ l.length then 0 else 1 from if_pos h] at hk
    rw [h]
    try simp (disch := first | omega | with_unfolding_all exact id rfl | with_unfolding_all exact Nat.le_of_ble_eq_true rfl | (simp only [Jd, Je, Jr, Js, Jt, Nat.reduceAdd, allOne, oneCell, Bool.and_self, Jc]; first | done | omega)) only [hA2.rd, c0, hw2.ln, ↓Qa, ↓Qb, ↓Qc, Qd, Qe, Qf, Qg, Qh, Qi, Qj, Qk, Ql, Qm, Qn, Qo, Qp, Qq, Qr, Qs, Qt, Qu, Qv, Qw, Qx, Qy, ptrTo, Qz, QA, QB, QC, QD, QE, QF, QG, QH, QI, QJ, QK, QL, QM, QN, QO, QP, QQ, QR, QS, QT, QU, QV, QW, QX, QY, QZ, Ja, Jb, Jc, Jd, Je, Jf, Jg, Jh, Ji, Jj, Jk, Jl, Jm, Jn, Jo, Jp, Jq, Jr, Js, Jt, Nat.reduceAdd]
    refine within_sp _ _ _ ?_
    by_cases hs : 0 ≤ s ∧ s ≤ (l.length : Int)
    · rw [if_pos hs, show fitC l lo hi s = ((fitL (nni l) s.toNat lo hi).length : Int) from if_pos ⟨h, hs⟩] at hk
      obtain ⟨ws, rfl, q1, q2, q3, q4⟩ := chkR_ok h
      rw [nni_ci] at hk
      have hwb : ∀ c, bid wv = some c → c < m.next := fun c hc => Sl.bid_lt hw (by rw [ci_length]; omega) c hc
      obtain ⟨s, rfl⟩ : ∃ i : Nat, s = i := ⟨s.toNat, by omega⟩
      rw [Int.toNat_natCast] at hk
      have hsw : s ≤ ws.length := by have := hs.2; rw [ci_length] at this; omega
      rw [decide_eq_true hs]
      try simp (disch := first | omega | with_unfolding_all exact id rfl | with_unfolding_all exact Nat.le_of_ble_eq_true rfl | (simp only [Jd, Je, Jr, Js, Jt, Nat.reduceAdd, allOne, oneCell, Bool.and_self, Jc]; first | done | omega)) only [↓Qa, ↓Qb, ↓Qc, Qd, Qe, Qf, Qg, Qh, Qi, Qj, Qk, Ql, Qm, Qn, Qo, Qp, Qq, Qr, Qs, Qt, Qu, Qv, Qw, Qx, Qy, ptrTo, Qz, QA, QB, QC, QD, QE, QF, QG, QH, QI, QJ, QK, QL, QM, QN, QO, QP, QQ, QR, QS, QT, QU, QV, QW, QX, QY, QZ, Ja, Jb, Jc, Jd, Je, Jf, Jg, Jh, Ji, Jj, Jk, Jl, Jm, Jn, Jo, Jp, Jq, Jr, Js, Jt, Nat.reduceAdd]
      have g3 : Gt m2 ((m2.push ⟨1, [.int .i64 0], none⟩).put m2.next (some ⟨1, [.int .i64 0], none⟩)) := Mem.put_gt (Mem.gt_push _ _) _ (Nat.le_refl _)
      have p3 : At ((m2.push ⟨1, [.int .i64 0], none⟩).put m2.next (some ⟨1, [.int .i64 0], none⟩)) m2.next [.int .i64 0] := Mem.rd_put_eq _ _ (by rw [Mem.push_next]; omega)
      have n3 : ((m2.push ⟨1, [.int .i64 0], none⟩).put m2.next (some ⟨1, [.int .i64 0], none⟩)).next = m2.next + 1 := rfl
      generalize (m2.push ⟨1, [.int .i64 0], none⟩).put m2.next (some ⟨1, [.int .i64 0], none⟩) = m3 at g3 p3 n3 ⊢
      have hA3 := hA2.mono g3
      rw [hA2.rd, rdn3, oOpt_e]
      refine fitting_sp fun m4 e4 hB hC n4 => ?_
      rw [oRange_e (hf := rfl)]
      have g5 := Mem.gt_push m4 ⟨Nat.succ (Nat.mul 2 34), [.pointer (some ⟨m2.next, 0, none⟩)], some []⟩
      have r5 : Rdy 34 (m4.push ⟨Nat.succ (Nat.mul 2 34), [.pointer (some ⟨m2.next, 0, none⟩)], some []⟩) m4.next [.pointer (some ⟨m2.next, 0, none⟩)] := Mem.rd_push _ _
      have n5 : (m4.push ⟨Nat.succ (Nat.mul 2 34), [.pointer (some ⟨m2.next, 0, none⟩)], some []⟩).next = m4.next + 1 := Mem.push_next _ _
      generalize m4.push ⟨Nat.succ (Nat.mul 2 34), [.pointer (some ⟨m2.next, 0, none⟩)], some []⟩ = m5 at g5 r5 n5 ⊢
      have G5 := ((G.trans g3).trans e4).trans g5
      have hw5 : IN m5 wv ws := hw.mono G5
      refine fits91_sp (X := fun c => c = m4.next ∨ c = m2.next) (J := fun seen m' => Rdy 34 m' m4.next [.pointer (some ⟨m2.next, 0, none⟩)] ∧ m'.rd m2.next = some ⟨1, [.int .i64 (seen.length : Int)], none⟩) hlf (by omega) hw5 q3 q2 hsw (hB.mono g5) (hC.mono g5)
        (by rintro (h | h) <;> omega) (by rintro (h | h) <;> omega) (fun c hc => by have := hwb c hc; rintro (h | h) <;> omega) (by rintro c (h | h) <;> omega) ⟨r5, (p3.mono e4).mono g5⟩ (fun seen a b hj e => ⟨(e.kept _ hj.1.lt).trans hj.1, (e.kept _ (Mem.rd_lt hj.2)).trans hj.2⟩) ?_ ?_
      · intro m1 u b seen K e6 hj hse hu hb hub hK
        refine round34_sp (by omega) (by omega) (by omega) hse hj.1 hj.2 fun m7 r7 c7 n7 k7 => ?_
        refine hK m7 ⟨by omega, fun c _ hn => k7 c (fun h => hn (.inl h)) (fun h => hn (.inr h))⟩ ⟨r7, ?_⟩
        rw [c7, List.length_append]; rfl
      · rintro m7 e7 ⟨r7, c7⟩
        have n7 := e7.next
        rw [oEnd_e r7, Mem.rd_put _ _ _ _ (by omega), c7, rdo_e, List.getElem?_cons_zero, oOpt_e]
        refine hk _ (Mem.put_gt (e7.gt G5 ?_) _ (by omega))
        rintro c (h | h) <;> omega
    · rw [if_neg hs, show fitC l lo hi s = 0 from if_neg fun hh => hs hh.2] at hk
      rw [decide_eq_false hs]
      try simp (disch := first | omega | with_unfolding_all exact id rfl | with_unfolding_all exact Nat.le_of_ble_eq_true rfl | (simp only [Jd, Je, Jr, Js, Jt, Nat.reduceAdd, allOne, oneCell, Bool.and_self, Jc]; first | done | omega)) only [↓Qa, ↓Qb, ↓Qc, Qd, Qe, Qf, Qg, Qh, Qi, Qj, Qk, Ql, Qm, Qn, Qo, Qp, Qq, Qr, Qs, Qt, Qu, Qv, Qw, Qx, Qy, ptrTo, Qz, QA, QB, QC, QD, QE, QF, QG, QH, QI, QJ, QK, QL, QM, QN, QO, QP, QQ, QR, QS, QT, QU, QV, QW, QX, QY, QZ, Ja, Jb, Jc, Jd, Je, Jf, Jg, Jh, Ji, Jj, Jk, Jl, Jm, Jn, Jo, Jp, Jq, Jr, Js, Jt, Nat.reduceAdd]
      exact hk _ G
  · rw [show fitE l lo hi s = chkR l lo hi from if_neg h, show fitC l lo hi s = 0 from if_neg fun hh => h hh.1] at hk
    try simp (disch := first | omega | with_unfolding_all exact id rfl | with_unfolding_all exact Nat.le_of_ble_eq_true rfl | (simp only [Jd, Je, Jr, Js, Jt, Nat.reduceAdd, allOne, oneCell, Bool.and_self, Jc]; first | done | omega)) only [decide_eq_false h, ↓Qa, ↓Qb, ↓Qc, Qd, Qe, Qf, Qg, Qh, Qi, Qj, Qk, Ql, Qm, Qn, Qo, Qp, Qq, Qr, Qs, Qt, Qu, Qv, Qw, Qx, Qy, ptrTo, Qz, QA, QB, QC, QD, QE, QF, QG, QH, QI, QJ, QK, QL, QM, QN, QO, QP, QQ, QR, QS, QT, QU, QV, QW, QX, QY, QZ, Ja, Jb, Jc, Jd, Je, Jf, Jg, Jh, Ji, Jj, Jk, Jl, Jm, Jn, Jo, Jp, Jq, Jr, Js, Jt, Nat.reduceAdd]
    exact hk _ G
end
end Go.Vit

/- Walks: the nearest blend that fits. -/
namespace Go.Vit
open Go Go.Proofs
attribute [local irreducible] runT loopS
section
variable {lf n L : Nat} {m : Mem} {k : Value → Mem → Option Unit}
theorem nan_sp (a : Int) (hk : k (.bool false) m = some ()) : runT (tab lf) (n + 1) 104 [.int .i64 a] L m k = some () := by
  rw [r104]; dsimp only [S104, iofNat, inegSucc]
  have d1 : decide (a = a) = true := decide_eq_true rfl
  try simp (disch := first | omega | with_unfolding_all exact id rfl | with_unfolding_all exact Nat.le_of_ble_eq_true rfl | (simp only [Jd, Je, Jr, Js, Jt, Nat.reduceAdd, allOne, oneCell, Bool.and_self, Jc]; first | done | omega)) only [d1, ↓Qa, ↓Qb, ↓Qc, Qd, Qe, Qf, Qg, Qh, Qi, Qj, Qk, Ql, Qm, Qn, Qo, Qp, Qq, Qr, Qs, Qt, Qu, Qv, Qw, Qx, Qy, ptrTo, Qz, QA, QB, QC, QD, QE, QF, QG, QH, QI, QJ, QK, QL, QM, QN, QO, QP, QQ, QR, QS, QT, QU, QV, QW, QX, QY, QZ, Ja, Jb, Jc, Jd, Je, Jf, Jg, Jh, Ji, Jj, Jk, Jl, Jm, Jn, Jo, Jp, Jq, Jr, Js, Jt, Nat.reduceAdd]
  exact hk
theorem cmp_sp {a b : Int} (hk : k (.int .i64 (if a < b then -1 else if b < a then 1 else 0)) m = some ()) : runT (tab lf) (n + 2) 88 [.int .i64 a, .int .i64 b] L m k = some () := by
  rw [r88]; dsimp only [S88, iofNat, inegSucc]
  try simp (disch := first | omega | with_unfolding_all exact id rfl | with_unfolding_all exact Nat.le_of_ble_eq_true rfl | (simp only [Jd, Je, Jr, Js, Jt, Nat.reduceAdd, allOne, oneCell, Bool.and_self, Jc]; first | done | omega)) only [↓Qa, ↓Qb, ↓Qc, Qd, Qe, Qf, Qg, Qh, Qi, Qj, Qk, Ql, Qm, Qn, Qo, Qp, Qq, Qr, Qs, Qt, Qu, Qv, Qw, Qx, Qy, ptrTo, Qz, QA, QB, QC, QD, QE, QF, QG, QH, QI, QJ, QK, QL, QM, QN, QO, QP, QQ, QR, QS, QT, QU, QV, QW, QX, QY, QZ, Ja, Jb, Jc, Jd, Je, Jf, Jg, Jh, Ji, Jj, Jk, Jl, Jm, Jn, Jo, Jp, Jq, Jr, Js, Jt, Nat.reduceAdd]
  refine nan_sp a ?_
  refine nan_sp b ?_
  try simp (disch := first | omega | with_unfolding_all exact id rfl | with_unfolding_all exact Nat.le_of_ble_eq_true rfl | (simp only [Jd, Je, Jr, Js, Jt, Nat.reduceAdd, allOne, oneCell, Bool.and_self, Jc]; first | done | omega)) only [↓Qa, ↓Qb, ↓Qc, Qd, Qe, Qf, Qg, Qh, Qi, Qj, Qk, Ql, Qm, Qn, Qo, Qp, Qq, Qr, Qs, Qt, Qu, Qv, Qw, Qx, Qy, ptrTo, Qz, QA, QB, QC, QD, QE, QF, QG, QH, QI, QJ, QK, QL, QM, QN, QO, QP, QQ, QR, QS, QT, QU, QV, QW, QX, QY, QZ, Ja, Jb, Jc, Jd, Je, Jf, Jg, Jh, Ji, Jj, Jk, Jl, Jm, Jn, Jo, Jp, Jq, Jr, Js, Jt, Nat.reduceAdd]
  by_cases h1 : a < b
  · rw [if_pos h1] at hk
    try simp (disch := first | omega | with_unfolding_all exact id rfl | with_unfolding_all exact Nat.le_of_ble_eq_true rfl | (simp only [Jd, Je, Jr, Js, Jt, Nat.reduceAdd, allOne, oneCell, Bool.and_self, Jc]; first | done | omega)) only [decide_eq_true h1, ↓Qa, ↓Qb, ↓Qc, Qd, Qe, Qf, Qg, Qh, Qi, Qj, Qk, Ql, Qm, Qn, Qo, Qp, Qq, Qr, Qs, Qt, Qu, Qv, Qw, Qx, Qy, ptrTo, Qz, QA, QB, QC, QD, QE, QF, QG, QH, QI, QJ, QK, QL, QM, QN, QO, QP, QQ, QR, QS, QT, QU, QV, QW, QX, QY, QZ, Ja, Jb, Jc, Jd, Je, Jf, Jg, Jh, Ji, Jj, Jk, Jl, Jm, Jn, Jo, Jp, Jq, Jr, Js, Jt, Nat.reduceAdd]
    exact hk
  · rw [if_neg h1] at hk
    by_cases h2 : b < a
    · rw [if_pos h2] at hk
      try simp (disch := first | omega | with_unfolding_all exact id rfl | with_unfolding_all exact Nat.le_of_ble_eq_true rfl | (simp only [Jd, Je, Jr, Js, Jt, Nat.reduceAdd, allOne, oneCell, Bool.and_self, Jc]; first | done | omega)) only [decide_eq_false h1, decide_eq_true h2, ↓Qa, ↓Qb, ↓Qc, Qd, Qe, Qf, Qg, Qh, Qi, Qj, Qk, Ql, Qm, Qn, Qo, Qp, Qq, Qr, Qs, Qt, Qu, Qv, Qw, Qx, Qy, ptrTo, Qz, QA, QB, QC, QD, QE, QF, QG, QH, QI, QJ, QK, QL, QM, QN, QO, QP, QQ, QR, QS, QT, QU, QV, QW, QX, QY, QZ, Ja, Jb, Jc, Jd, Je, Jf, Jg, Jh, Ji, Jj, Jk, Jl, Jm, Jn, Jo, Jp, Jq, Jr, Js, Jt, Nat.reduceAdd]
      exact hk
    · rw [if_neg h2] at hk
      try simp (disch := first | omega | with_unfolding_all exact id rfl | with_unfolding_all exact Nat.le_of_ble_eq_true rfl | (simp only [Jd, Je, Jr, Js, Jt, Nat.reduceAdd, allOne, oneCell, Bool.and_self, Jc]; first | done | omega)) only [decide_eq_false h1, decide_eq_false h2, ↓Qa, ↓Qb, ↓Qc, Qd, Qe, Qf, Qg, Qh, Qi, Qj, Qk, Ql, Qm, Qn, Qo, Qp, Qq, Qr, Qs, Qt, Qu, Qv, Qw, Qx, Qy, ptrTo, Qz, QA, QB, QC, QD, QE, QF, QG, QH, QI, QJ, QK, QL, QM, QN, QO, QP, QQ, QR, QS, QT, QU, QV, QW, QX, QY, QZ, Ja, Jb, Jc, Jd, Je, Jf, Jg, Jh, Ji, Jj, Jk, Jl, Jm, Jn, Jo, Jp, Jq, Jr, Js, Jt, Nat.reduceAdd]
      exact hk
theorem compare_sp {v u : Value} {a b : List Nat} (hlf : 1000000 ≤ lf) (hv : IN m v a) (hu : IN m u b) (hl : a.length < 1000000) (hl2 : b.length < 1000000) (hk : k (.int .i64 (cmpL a b)) m = some ()) : runT (tab lf) (n + 3) 58 [v, u] L m k = some () := by
  rw [r58]; dsimp only [S58, iofNat, inegSucc]
  try simp (disch := first | omega | with_unfolding_all exact id rfl | with_unfolding_all exact Nat.le_of_ble_eq_true rfl | (simp only [Jd, Je, Jr, Js, Jt, Nat.reduceAdd, allOne, oneCell, Bool.and_self, Jc]; first | done | omega)) only [hv.ln, ↓Qa, ↓Qb, ↓Qc, Qd, Qe, Qf, Qg, Qh, Qi, Qj, Qk, Ql, Qm, Qn, Qo, Qp, Qq, Qr, Qs, Qt, Qu, Qv, Qw, Qx, Qy, ptrTo, Qz, QA, QB, QC, QD, QE, QF, QG, QH, QI, QJ, QK, QL, QM, QN, QO, QP, QQ, QR, QS, QT, QU, QV, QW, QX, QY, QZ, Ja, Jb, Jc, Jd, Je, Jf, Jg, Jh, Ji, Jj, Jk, Jl, Jm, Jn, Jo, Jp, Jq, Jr, Js, Jt, Nat.reduceAdd]
  refine loop_up a.length (fun i vs m' => vs = [.int .i64 (i : Int)] ∧ m' = m ∧ i ≤ b.length ∧ cmpL a b = cmpL (a.drop i) (b.drop i)) (by omega) ⟨rfl, rfl, Nat.zero_le _, rfl⟩ ?_
  rintro i vs m' hi ⟨rfl, rfl, hib, hI⟩ self hself
  try simp (disch := first | omega | with_unfolding_all exact id rfl | with_unfolding_all exact Nat.le_of_ble_eq_true rfl | (simp only [Jd, Je, Jr, Js, Jt, Nat.reduceAdd, allOne, oneCell, Bool.and_self, Jc]; first | done | omega)) only [↓Qa, ↓Qb, ↓Qc, Qd, Qe, Qf, Qg, Qh, Qi, Qj, Qk, Ql, Qm, Qn, Qo, Qp, Qq, Qr, Qs, Qt, Qu, Qv, Qw, Qx, Qy, ptrTo, Qz, QA, QB, QC, QD, QE, QF, QG, QH, QI, QJ, QK, QL, QM, QN, QO, QP, QQ, QR, QS, QT, QU, QV, QW, QX, QY, QZ, Ja, Jb, Jc, Jd, Je, Jf, Jg, Jh, Ji, Jj, Jk, Jl, Jm, Jn, Jo, Jp, Jq, Jr, Js, Jt, Nat.reduceAdd]
  refine oIf_dec (fun h => ?_) (fun h => ?_)
  · have hil : i < a.length := by omega
    rw [List.drop_eq_getElem_cons hil] at hI
    rw [hv.ia hil, oOpt_e, hv.ld hil, oOpt_e, hu.ln, oOpt_e, oInt_geq]
    refine oIf_dec (fun h1 => ?_) (fun h1 => ?_)
    · rw [show b.drop i = [] from List.drop_eq_nil_of_le (by omega)] at hI
      rw [hI] at hk
      exact hk
    · have hil2 : i < b.length := by omega
      rw [List.drop_eq_getElem_cons hil2] at hI
      have hI2 : cmpL a b = if a[i] < b[i] then -1 else if b[i] < a[i] then 1 else cmpL (a.drop (i + 1)) (b.drop (i + 1)) := hI
      rw [hu.ia hil2, oOpt_e, hu.ld hil2, oOpt_e]
      refine cmp_sp ?_
      by_cases q1 : a[i] < b[i]
      · rw [if_pos q1] at hI2
        rw [if_pos (show (a[i] : Int) < (b[i] : Int) by omega)]
        rw [hI2] at hk
        have d1 : decide ((-1 : Int) = 0) = false := by decide
        try simp (disch := first | omega | with_unfolding_all exact id rfl | with_unfolding_all exact Nat.le_of_ble_eq_true rfl | (simp only [Jd, Je, Jr, Js, Jt, Nat.reduceAdd, allOne, oneCell, Bool.and_self, Jc]; first | done | omega)) only [d1, ↓Qa, ↓Qb, ↓Qc, Qd, Qe, Qf, Qg, Qh, Qi, Qj, Qk, Ql, Qm, Qn, Qo, Qp, Qq, Qr, Qs, Qt, Qu, Qv, Qw, Qx, Qy, ptrTo, Qz, QA, QB, QC, QD, QE, QF, QG, QH, QI, QJ, QK, QL, QM, QN, QO, QP, QQ, QR, QS, QT, QU, QV, QW, QX, QY, QZ, Ja, Jb, Jc, Jd, Je, Jf, Jg, Jh, Ji, Jj, Jk, Jl, Jm, Jn, Jo, Jp, Jq, Jr, Js, Jt, Nat.reduceAdd]
        exact hk
      · rw [if_neg q1] at hI2
        rw [if_neg (show ¬ (a[i] : Int) < (b[i] : Int) by omega)]
        by_cases q2 : b[i] < a[i]
        · rw [if_pos q2] at hI2
          rw [if_pos (show (b[i] : Int) < (a[i] : Int) by omega)]
          rw [hI2] at hk
          have d1 : decide ((1 : Int) = 0) = false := by decide
          try simp (disch := first | omega | with_unfolding_all exact id rfl | with_unfolding_all exact Nat.le_of_ble_eq_true rfl | (simp only [Jd, Je, Jr, Js, Jt, Nat.reduceAdd, allOne, oneCell, Bool.and_self, Jc]; first | done | omega)) only [d1, ↓Qa, ↓Qb, ↓Qc, Qd, Qe, Qf, Qg, Qh, Qi, Qj, Qk, Ql, Qm, Qn, Qo, Qp, Qq, Qr, Qs, Qt, Qu, Qv, Qw, Qx, Qy, ptrTo, Qz, QA, QB, QC, QD, QE, QF, QG, QH, QI, QJ, QK, QL, QM, QN, QO, QP, QQ, QR, QS, QT, QU, QV, QW, QX, QY, QZ, Ja, Jb, Jc, Jd, Je, Jf, Jg, Jh, Ji, Jj, Jk, Jl, Jm, Jn, Jo, Jp, Jq, Jr, Js, Jt, Nat.reduceAdd]
          exact hk
        · rw [if_neg q2] at hI2
          rw [if_neg (show ¬ (b[i] : Int) < (a[i] : Int) by omega)]
          have d1 : decide ((0 : Int) = 0) = true := by decide
          try simp (disch := first | omega | with_unfolding_all exact id rfl | with_unfolding_all exact Nat.le_of_ble_eq_true rfl | (simp only [Jd, Je, Jr, Js, Jt, Nat.reduceAdd, allOne, oneCell, Bool.and_self, Jc]; first | done | omega)) only [d1, ↓Qa, ↓Qb, ↓Qc, Qd, Qe, Qf, Qg, Qh, Qi, Qj, Qk, Ql, Qm, Qn, Qo, Qp, Qq, Qr, Qs, Qt, Qu, Qv, Qw, Qx, Qy, ptrTo, Qz, QA, QB, QC, QD, QE, QF, QG, QH, QI, QJ, QK, QL, QM, QN, QO, QP, QQ, QR, QS, QT, QU, QV, QW, QX, QY, QZ, Ja, Jb, Jc, Jd, Je, Jf, Jg, Jh, Ji, Jj, Jk, Jl, Jm, Jn, Jo, Jp, Jq, Jr, Js, Jt, Nat.reduceAdd]
          rw [oInt_add ⟨by omega, by omega⟩]
          exact hself hil _ _ ⟨rfl, rfl, by omega, hI2⟩
  · have : i = a.length := by omega
    subst this
    rw [List.drop_eq_nil_of_le (Nat.le_refl _)] at hI
    try simp (disch := first | omega | with_unfolding_all exact id rfl | with_unfolding_all exact Nat.le_of_ble_eq_true rfl | (simp only [Jd, Je, Jr, Js, Jt, Nat.reduceAdd, allOne, oneCell, Bool.and_self, Jc]; first | done | omega)) only [hv.ln, hu.ln, ↓Qa, ↓Qb, ↓Qc, Qd, Qe, Qf, Qg, Qh, Qi, Qj, Qk, Ql, Qm, Qn, Qo, Qp, Qq, Qr, Qs, Qt, Qu, Qv, Qw, Qx, Qy, ptrTo, Qz, QA, QB, QC, QD, QE, QF, QG, QH, QI, QJ, QK, QL, QM, QN, QO, QP, QQ, QR, QS, QT, QU, QV, QW, QX, QY, QZ, Ja, Jb, Jc, Jd, Je, Jf, Jg, Jh, Ji, Jj, Jk, Jl, Jm, Jn, Jo, Jp, Jq, Jr, Js, Jt, Nat.reduceAdd]
    by_cases h2 : a.length < b.length
    · rw [List.drop_eq_getElem_cons h2] at hI
      have d1 : decide ((a.length : Int) < (b.length : Int)) = true := decide_eq_true (by omega)
      rw [hI] at hk
      try simp (disch := first | omega | with_unfolding_all exact id rfl | with_unfolding_all exact Nat.le_of_ble_eq_true rfl | (simp only [Jd, Je, Jr, Js, Jt, Nat.reduceAdd, allOne, oneCell, Bool.and_self, Jc]; first | done | omega)) only [d1, ↓Qa, ↓Qb, ↓Qc, Qd, Qe, Qf, Qg, Qh, Qi, Qj, Qk, Ql, Qm, Qn, Qo, Qp, Qq, Qr, Qs, Qt, Qu, Qv, Qw, Qx, Qy, ptrTo, Qz, QA, QB, QC, QD, QE, QF, QG, QH, QI, QJ, QK, QL, QM, QN, QO, QP, QQ, QR, QS, QT, QU, QV, QW, QX, QY, QZ, Ja, Jb, Jc, Jd, Je, Jf, Jg, Jh, Ji, Jj, Jk, Jl, Jm, Jn, Jo, Jp, Jq, Jr, Js, Jt, Nat.reduceAdd]
      exact hk
    · rw [List.drop_eq_nil_of_le (by omega)] at hI
      have d1 : decide ((a.length : Int) < (b.length : Int)) = false := decide_eq_false (by omega)
      rw [hI] at hk
      try simp (disch := first | omega | with_unfolding_all exact id rfl | with_unfolding_all exact Nat.le_of_ble_eq_true rfl | (simp only [Jd, Je, Jr, Js, Jt, Nat.reduceAdd, allOne, oneCell, Bool.and_self, Jc]; first | done | omega)) only [d1, ↓Qa, ↓Qb, ↓Qc, Qd, Qe, Qf, Qg, Qh, Qi, Qj, Qk, Ql, Qm, Qn, Qo, Qp, Qq, Qr, Qs, Qt, Qu, Qv, Qw, Qx, Qy, ptrTo, Qz, QA, QB, QC, QD, QE, QF, QG, QH, QI, QJ, QK, QL, QM, QN, QO, QP, QQ, QR, QS, QT, QU, QV, QW, QX, QY, QZ, Ja, Jb, Jc, Jd, Je, Jf, Jg, Jh, Ji, Jj, Jk, Jl, Jm, Jn, Jo, Jp, Jq, Jr, Js, Jt, Nat.reduceAdd]
      exact hk
/-- What the rounds hold: the best one, and how far it is. -/
def NrJ (X : Nat → Prop) (y fb bb tb : Nat) (t : List Nat) (seen : List (List Nat)) (m : Mem) : Prop :=
  Rdy 38 m y [.pointer (some ⟨fb, 0, none⟩), .pointer (some ⟨bb, 0, none⟩), .pointer (some ⟨tb, 0, none⟩)] ∧ m.rd fb = some ⟨1, [.int .i64 ((nearF t seen).2 : Int)], none⟩ ∧
    ∃ bv, m.rd bb = some ⟨1, [bv], none⟩ ∧ IN m bv (nearF t seen).1 ∧ ∀ c, bid bv = some c → ¬ X c
theorem round38_sp {X : Nat → Prop} {y fb bb tb : Nat} {u tv : Value} {b t : List Nat} {seen : List (List Nat)} {N kk : Nat} (hlf : 1000000 ≤ lf) (hLy : L ≤ y) (hLf : L ≤ fb) (hLb : L ≤ bb) (hX : ∀ c, X c ↔ c = y ∨ c = fb ∨ c = bb) (h1 : y ≠ fb) (h2 : y ≠ bb) (h3 : fb ≠ bb) (htX : ¬ X tb)
    (hj : NrJ X y fb bb tb t seen m) (htb : At m tb [tv]) (ht : IN m tv t) (htl : t.length < 100) (hu : IN m u b) (hub : ∀ c, bid u = some c → ¬ X c) (hbl : b.length < 100)
    (htv : 0 < t.length → ∀ c, bid tv = some c → ¬ X c) (hseen : ∀ x ∈ seen, x.length < 100)
    (hk : ∀ m', GtX X m m' → NrJ X y fb bb tb t (seen ++ [b]) m' → k (.bool true) m' = some ()) :
    oCallV (runT (tab lf) (n + 4)) (yv y) [u] L m k = some () := by
  obtain ⟨hr, hf, bv, hb1, hb2, hb3⟩ := hj
  rw [oCallV_y hr, rR38]
  dsimp only [R38, iofNat, inegSucc]
  have hylt := hr.lt
  have hflt := Mem.rd_lt hf
  have hblt := Mem.rd_lt hb1
  rw [uc_e, oYv_e hLy]
  show uc [.pointer (some ⟨fb, 0, none⟩), .pointer (some ⟨bb, 0, none⟩), .pointer (some ⟨tb, 0, none⟩), u] _ = _
  rw [uc_e, uc_e, uc_e, uc_e, un0_e, oBusy_e hr]
  generalize hcs : ([.pointer (some ⟨fb, 0, none⟩), .pointer (some ⟨bb, 0, none⟩), .pointer (some ⟨tb, 0, none⟩)] : List Value) = CS at hr ⊢
  have x1 : Bsy 38 (m.put y (some ⟨Nat.succ (Nat.succ (Nat.mul 2 38)), CS, some []⟩)) y CS := Mem.rd_put_eq _ _ hylt
  have g1 : GtX X m (m.put y (some ⟨Nat.succ (Nat.succ (Nat.mul 2 38)), CS, some []⟩)) := (GtX.refl m).put ((hX y).2 (.inl rfl)) _
  have k1 : ∀ c, c ≠ y → (m.put y (some ⟨Nat.succ (Nat.succ (Nat.mul 2 38)), CS, some []⟩)).rd c = m.rd c := fun c hc => Mem.rd_put _ _ _ _ (Ne.symm hc)
  have n1 : (m.put y (some ⟨Nat.succ (Nat.succ (Nat.mul 2 38)), CS, some []⟩)).next = m.next := rfl
  generalize m.put y (some ⟨Nat.succ (Nat.succ (Nat.mul 2 38)), CS, some []⟩) = m1 at x1 g1 k1 n1 ⊢
  have htb1 := htb.monoX g1 htX
  have ht1 := ht.monoX g1 htv
  have hu1 := hu.monoX g1 (fun _ => hub)
  have hf1 := (k1 fb (Ne.symm h1)).trans hf
  have hb11 := (k1 bb (Ne.symm h2)).trans hb1
  have hb21 := hb2.monoX g1 (fun _ => hb3)
  have ct : ([tv] : List Value)[0]? = some tv := rfl
  have cb : ([bv] : List Value)[0]? = some bv := rfl
  rw [ld1_u, htb1.rd, rdo_e, ct, oOpt_e]
  refine away_sp hlf hu1 ht1 (by omega) (by omega) ?_
  have hsn := nearF_snoc t seen b
  have hfl := nearF_le t seen
  have hal : awayN b t ≤ b.length := by
    have := List.length_filter_le (fun x => !decide (x ∈ t)) b
    exact this
  have hbest : (nearF t seen).1.length < 100 := by
    rcases (near_inv t seen ([], 11)).2.2 with h | ⟨h, _⟩
    · have : nearF t seen = ([], 11) := h
      rw [this]; decide
    · exact hseen _ h
  have hcf : ([.int .i64 ((nearF t seen).2 : Int)] : List Value)[0]? = some (.int .i64 ((nearF t seen).2 : Int)) := rfl
  -- the two ends
  have hno : nearS t (nearF t seen) b = nearF t seen → k (.bool true) (m1.put y (some ⟨Nat.succ (Nat.mul 2 38), CS, some []⟩)) = some () := fun hst => by
    rw [hst] at hsn
    refine hk _ (g1.put ((hX y).2 (.inl rfl)) _) ⟨?_, ?_, bv, ?_, ?_, hb3⟩
    · rw [hcs]; exact Mem.rd_put_eq _ _ (by omega)
    · rw [hsn]; exact (Mem.rd_put _ _ _ _ h1).trans hf1
    · exact (Mem.rd_put _ _ _ _ h2).trans hb11
    · rw [hsn]
      exact hb21.monoX ((GtX.refl m1).put ((hX y).2 (.inl rfl)) _) (fun _ => hb3)
  have hyes : nearS t (nearF t seen) b = (b, awayN b t) → (oRes (stw 1 L m1 bb 0 u.cells.toList (m1.rd bb)) fun t34 m35 => oRes (stw 1 L m35 fb 0 [.int .i64 (awayN b t : Int)] (m35.rd fb)) fun t36 m37 => oReady 38 y m37 fun m33 => k (.bool true) m33) = some () := fun hst => by
    rw [hst] at hsn
    obtain ⟨pu, cu, eu⟩ := hu1.ex
    have hst1 := st_set (L := L) (x := u) hb11 Nat.zero_lt_one hLb (by rw [eu]; rfl) (by rw [eu]; rfl)
    rw [st1_u] at hst1
    rw [hst1, oRes_e]
    have g2 := (GtX.refl m1).put ((hX bb).2 (.inr (.inr rfl))) (some ⟨1, [bv].set 0 u, none⟩)
    have y2 : (m1.put bb (some ⟨1, [bv].set 0 u, none⟩)).rd bb = some ⟨1, [u], none⟩ := Mem.rd_put_eq _ _ (by omega)
    have f2 : (m1.put bb (some ⟨1, [bv].set 0 u, none⟩)).rd fb = some ⟨1, [.int .i64 ((nearF t seen).2 : Int)], none⟩ := (Mem.rd_put _ _ _ _ (Ne.symm h3)).trans hf1
    have x2 : Bsy 38 (m1.put bb (some ⟨1, [bv].set 0 u, none⟩)) y CS := (Mem.rd_put _ _ _ _ (Ne.symm h2)).trans x1
    have n2 : (m1.put bb (some ⟨1, [bv].set 0 u, none⟩)).next = m1.next := rfl
    generalize m1.put bb (some ⟨1, [bv].set 0 u, none⟩) = m2 at g2 y2 f2 x2 n2 ⊢
    have hst2 : stw 1 L m2 fb 0 [.int .i64 (awayN b t : Int)] (m2.rd fb) = some (Go.undef, m2.put fb (some ⟨1, [Value.int .i64 ((nearF t seen).2 : Int)].set 0 (.int .i64 (awayN b t : Int)), none⟩)) := by
      have := st_int (x := (awayN b t : Int)) f2 Nat.zero_lt_one hLf
      rw [st1_u] at this
      exact this
    rw [hst2, oRes_e]
    have g3 := g2.put ((hX fb).2 (.inr (.inl rfl))) (some ⟨1, [Value.int .i64 ((nearF t seen).2 : Int)].set 0 (.int .i64 (awayN b t : Int)), none⟩)
    have f3 : (m2.put fb (some ⟨1, [Value.int .i64 ((nearF t seen).2 : Int)].set 0 (.int .i64 (awayN b t : Int)), none⟩)).rd fb = some ⟨1, [.int .i64 (awayN b t : Int)], none⟩ := Mem.rd_put_eq _ _ (by omega)
    have y3 : (m2.put fb (some ⟨1, [Value.int .i64 ((nearF t seen).2 : Int)].set 0 (.int .i64 (awayN b t : Int)), none⟩)).rd bb = some ⟨1, [u], none⟩ := (Mem.rd_put _ _ _ _ h3).trans y2
    have x3 : Bsy 38 (m2.put fb (some ⟨1, [Value.int .i64 ((nearF t seen).2 : Int)].set 0 (.int .i64 (awayN b t : Int)), none⟩)) y CS := (Mem.rd_put _ _ _ _ (Ne.symm h1)).trans x2
    have n3 : (m2.put fb (some ⟨1, [Value.int .i64 ((nearF t seen).2 : Int)].set 0 (.int .i64 (awayN b t : Int)), none⟩)).next = m2.next := rfl
    generalize m2.put fb (some ⟨1, [Value.int .i64 ((nearF t seen).2 : Int)].set 0 (.int .i64 (awayN b t : Int)), none⟩) = m3 at g3 f3 y3 x3 n3 ⊢
    rw [oReady_e x3]
    have g4 := g3.put ((hX y).2 (.inl rfl)) (some ⟨Nat.succ (Nat.mul 2 38), CS, some []⟩)
    refine hk _ (g1.trans g4) ⟨?_, ?_, u, ?_, ?_, hub⟩
    · rw [hcs]; exact Mem.rd_put_eq _ _ (by omega)
    · rw [hsn]; exact (Mem.rd_put _ _ _ _ h1).trans f3
    · exact (Mem.rd_put _ _ _ _ h2).trans y3
    · rw [hsn]
      exact hu1.monoX g4 (fun _ => hub)
  rw [ld1_u, hf1, rdo_e, hcf, oOpt_e, oInt_lss]
  by_cases q1 : awayN b t < (nearF t seen).2
  · have d1 : decide ((awayN b t : Int) < ((nearF t seen).2 : Int)) = true := decide_eq_true (by omega)
    rw [d1]
    have hst := hyes (if_pos (.inl q1))
    try simp (disch := first | omega | with_unfolding_all exact id rfl | with_unfolding_all exact Nat.le_of_ble_eq_true rfl | (simp only [Jd, Je, Jr, Js, Jt, Nat.reduceAdd, allOne, oneCell, Bool.and_self, Jc]; first | done | omega)) only [↓Qa, ↓Qb, Qd, Qe, Qf, Qg, Qh, Qi, Qj, Qk, Ql, Qm, Qn, Qo, Qp, Qq, Qr, Qs, Qt, Qu, Qv, Qw, Qx, Qy, ptrTo, Qz, QA, QB, QC, QD, QE, QF, QG, QH, QI, QJ, QK, QL, QM, QN, QO, QP, QQ, QR, QS, QT, QU, QV, QW, QX, QY, QZ, Ja, Jb, Jc, Jd, Je, Jf, Jg, Jh, Ji, Jj, Jk, Jl, Jm, Jn, Jo, Jp, Jq, Jr, Js, Jt, Nat.reduceAdd]
    repeat (rw [join_e]; try simp (disch := first | omega | with_unfolding_all exact id rfl | with_unfolding_all exact Nat.le_of_ble_eq_true rfl | (simp only [Jd, Je, Jr, Js, Jt, Nat.reduceAdd, allOne, oneCell, Bool.and_self, Jc]; first | done | omega)) only [↓Qa, ↓Qb, Qd, Qe, Qf, Qg, Qh, Qi, Qj, Qk, Ql, Qm, Qn, Qo, Qp, Qq, Qr, Qs, Qt, Qu, Qv, Qw, Qx, Qy, ptrTo, Qz, QA, QB, QC, QD, QE, QF, QG, QH, QI, QJ, QK, QL, QM, QN, QO, QP, QQ, QR, QS, QT, QU, QV, QW, QX, QY, QZ, Ja, Jb, Jc, Jd, Je, Jf, Jg, Jh, Ji, Jj, Jk, Jl, Jm, Jn, Jo, Jp, Jq, Jr, Js, Jt, Nat.reduceAdd])
    try simp (disch := first | omega | with_unfolding_all exact id rfl | with_unfolding_all exact Nat.le_of_ble_eq_true rfl | (simp only [Jd, Je, Jr, Js, Jt, Nat.reduceAdd, allOne, oneCell, Bool.and_self, Jc]; first | done | omega)) only [↓Qa, ↓Qb, Qd, Qe, Qf, Qg, Qh, Qi, Qj, Qk, Ql, Qm, Qn, Qo, Qp, Qq, Qr, Qs, Qt, Qu, Qv, Qw, Qx, Qy, ptrTo, Qz, QA, QB, QC, QD, QE, QF, QG, QH, QI, QJ, QK, QL, QM, QN, QO, QP, QQ, QR, QS, QT, QU, QV, QW, QX, QY, QZ, Ja, Jb, Jc, Jd, Je, Jf, Jg, Jh, Ji, Jj, Jk, Jl, Jm, Jn, Jo, Jp, Jq, Jr, Js, Jt, Nat.reduceAdd]
    exact hst
  · have d1 : decide ((awayN b t : Int) < ((nearF t seen).2 : Int)) = false := decide_eq_false (by omega)
    rw [d1]
    try simp (disch := first | omega | with_unfolding_all exact id rfl | with_unfolding_all exact Nat.le_of_ble_eq_true rfl | (simp only [Jd, Je, Jr, Js, Jt, Nat.reduceAdd, allOne, oneCell, Bool.and_self, Jc]; first | done | omega)) only [↓Qa, ↓Qb, Qd, Qe, Qf, Qg, Qh, Qi, Qj, Qk, Ql, Qm, Qn, Qo, Qp, Qq, Qr, Qs, Qt, Qu, Qv, Qw, Qx, Qy, ptrTo, Qz, QA, QB, QC, QD, QE, QF, QG, QH, QI, QJ, QK, QL, QM, QN, QO, QP, QQ, QR, QS, QT, QU, QV, QW, QX, QY, QZ, Ja, Jb, Jc, Jd, Je, Jf, Jg, Jh, Ji, Jj, Jk, Jl, Jm, Jn, Jo, Jp, Jq, Jr, Js, Jt, Nat.reduceAdd]
    rw [join_e]
    try simp (disch := first | omega | with_unfolding_all exact id rfl | with_unfolding_all exact Nat.le_of_ble_eq_true rfl | (simp only [Jd, Je, Jr, Js, Jt, Nat.reduceAdd, allOne, oneCell, Bool.and_self, Jc]; first | done | omega)) only [hf1, hcf, ↓Qa, ↓Qb, Qd, Qe, Qf, Qg, Qh, Qi, Qj, Qk, Ql, Qm, Qn, Qo, Qp, Qq, Qr, Qs, Qt, Qu, Qv, Qw, Qx, Qy, ptrTo, Qz, QA, QB, QC, QD, QE, QF, QG, QH, QI, QJ, QK, QL, QM, QN, QO, QP, QQ, QR, QS, QT, QU, QV, QW, QX, QY, QZ, Ja, Jb, Jc, Jd, Je, Jf, Jg, Jh, Ji, Jj, Jk, Jl, Jm, Jn, Jo, Jp, Jq, Jr, Js, Jt, Nat.reduceAdd]
    by_cases q2 : awayN b t = (nearF t seen).2
    · have d2 : decide ((awayN b t : Int) = ((nearF t seen).2 : Int)) = true := decide_eq_true (by omega)
      try simp (disch := first | omega | with_unfolding_all exact id rfl | with_unfolding_all exact Nat.le_of_ble_eq_true rfl | (simp only [Jd, Je, Jr, Js, Jt, Nat.reduceAdd, allOne, oneCell, Bool.and_self, Jc]; first | done | omega)) only [d2, ↓Qa, ↓Qb, Qd, Qe, Qf, Qg, Qh, Qi, Qj, Qk, Ql, Qm, Qn, Qo, Qp, Qq, Qr, Qs, Qt, Qu, Qv, Qw, Qx, Qy, ptrTo, Qz, QA, QB, QC, QD, QE, QF, QG, QH, QI, QJ, QK, QL, QM, QN, QO, QP, QQ, QR, QS, QT, QU, QV, QW, QX, QY, QZ, Ja, Jb, Jc, Jd, Je, Jf, Jg, Jh, Ji, Jj, Jk, Jl, Jm, Jn, Jo, Jp, Jq, Jr, Js, Jt, Nat.reduceAdd]
      repeat (rw [join_e]; try simp (disch := first | omega | with_unfolding_all exact id rfl | with_unfolding_all exact Nat.le_of_ble_eq_true rfl | (simp only [Jd, Je, Jr, Js, Jt, Nat.reduceAdd, allOne, oneCell, Bool.and_self, Jc]; first | done | omega)) only [d2, hb11, cb, ↓Qa, ↓Qb, Qd, Qe, Qf, Qg, Qh, Qi, Qj, Qk, Ql, Qm, Qn, Qo, Qp, Qq, Qr, Qs, Qt, Qu, Qv, Qw, Qx, Qy, ptrTo, Qz, QA, QB, QC, QD, QE, QF, QG, QH, QI, QJ, QK, QL, QM, QN, QO, QP, QQ, QR, QS, QT, QU, QV, QW, QX, QY, QZ, Ja, Jb, Jc, Jd, Je, Jf, Jg, Jh, Ji, Jj, Jk, Jl, Jm, Jn, Jo, Jp, Jq, Jr, Js, Jt, Nat.reduceAdd])
      refine compare_sp hlf hu1 hb21 (by omega) (by omega) ?_
      by_cases q3 : cmpL b (nearF t seen).1 < 0
      · have hst := hyes (if_pos (.inr ⟨q2, q3⟩))
        try simp (disch := first | omega | with_unfolding_all exact id rfl | with_unfolding_all exact Nat.le_of_ble_eq_true rfl | (simp only [Jd, Je, Jr, Js, Jt, Nat.reduceAdd, allOne, oneCell, Bool.and_self, Jc]; first | done | omega)) only [decide_eq_true q3, ↓Qa, ↓Qb, Qd, Qe, Qf, Qg, Qh, Qi, Qj, Qk, Ql, Qm, Qn, Qo, Qp, Qq, Qr, Qs, Qt, Qu, Qv, Qw, Qx, Qy, ptrTo, Qz, QA, QB, QC, QD, QE, QF, QG, QH, QI, QJ, QK, QL, QM, QN, QO, QP, QQ, QR, QS, QT, QU, QV, QW, QX, QY, QZ, Ja, Jb, Jc, Jd, Je, Jf, Jg, Jh, Ji, Jj, Jk, Jl, Jm, Jn, Jo, Jp, Jq, Jr, Js, Jt, Nat.reduceAdd]
        repeat (rw [join_e]; try simp (disch := first | omega | with_unfolding_all exact id rfl | with_unfolding_all exact Nat.le_of_ble_eq_true rfl | (simp only [Jd, Je, Jr, Js, Jt, Nat.reduceAdd, allOne, oneCell, Bool.and_self, Jc]; first | done | omega)) only [decide_eq_true q3, ↓Qa, ↓Qb, Qd, Qe, Qf, Qg, Qh, Qi, Qj, Qk, Ql, Qm, Qn, Qo, Qp, Qq, Qr, Qs, Qt, Qu, Qv, Qw, Qx, Qy, ptrTo, Qz, QA, QB, QC, QD, QE, QF, QG, QH, QI, QJ, QK, QL, QM, QN, QO, QP, QQ, QR, QS, QT, QU, QV, QW, QX, QY, QZ, Ja, Jb, Jc, Jd, Je, Jf, Jg, Jh, Ji, Jj, Jk, Jl, Jm, Jn, Jo, Jp, Jq, Jr, Js, Jt, Nat.reduceAdd])
        try simp (disch := first | omega | with_unfolding_all exact id rfl | with_unfolding_all exact Nat.le_of_ble_eq_true rfl | (simp only [Jd, Je, Jr, Js, Jt, Nat.reduceAdd, allOne, oneCell, Bool.and_self, Jc]; first | done | omega)) only [decide_eq_true q3, ↓Qa, ↓Qb, Qd, Qe, Qf, Qg, Qh, Qi, Qj, Qk, Ql, Qm, Qn, Qo, Qp, Qq, Qr, Qs, Qt, Qu, Qv, Qw, Qx, Qy, ptrTo, Qz, QA, QB, QC, QD, QE, QF, QG, QH, QI, QJ, QK, QL, QM, QN, QO, QP, QQ, QR, QS, QT, QU, QV, QW, QX, QY, QZ, Ja, Jb, Jc, Jd, Je, Jf, Jg, Jh, Ji, Jj, Jk, Jl, Jm, Jn, Jo, Jp, Jq, Jr, Js, Jt, Nat.reduceAdd]
        exact hst
      · have hst := hno (if_neg (fun h => h.elim q1 fun h => q3 h.2))
        try simp (disch := first | omega | with_unfolding_all exact id rfl | with_unfolding_all exact Nat.le_of_ble_eq_true rfl | (simp only [Jd, Je, Jr, Js, Jt, Nat.reduceAdd, allOne, oneCell, Bool.and_self, Jc]; first | done | omega)) only [decide_eq_false q3, ↓Qa, ↓Qb, Qd, Qe, Qf, Qg, Qh, Qi, Qj, Qk, Ql, Qm, Qn, Qo, Qp, Qq, Qr, Qs, Qt, Qu, Qv, Qw, Qx, Qy, ptrTo, Qz, QA, QB, QC, QD, QE, QF, QG, QH, QI, QJ, QK, QL, QM, QN, QO, QP, QQ, QR, QS, QT, QU, QV, QW, QX, QY, QZ, Ja, Jb, Jc, Jd, Je, Jf, Jg, Jh, Ji, Jj, Jk, Jl, Jm, Jn, Jo, Jp, Jq, Jr, Js, Jt, Nat.reduceAdd]
        repeat (rw [join_e]; try simp (disch := first | omega | with_unfolding_all exact id rfl | with_unfolding_all exact Nat.le_of_ble_eq_true rfl | (simp only [Jd, Je, Jr, Js, Jt, Nat.reduceAdd, allOne, oneCell, Bool.and_self, Jc]; first | done | omega)) only [decide_eq_false q3, ↓Qa, ↓Qb, Qd, Qe, Qf, Qg, Qh, Qi, Qj, Qk, Ql, Qm, Qn, Qo, Qp, Qq, Qr, Qs, Qt, Qu, Qv, Qw, Qx, Qy, ptrTo, Qz, QA, QB, QC, QD, QE, QF, QG, QH, QI, QJ, QK, QL, QM, QN, QO, QP, QQ, QR, QS, QT, QU, QV, QW, QX, QY, QZ, Ja, Jb, Jc, Jd, Je, Jf, Jg, Jh, Ji, Jj, Jk, Jl, Jm, Jn, Jo, Jp, Jq, Jr, Js, Jt, Nat.reduceAdd])
        try simp (disch := first | omega | with_unfolding_all exact id rfl | with_unfolding_all exact Nat.le_of_ble_eq_true rfl | (simp only [Jd, Je, Jr, Js, Jt, Nat.reduceAdd, allOne, oneCell, Bool.and_self, Jc]; first | done | omega)) only [decide_eq_false q3, ↓Qa, ↓Qb, Qd, Qe, Qf, Qg, Qh, Qi, Qj, Qk, Ql, Qm, Qn, Qo, Qp, Qq, Qr, Qs, Qt, Qu, Qv, Qw, Qx, Qy, ptrTo, Qz, QA, QB, QC, QD, QE, QF, QG, QH, QI, QJ, QK, QL, QM, QN, QO, QP, QQ, QR, QS, QT, QU, QV, QW, QX, QY, QZ, Ja, Jb, Jc, Jd, Je, Jf, Jg, Jh, Ji, Jj, Jk, Jl, Jm, Jn, Jo, Jp, Jq, Jr, Js, Jt, Nat.reduceAdd]
        rw [oReady_e x1]
        exact hst
    · have d2 : decide ((awayN b t : Int) = ((nearF t seen).2 : Int)) = false := decide_eq_false (by omega)
      have hst := hno (if_neg (fun h => h.elim q1 fun h => q2 h.1))
      try simp (disch := first | omega | with_unfolding_all exact id rfl | with_unfolding_all exact Nat.le_of_ble_eq_true rfl | (simp only [Jd, Je, Jr, Js, Jt, Nat.reduceAdd, allOne, oneCell, Bool.and_self, Jc]; first | done | omega)) only [d2, ↓Qa, ↓Qb, Qd, Qe, Qf, Qg, Qh, Qi, Qj, Qk, Ql, Qm, Qn, Qo, Qp, Qq, Qr, Qs, Qt, Qu, Qv, Qw, Qx, Qy, ptrTo, Qz, QA, QB, QC, QD, QE, QF, QG, QH, QI, QJ, QK, QL, QM, QN, QO, QP, QQ, QR, QS, QT, QU, QV, QW, QX, QY, QZ, Ja, Jb, Jc, Jd, Je, Jf, Jg, Jh, Ji, Jj, Jk, Jl, Jm, Jn, Jo, Jp, Jq, Jr, Js, Jt, Nat.reduceAdd]
      repeat (rw [join_e]; try simp (disch := first | omega | with_unfolding_all exact id rfl | with_unfolding_all exact Nat.le_of_ble_eq_true rfl | (simp only [Jd, Je, Jr, Js, Jt, Nat.reduceAdd, allOne, oneCell, Bool.and_self, Jc]; first | done | omega)) only [d2, ↓Qa, ↓Qb, Qd, Qe, Qf, Qg, Qh, Qi, Qj, Qk, Ql, Qm, Qn, Qo, Qp, Qq, Qr, Qs, Qt, Qu, Qv, Qw, Qx, Qy, ptrTo, Qz, QA, QB, QC, QD, QE, QF, QG, QH, QI, QJ, QK, QL, QM, QN, QO, QP, QQ, QR, QS, QT, QU, QV, QW, QX, QY, QZ, Ja, Jb, Jc, Jd, Je, Jf, Jg, Jh, Ji, Jj, Jk, Jl, Jm, Jn, Jo, Jp, Jq, Jr, Js, Jt, Nat.reduceAdd])
      try simp (disch := first | omega | with_unfolding_all exact id rfl | with_unfolding_all exact Nat.le_of_ble_eq_true rfl | (simp only [Jd, Je, Jr, Js, Jt, Nat.reduceAdd, allOne, oneCell, Bool.and_self, Jc]; first | done | omega)) only [d2, ↓Qa, ↓Qb, Qd, Qe, Qf, Qg, Qh, Qi, Qj, Qk, Ql, Qm, Qn, Qo, Qp, Qq, Qr, Qs, Qt, Qu, Qv, Qw, Qx, Qy, ptrTo, Qz, QA, QB, QC, QD, QE, QF, QG, QH, QI, QJ, QK, QL, QM, QN, QO, QP, QQ, QR, QS, QT, QU, QV, QW, QX, QY, QZ, Ja, Jb, Jc, Jd, Je, Jf, Jg, Jh, Ji, Jj, Jk, Jl, Jm, Jn, Jo, Jp, Jq, Jr, Js, Jt, Nat.reduceAdd]
      rw [oReady_e x1]
      exact hst
end
end Go.Vit

/- Walks: the nearest blend that fits. -/
namespace Go.Vit
open Go Go.Proofs
attribute [local irreducible] runT loopS
theorem slice_cells {m : Mem} {v : Value} {l : List Int} (h : IL m v l) : v.cells.toList = [v] := by
  obtain ⟨p, c, rfl⟩ := h.ex
  rfl
section
variable {lf n L : Nat} {m : Mem} {k : Value → Mem → Option Unit}
theorem nearest38_sp {wv v : Value} {l b : List Int} {lo hi : Int} (hlf : 1000000 ≤ lf) (hL : L ≤ m.next) (hw : IL m wv l) (hv : IL m v b) (hb : b.length < 1000000)
    (hk : ∀ u m', Gt m m' → IN m' u (nrL l lo hi b) → k (.tuple ⟨[u, .int .i64 (nrE l lo hi b)]⟩) m' = some ()) :
    runT (tab lf) (n + 10) 38 [rcp wv lo hi, v] L m k = some () := by
  rw [r38]; dsimp only [S38, iofNat, inegSucc]
  have hcv := slice_cells hv
  rw [uc_e, uc_e, un0_e, abox_e, oRes_e, cells_agg, abox_e, oRes_e, hcv]
  have g1 := Mem.gt_push m ⟨1, rcC wv lo hi, none⟩
  have hA : At (m.push ⟨1, rcC wv lo hi, none⟩) m.next (rcC wv lo hi) := At.push m _
  have n1 : (m.push ⟨1, rcC wv lo hi, none⟩).next = m.next + 1 := Mem.push_next _ _
  generalize m.push ⟨1, rcC wv lo hi, none⟩ = m1 at g1 hA n1 ⊢
  have g2 := Mem.gt_push m1 ⟨1, [v], none⟩
  have hT := At.push m1 [v]
  have n2 : (m1.push ⟨1, [v], none⟩).next = m1.next + 1 := Mem.push_next _ _
  have hA2 := hA.mono g2
  generalize m1.push ⟨1, [v], none⟩ = m2 at g2 hT n2 hA2 ⊢
  unfold ptrTo
  have G2 := g1.trans g2
  have c0 : (rcC wv lo hi)[0]? = some wv := rfl
  have cv : ([v] : List Value)[0]? = some v := rfl
  rw [ldN_u, hA2.rd, rdn3, oOpt_e, ld1_u, hT.rd, rdo_e, cv, oOpt_e]
  refine blended_sp hlf (hw.mono G2) (hv.mono G2) hb fun m3 e3 => ?_
  have G3 := G2.trans e3
  have n3 := e3.next
  have hA3 := hA2.mono e3
  have hT3 := hT.mono e3
  by_cases h : bldE l lo hi b = 0
  · have hE : nrE l lo hi b = if fitL (nni l) b.length lo hi = [] then 12 else 0 := if_pos h
    obtain ⟨ws, t, rfl, rfl, q1, q2, q3, q4, q5⟩ := bldE_ok h
    rw [nni_ci, ci_length] at hE
    have hs := q5.le
    have hw : IN m wv ws := hw
    have hv : IN m v t := hv
    rw [h]
    have d11 : decide ((0 : Int) = 0) = true := by decide
    try simp (disch := first | omega | with_unfolding_all exact id rfl | with_unfolding_all exact Nat.le_of_ble_eq_true rfl | (simp only [Jd, Je, Jr, Js, Jt, Nat.reduceAdd, allOne, oneCell, Bool.and_self, Jc]; first | done | omega)) only [hT3.rd, cv, (hv.mono G3).ln, hA3.rd, ↓Qa, ↓Qb, ↓Qc, Qd, Qe, Qf, Qg, Qh, Qi, Qj, Qk, Ql, Qm, Qn, Qo, Qp, Qq, Qr, Qs, Qt, Qu, Qv, Qw, Qx, Qy, ptrTo, Qz, QA, QB, QC, QD, QE, QF, QG, QH, QI, QJ, QK, QL, QM, QN, QO, QP, QQ, QR, QS, QT, QU, QV, QW, QX, QY, QZ, Ja, Jb, Jc, Jd, Je, Jf, Jg, Jh, Ji, Jj, Jk, Jl, Jm, Jn, Jo, Jp, Jq, Jr, Js, Jt, Nat.reduceAdd]
    -- the boxes: best, far
    have g4 := Mem.gt_push m3 ⟨1, [.slice none 0 0], none⟩
    have b4 : (m3.push ⟨1, [.slice none 0 0], none⟩).rd m3.next = some ⟨1, [.slice none 0 0], none⟩ := Mem.rd_push _ _
    have n4 : (m3.push ⟨1, [.slice none 0 0], none⟩).next = m3.next + 1 := Mem.push_next _ _
    generalize m3.push ⟨1, [.slice none 0 0], none⟩ = m4 at g4 b4 n4 ⊢
    have g5 : Gt m4 ((m4.push ⟨1, [.int .i64 0], none⟩).put (m3.next + 1) (some ⟨1, [.int .i64 11], none⟩)) := Mem.put_gt (Mem.gt_push _ _) _ (by omega)
    have f5 : ((m4.push ⟨1, [.int .i64 0], none⟩).put (m3.next + 1) (some ⟨1, [.int .i64 11], none⟩)).rd (m3.next + 1) = some ⟨1, [.int .i64 11], none⟩ := Mem.rd_put_eq _ _ (by rw [Mem.push_next]; omega)
    have n5 : ((m4.push ⟨1, [.int .i64 0], none⟩).put (m3.next + 1) (some ⟨1, [.int .i64 11], none⟩)).next = m4.next + 1 := rfl
    generalize (m4.push ⟨1, [.int .i64 0], none⟩).put (m3.next + 1) (some ⟨1, [.int .i64 11], none⟩) = m5 at g5 f5 n5 ⊢
    refine fitting_sp fun m6 e6 hB hC n6 => ?_
    rw [oRange_e (hf := rfl)]
    generalize hcs : ([.pointer (some ⟨m3.next + 1, 0, none⟩), .pointer (some ⟨m3.next, 0, none⟩), .pointer (some ⟨m1.next, 0, none⟩)] : List Value) = CS
    have g7 := Mem.gt_push m6 ⟨Nat.succ (Nat.mul 2 38), CS, some []⟩
    have r7 : Rdy 38 (m6.push ⟨Nat.succ (Nat.mul 2 38), CS, some []⟩) m6.next CS := Mem.rd_push _ _
    have n7 : (m6.push ⟨Nat.succ (Nat.mul 2 38), CS, some []⟩).next = m6.next + 1 := Mem.push_next _ _
    generalize m6.push ⟨Nat.succ (Nat.mul 2 38), CS, some []⟩ = m7 at g7 r7 n7 ⊢
    have e57 := (g5.trans e6).trans g7
    have e37 := g4.trans e57
    have G7 := G3.trans e37
    have hwb : ∀ c, bid wv = some c → c < m.next := fun c hc => Sl.bid_lt hw (by rw [ci_length]; omega) c hc
    have htv : 0 < t.length → ∀ c, bid v = some c → c < m.next := fun h0 c hc => Sl.bid_lt hv (by rw [ci_length]; omega) c hc
    have f7 := ((g7.kept _ (by have := e6.next; omega)).trans (e6.kept _ (by omega))).trans f5
    have b7 := (e57.kept _ (by omega)).trans b4
    have hT7 := hT3.mono e37
    have htbl := hT.lt
    have e6n := e6.next
    refine fits91_sp (X := fun c => c = m6.next ∨ c = m3.next + 1 ∨ c = m3.next) (J := fun seen m' => NrJ (fun c => c = m6.next ∨ c = m3.next + 1 ∨ c = m3.next) m6.next (m3.next + 1) m3.next m1.next t seen m' ∧ ∀ x ∈ seen, x.length < 100) hlf (by omega) (hw.mono G7) q3 q2 hs (hB.mono g7) (hC.mono g7)
      (by rintro (h | h | h) <;> omega) (by rintro (h | h | h) <;> omega) (fun c hc => by have := hwb c hc; rintro (h | h | h) <;> omega) (by rintro c (h | h | h) <;> omega) ⟨⟨by rw [hcs]; exact r7, f7, _, b7, IL.nil _, fun c hc => by cases hc⟩, fun x hx => by cases hx⟩ ?_ ?_ ?_
    · rintro seen x y ⟨⟨j1, j2, bv, j3, j4, j5⟩, j6⟩ e
      exact ⟨⟨(e.kept _ j1.lt).trans j1, (e.kept _ (Mem.rd_lt j2)).trans j2, bv, (e.kept _ (Mem.rd_lt j3)).trans j3, j4.mono e, j5⟩, j6⟩
    · rintro m8 u b seen K e8 ⟨hj, hseen⟩ hsl hu hbb hub hK
      have hbl := hbb.len
      refine round38_sp (X := fun c => c = m6.next ∨ c = m3.next + 1 ∨ c = m3.next) (kk := 0) (N := 0) hlf (by omega) (by omega) (by omega) (fun c => Iff.rfl) (by omega) (by omega) (by omega) (by rintro (h | h | h) <;> omega) hj (hT7.monoX e8 (by rintro (h | h | h) <;> omega)) ((hv.mono G7).monoX e8 fun h0 c hc => by have := htv h0 c hc; rintro (h | h | h) <;> omega)
        (by omega) hu hub (by omega) (fun h0 c hc => by have := htv h0 c hc; rintro (h | h | h) <;> omega) hseen fun m9 e9 hj9 => ?_
      refine hK m9 e9 ⟨hj9, fun x hx => ?_⟩
      rcases List.mem_append.1 hx with hx | hx
      · exact hseen x hx
      · rw [List.mem_singleton] at hx; subst hx; omega
    · rintro m8 e8 ⟨⟨j1, j2, bv, j3, j4, j5⟩, j6⟩
      have n8 := e8.next
      rw [oEnd_e j1, Mem.rd_put _ _ _ _ (by omega), j2, rdo_e, List.getElem?_cons_zero, oOpt_e, oInt_gtr]
      have Gf : Gt m (m8.put m6.next none) := by
        refine Mem.put_gt (e8.gt G7 ?_) _ (by omega)
        rintro c (h | h | h) <;> omega
      by_cases hf : fitL ws t.length lo hi = []
      · rw [if_pos hf] at hE
        have hN : nrL (ci ws) lo hi (ci t) = [] := if_neg (by rw [hE]; decide)
        rw [hE, hN] at hk
        rw [hf, nearF_nil]
        exact hk _ _ Gf (IL.nil _)
      · rw [if_neg hf] at hE
        have hN : nrL (ci ws) lo hi (ci t) = (nearF t (fitL ws t.length lo hi)).1 := by unfold nrL; rw [if_pos hE, nni_ci, nni_ci, ci_length]
        obtain ⟨q6, q7, q8⟩ := nearF_min (t := t) (l := fitL ws t.length lo hi) (fun b hb => by
          have h1 := (away_le (fitL_bl q2 hs hb).1 q5).1
          omega) hf
        have h9 := (away_le (fitL_bl q2 hs q6).1 q5).1
        rw [hE, hN] at hk
        have d1 : decide ((10 : Int) < ((nearF t (fitL ws t.length lo hi)).2 : Int)) = false := decide_eq_false (by omega)
        rw [d1, oIf_f, Mem.rd_put _ _ _ _ (by omega), j3, rdo_e, List.getElem?_cons_zero, oOpt_e]
        exact hk _ _ Gf (j4.keep fun c hc => Mem.rd_put _ _ _ _ (fun h => j5 c hc (.inl h.symm)))
  · have hE : nrE l lo hi b = bldE l lo hi b := if_neg h
    have hN : nrL l lo hi b = [] := if_neg (by rw [hE]; exact h)
    rw [hE, hN] at hk
    try simp (disch := first | omega | with_unfolding_all exact id rfl | with_unfolding_all exact Nat.le_of_ble_eq_true rfl | (simp only [Jd, Je, Jr, Js, Jt, Nat.reduceAdd, allOne, oneCell, Bool.and_self, Jc]; first | done | omega)) only [decide_eq_false h, ↓Qa, ↓Qb, ↓Qc, Qd, Qe, Qf, Qg, Qh, Qi, Qj, Qk, Ql, Qm, Qn, Qo, Qp, Qq, Qr, Qs, Qt, Qu, Qv, Qw, Qx, Qy, ptrTo, Qz, QA, QB, QC, QD, QE, QF, QG, QH, QI, QJ, QK, QL, QM, QN, QO, QP, QQ, QR, QS, QT, QU, QV, QW, QX, QY, QZ, Ja, Jb, Jc, Jd, Je, Jf, Jg, Jh, Ji, Jj, Jk, Jl, Jm, Jn, Jo, Jp, Jq, Jr, Js, Jt, Nat.reduceAdd]
    exact hk _ _ G3 (IL.nil _)
end
end Go.Vit

/- Walks: a recipe by numbers. -/
namespace Go.Vit
open Go Go.Proofs
attribute [local irreducible] runT loopS
theorem u67 : Try.prog.underlying 67 = some (.array 10 5) := by kernel_rfl
theorem ts5 : tsize Try.prog 5 = some 1 := by kernel_rfl
theorem sl67 {b o q : Nat} (hq : q ≤ 10) : sl Try.prog 67 (.pointer (some ⟨b, o, none⟩)) none (some (.int .i64 (q : Int))) none = some (.slice (some ⟨b, o, some 0⟩) q 10) := by
  unfold sl aslice
  rw [u67]
  simp only [ts5, Option.map_some, Option.map_none]
  have h1 : abound (tri none (some (.int .i64 (q : Int))) none) (some (.tmp 1)) 10 = some q := by
    show anat (.int .i64 (Int.ofNat q)) = _
    simp only [anat, natK_eq]
  have h2 : abounds (tri none (some (.int .i64 (q : Int))) none) 10 10 none (some (.tmp 1)) none = some (0, q, 10) := by
    unfold abounds
    simp only [abound_none, h1, ble_t hq, ble_t (Nat.zero_le q), ble_t (Nat.le_refl 10), Bool.and_self]
  simp only [h2]
  rfl
/-- A recipe's numbers. -/
def mixC (a : Nat) (wl : List Nat) (c d : Nat) : List Value := .int .u8 (a : Int) :: ((wl.map fun (g : Nat) => .int .u8 (g : Int)) ++ [.int .u16 (c : Int), .int .u8 (d : Int)])
abbrev mixV (a : Nat) (wl : List Nat) (c d : Nat) : Value := .agg ⟨mixC a wl c d⟩
theorem mix_at {a c d : Nat} {wl : List Nat} {i : Nat} (h : i < wl.length) : (mixC a wl c d)[1 + i * 1]? = some (.int .u8 (wl[i] : Int)) := by
  unfold mixC
  rw [show 1 + i * 1 = i + 1 by omega, List.getElem?_cons_succ, List.getElem?_append_left (by rw [List.length_map]; exact h), List.getElem?_map, List.getElem?_eq_getElem h]
  rfl
theorem mix_lo {a c d : Nat} {wl : List Nat} (h : wl.length = 10) : (mixC a wl c d)[11]? = some (.int .u16 (c : Int)) := by
  unfold mixC
  rw [show 11 = 10 + 1 from rfl, List.getElem?_cons_succ, List.getElem?_append_right (by rw [List.length_map]; omega), List.length_map, h]
  rfl
theorem mix_wide {a c d : Nat} {wl : List Nat} (h : wl.length = 10) : (mixC a wl c d)[12]? = some (.int .u8 (d : Int)) := by
  unfold mixC
  rw [show 12 = 11 + 1 from rfl, List.getElem?_cons_succ, List.getElem?_append_right (by rw [List.length_map]; omega), List.length_map, h]
  rfl
theorem mix_len {a c d : Nat} {wl : List Nat} (h : wl.length = 10) : (mixC a wl c d).length = 13 := by
  unfold mixC; simp [h]
theorem mix_of {ns : List (IntKind × Int)} (h : ns.map (·.1) = [.u8, .u8, .u8, .u8, .u8, .u8, .u8, .u8, .u8, .u8, .u8, .u16, .u8] ∧ ∀ p ∈ ns, p.1.has p.2) : ∃ (a : Nat) (wl : List Nat) (c d : Nat), intsV ns = mixC a wl c d ∧ a < 256 ∧ wl.length = 10 ∧ (∀ g ∈ wl, g < 256) ∧ c < 65536 ∧ d < 256 := by
  obtain ⟨h1, h2⟩ := h
  have e := (List.take_append_drop 11 ns).symm
  have k1 : (ns.take 11).map (·.1) = List.replicate 11 .u8 := by rw [List.map_take, h1]; rfl
  have k2 : (ns.drop 11).map (·.1) = [.u16, .u8] := by rw [List.map_drop, h1]; rfl
  obtain ⟨l, q1, q2, q3⟩ := u8s_of (n := 11) k1 (fun p hp => h2 p (List.mem_of_mem_take hp))
  match l, q2 with
  | a :: wl, q2 =>
    match hd : ns.drop 11, k2 with
    | [(_, x), (_, y)], k2 =>
      simp only [List.map_cons, List.map_nil, List.cons.injEq, and_true] at k2
      obtain ⟨rfl, rfl⟩ := k2
      have hx := h2 (.u16, x) (List.mem_of_mem_drop (i := 11) (by rw [hd]; simp))
      have hy := h2 (.u8, y) (List.mem_of_mem_drop (i := 11) (by rw [hd]; simp))
      have hx1 : IntKind.u16.min ≤ x ∧ x ≤ IntKind.u16.max := hx
      have hy1 : IntKind.u8.min ≤ y ∧ y ≤ IntKind.u8.max := hy
      have hx2 : (0 : Int) ≤ x := hx1.1
      have hx3 : x ≤ (65535 : Int) := hx1.2
      have hy2 : (0 : Int) ≤ y := hy1.1
      have hy3 : y ≤ (255 : Int) := hy1.2
      refine ⟨a, wl, x.toNat, y.toNat, ?_, q3 _ (List.mem_cons_self ..), by simpa using q2, fun g hg => q3 g (List.mem_cons_of_mem _ hg), by omega, by omega⟩
      have hi : intsV ns = intsV (ns.take 11) ++ intsV (ns.drop 11) := by
        unfold intsV; rw [← List.map_append, List.take_append_drop]
      rw [hi, q1, hd]
      unfold mixC intsV
      rw [show ((x.toNat : Nat) : Int) = x by omega, show ((y.toNat : Nat) : Int) = y by omega]
      rfl
theorem bn4 (a b : Bool) : abin Try.prog .neq 4 (.bool a) (.bool b) = some (.bool (a != b)) := by cases a <;> cases b <;> kernel_rfl
theorem bu43 (p : Option Addr) (n c : Nat) (lo hi : Int) : bu Try.prog 43 [(0, .slice p n c), (1, .int .i64 lo), (2, .int .i64 hi)] = some (rcp (.slice p n c) lo hi) := by kernel_rfl
theorem rc_facts {m : Mem} {b : Nat} {wv : Value} {lo hi : Int} (h : At m b (rcC wv lo hi)) : rdn (m.rd b) 0 3 = some (rcp wv lo hi) ∧ rdo (m.rd b) 0 = some wv ∧ rdo (m.rd b) 1 = some (.int .i64 lo) ∧ rdo (m.rd b) 2 = some (.int .i64 hi) := by
  rw [h.rd]; exact ⟨rdn3 .., rfl, rfl, rfl⟩
theorem box3 {L : Nat} {m : Mem} {wv : Value} {lo hi : Int} {l : List Int} {m2 : Mem} {K : Value → Mem → Option Unit} (hw : IL m2 wv l) (hL : L ≤ m.next)
    (hk : ∀ m', Gt m m' → At m' m.next (rcC wv lo hi) → m'.next = m.next + 1 → K (.pointer (some ⟨m.next, 0, none⟩)) m' = some ()) :
    (oRes (anew m 1 [.slice none 0 0, .int .i64 0, .int .i64 0] ptrTo) fun t m' => oRes (st1 3 L m' t (rcp wv lo hi)) fun _ m'' => K t m'') = some () := by
  obtain ⟨p, c, rfl⟩ := hw.ex
  rw [anew_eq, oRes_e]
  unfold ptrTo
  rw [st1_u, Mem.rd_push, cells_agg, stw_e (s := 3) hL rfl (Nat.le_refl _) rfl, oRes_e]
  refine hk _ (Mem.put_gt (Mem.gt_push _ _) _ (Nat.le_refl _)) (Mem.rd_put_eq _ _ (by rw [Mem.push_next]; omega)) ?_
  rw [Mem.put_next', Mem.push_next]
theorem box3s {L : Nat} {m : Mem} {wv : Value} {lo hi : Int} {l : List Int} {m2 : Mem} {K : Mem → Option Unit} (hw : IL m2 wv l) (hL : L ≤ m.next)
    (hk : ∀ m', Gt m m' → At m' m.next (rcC wv lo hi) → m'.next = m.next + 1 → K m' = some ()) :
    (oRes (stw 3 L (m.push ⟨1, [.slice none 0 0, .int .i64 0, .int .i64 0], none⟩) m.next 0 (rcp wv lo hi).cells.toList (some ⟨1, [.slice none 0 0, .int .i64 0, .int .i64 0], none⟩)) fun _ m'' => K m'') = some () := by
  obtain ⟨p, c, rfl⟩ := hw.ex
  rw [cells_agg, stw_e (s := 3) hL rfl (Nat.le_refl _) rfl, oRes_e]
  refine hk _ (Mem.put_gt (Mem.gt_push _ _) _ (Nat.le_refl _)) (Mem.rd_put_eq _ _ (by rw [Mem.push_next]; omega)) ?_
  rw [Mem.put_next', Mem.push_next]
theorem fit_of {ws : List Nat} {lo hi : Int} {kk : Nat} (h1 : 1 ≤ ws.length) (h10 : ws.length ≤ 10) (hws : ∀ w ∈ ws, w ≤ 50) (hlh : lo ≤ hi) (hkk : kk ≤ ws.length) :
    fitE (ci ws) lo hi (kk : Int) = 0 ∧ fitC (ci ws) lo hi (kk : Int) = ((fitL ws kk lo hi).length : Int) := by
  have hz := chkR_z h1 h10 hws hlh
  have hi' : (0 : Int) ≤ (kk : Int) ∧ (kk : Int) ≤ ((ci ws).length : Int) := by rw [ci_length]; omega
  refine ⟨?_, ?_⟩
  · unfold fitE; rw [if_pos hz, if_pos hi']
  · unfold fitC; rw [if_pos ⟨hz, hi'⟩, nni_ci, Int.toNat_natCast]
theorem wgt_of {ws b : List Nat} {lo hi : Int} {kk : Nat} (h1 : 1 ≤ ws.length) (h10 : ws.length ≤ 10) (hws : ∀ w ∈ ws, w ≤ 50) (hlh : lo ≤ hi) (hb : Bl ws.length kk b) : bldE (ci ws) lo hi (ci b) = 0 ∧ wgtX (ci ws) lo hi (ci b) = (wgt ws b : Int) := by
  have hz := bldE_z (lo := lo) (hi := hi) h1 h10 hws hlh hb
  refine ⟨hz, ?_⟩
  unfold wgtX
  rw [if_pos hz, nni_ci, nni_ci]
section
variable {lf n L : Nat} {m : Mem} {k : Value → Mem → Option Unit}
theorem made_sp {a c d most : Nat} {wl : List Nat} (hlf : 1000000 ≤ lf) (hL : L ≤ m.next) (ha : a < 256) (hwl : wl.length = 10) (hwg : ∀ g ∈ wl, g < 256) (hc : c < 65536) (hd : d < 256) (hm0 : 0 < most) (hm10 : most ≤ 10)
    (hk : ∀ wv m' ws (lo hi : Int), Gt m m' → IN m' wv ws → 1 ≤ ws.length → ws.length ≤ most → (∀ w ∈ ws, w ≤ 50) → -5 ≤ lo → lo ≤ hi → hi ≤ 320 → k (rcp wv lo hi) m' = some ()) :
    runT (tab lf) (n + 1) 52 [mixV a wl c d, .int .i64 (most : Int)] L m k = some () := by
  rw [r52]; dsimp only [S52, iofNat, inegSucc]
  rw [uc_e, uc_e, un0_e, abox_e, oRes_e, cells_agg]
  have g1 := Mem.gt_push m ⟨1, mixC a wl c d, none⟩
  have hA : At (m.push ⟨1, mixC a wl c d, none⟩) m.next (mixC a wl c d) := At.push m _
  have n1 : (m.push ⟨1, mixC a wl c d, none⟩).next = m.next + 1 := Mem.push_next _ _
  generalize m.push ⟨1, mixC a wl c d, none⟩ = m1 at g1 hA n1 ⊢
  unfold ptrTo
  have c0 : (mixC a wl c d)[0]? = some (.int .u8 (a : Int)) := rfl
  rw [anew_eq, oRes_e]
  have g2 := Mem.gt_push m1 ⟨1, [.slice none 0 0, .int .i64 0, .int .i64 0], none⟩
  have hB := At.push m1 [.slice none 0 0, .int .i64 0, .int .i64 0]
  have n2 : (m1.push ⟨1, [.slice none 0 0, .int .i64 0, .int .i64 0], none⟩).next = m1.next + 1 := Mem.push_next _ _
  have hA2 := hA.mono g2
  generalize m1.push ⟨1, [.slice none 0 0, .int .i64 0, .int .i64 0], none⟩ = m2 at g2 hB n2 hA2 ⊢
  rw [anew_eq, oRes_e]
  have g3 := Mem.gt_push m2 ⟨1, [.slice none 0 0, .int .i64 0, .int .i64 0], none⟩
  have hC := At.push m2 [.slice none 0 0, .int .i64 0, .int .i64 0]
  have n3 : (m2.push ⟨1, [.slice none 0 0, .int .i64 0, .int .i64 0], none⟩).next = m2.next + 1 := Mem.push_next _ _
  have hA3 := hA2.mono g3
  have hB3 := hB.mono g3
  generalize m2.push ⟨1, [.slice none 0 0, .int .i64 0, .int .i64 0], none⟩ = m3 at g3 hC n3 hA3 hB3 ⊢
  have G3 := (g1.trans g2).trans g3
  have hmod := Nat.mod_lt a hm0
  rw [fa_e, oOpt_e, fa_e, oOpt_e, ld1_u, hA3.rd, rdo_e, show 0 + 0 = 0 from rfl, c0, oOpt_e, oCv_nat (by omega), oInt_remN hm0, show (1 : Int) = ((1 : Nat) : Int) from rfl, oInt_addN (by omega)]
  have hq1 : 1 ≤ 1 + a % most := by omega
  have hq2 : 1 + a % most ≤ most := by have := Nat.mod_lt a hm0; omega
  generalize 1 + a % most = q at hq1 hq2 ⊢
  rw [sl67 (by omega), oOpt_e, ln_e, oOpt_e]
  refine loop_up q (fun i vs m' => ∃ w, vs = [.int .i64 (i : Int)] ∧ Gt m m' ∧ m3.next ≤ m'.next ∧ At m' m.next (mixC a wl c d) ∧ At m' m1.next [.slice none 0 0, .int .i64 0, .int .i64 0] ∧ At m' m2.next [w, .int .i64 0, .int .i64 0] ∧ GN m3.next m' w ((wl.take i).map (· % 51))) (by omega) ⟨_, rfl, G3, Nat.le_refl _, hA3, hB3, hC, GN.nil _ _⟩ ?_
  rintro i vs m4 hi' ⟨w, rfl, e4, n4, hA4, hB4, hC4, hw⟩ self hself
  have hlen : ((wl.take i).map (· % 51)).length = i := by rw [List.length_map, List.length_take]; omega
  have cw : ([w, .int .i64 0, .int .i64 0] : List Value)[0]? = some w := rfl
  rw [uc_e, oInt_lss]
  have c51 : (51 : Int) = ((51 : Nat) : Int) := rfl
  have c260 : (260 : Int) = ((260 : Nat) : Int) := rfl
  have c60 : (60 : Int) = ((60 : Nat) : Int) := rfl
  refine oIf_dec (fun h => ?_) (fun h => ?_)
  · have hil : i < wl.length := by omega
    have hg := hwg _ (List.getElem_mem hil)
    rw [ia_e (show i < q by omega), oOpt_e, ld1_u, hA4.rd, rdo_e, show 0 + 1 + i * 1 = 1 + i * 1 by omega, mix_at hil, oOpt_e, fa_e, oOpt_e, ld1_u, hC4.rd, rdo_e, show 0 + 0 = 0 from rfl, cw, oOpt_e, oCv_nat (by omega), c51, oInt_remN (by omega), bs22, oRes_e]
    obtain ⟨u, m5, s1, s2, s3, s4, s5⟩ := GN.snoc3 (P := Try.prog) (t := 22) (L := L) (m0 := m) (wl[i] % 51) ael22 (by omega) hw (by omega) (by omega) e4 (by omega)
    have hfw : ∀ b, bid w = some b → m3.next ≤ b := hw.fr
    have hC5 : m5.rd m2.next = some ⟨1, [w, .int .i64 0, .int .i64 0], none⟩ := (s5 _ (by omega) (fun hb => by have := hfw _ hb; omega)).trans hC4
    have hA5 := (s5 m.next (by omega) (fun hb => by have := hfw _ hb; omega)).trans hA4
    have hB5 := (s5 m1.next (by omega) (fun hb => by have := hfw _ hb; omega)).trans hB4
    obtain ⟨pu, cu, eu⟩ := s2.ex
    rw [s1, oRes_e, oOpt_e, st_set hC5 (Nat.zero_lt_succ _) (by omega) (by rw [eu]; rfl) (by rw [eu]; rfl), oRes_e, oInt_addN (by omega)]
    refine hself (by omega) _ _ ⟨u, rfl, Mem.put_gt s3 _ (by omega), ?_, (Mem.rd_put _ _ _ _ (by omega)).trans hA5, (Mem.rd_put _ _ _ _ (by omega)).trans hB5, Mem.rd_put_eq _ _ (Mem.rd_lt hC5), ?_⟩
    · rw [Mem.put_next']; omega
    · rw [List.take_add_one, List.getElem?_eq_getElem hil, Option.toList_some, List.map_append, List.map_cons, List.map_nil]
      exact (s2.keepL fun c h1 _ => Mem.rd_put _ _ _ _ (by omega)).le n4
  · have hiq : i = q := by omega
    subst hiq
    obtain ⟨pu, cu, eu⟩ := hw.ex
    have hlo : ((c % 260 : Nat) : Int) - 5 ≤ 254 := by omega
    rw [fa_e, oOpt_e, ld1_u, hA4.rd, rdo_e, show 0 + 11 = 11 from rfl, mix_lo hwl, oOpt_e, oCv_nat (by omega), c260, oInt_remN (by omega), oInt_sub ⟨by omega, by omega⟩]
    have hlo2 : -5 ≤ ((c % 260 : Nat) : Int) - 5 := by omega
    generalize ((c % 260 : Nat) : Int) - 5 = lo at hlo hlo2 ⊢
    rw [fa_e, oOpt_e, show 0 + 1 = 1 from rfl, st_int hC4 (by simp) (by omega), oRes_e]
    have hC5 : At (m4.put m2.next (some ⟨1, [w, .int .i64 0, .int .i64 0].set 1 (.int .i64 lo), none⟩)) m2.next (rcC w lo 0) := Mem.rd_put_eq _ _ (Mem.rd_lt hC4)
    have hA5 : At (m4.put m2.next (some ⟨1, [w, .int .i64 0, .int .i64 0].set 1 (.int .i64 lo), none⟩)) m.next (mixC a wl c d) := (Mem.rd_put _ _ _ _ (by omega)).trans hA4
    have hB5 : At (m4.put m2.next (some ⟨1, [w, .int .i64 0, .int .i64 0].set 1 (.int .i64 lo), none⟩)) m1.next [.slice none 0 0, .int .i64 0, .int .i64 0] := (Mem.rd_put _ _ _ _ (by omega)).trans hB4
    have e5 : Gt m (m4.put m2.next (some ⟨1, [w, .int .i64 0, .int .i64 0].set 1 (.int .i64 lo), none⟩)) := Mem.put_gt e4 _ (by omega)
    have hw5 : GN m3.next (m4.put m2.next (some ⟨1, [w, .int .i64 0, .int .i64 0].set 1 (.int .i64 lo), none⟩)) w ((wl.take i).map (· % 51)) := hw.keepL fun c h1 _ => Mem.rd_put _ _ _ _ (by omega)
    generalize m4.put m2.next (some ⟨1, [w, .int .i64 0, .int .i64 0].set 1 (.int .i64 lo), none⟩) = m5 at hC5 hA5 hB5 e5 hw5 ⊢
    have cl : (rcC w lo 0)[1]? = some (.int .i64 lo) := rfl
    rw [oOpt_e, ld1_u, hC5.rd, rdo_e, cl, oOpt_e, fa_e, oOpt_e, show 0 + 12 = 12 from rfl, ld1_u, hA5.rd, rdo_e, mix_wide hwl, oOpt_e, oCv_nat (by omega), c60, oInt_remN (by omega), oInt_add ⟨by omega, by omega⟩]
    have hhi : lo ≤ lo + ((d % 60 : Nat) : Int) ∧ lo + ((d % 60 : Nat) : Int) ≤ 320 := by omega
    generalize lo + ((d % 60 : Nat) : Int) = hi at hhi ⊢
    rw [fa_e, oOpt_e, show 0 + 2 = 2 from rfl, st_int hC5 (by simp) (by omega), oRes_e]
    have hC6 : At (m5.put m2.next (some ⟨1, (rcC w lo 0).set 2 (.int .i64 hi), none⟩)) m2.next (rcC w lo hi) := Mem.rd_put_eq _ _ hC5.lt
    have hB6 : At (m5.put m2.next (some ⟨1, (rcC w lo 0).set 2 (.int .i64 hi), none⟩)) m1.next [.slice none 0 0, .int .i64 0, .int .i64 0] := (Mem.rd_put _ _ _ _ (by omega)).trans hB5
    have e6 : Gt m (m5.put m2.next (some ⟨1, (rcC w lo 0).set 2 (.int .i64 hi), none⟩)) := Mem.put_gt e5 _ (by omega)
    have hw6 : GN m3.next (m5.put m2.next (some ⟨1, (rcC w lo 0).set 2 (.int .i64 hi), none⟩)) w ((wl.take i).map (· % 51)) := hw5.keepL fun c h1 _ => Mem.rd_put _ _ _ _ (by omega)
    generalize m5.put m2.next (some ⟨1, (rcC w lo 0).set 2 (.int .i64 hi), none⟩) = m6 at hC6 hB6 e6 hw6 ⊢
    have hst : st1 3 L m6 (.pointer (some ⟨m1.next, 0, none⟩)) (rcp w lo hi) = some (Go.undef, m6.put m1.next (some ⟨1, rcC w lo hi, none⟩)) := by
      rw [st1_u, hB6.rd, cells_agg, stw_e (s := 3) (by omega) rfl (Nat.le_refl _) (by rw [eu]; rfl)]
      rfl
    rw [ldN_u, hC6.rd, rdn3, oOpt_e, hst, oRes_e, ldN_u, Mem.rd_put_eq _ _ hB6.lt, rdn3, oOpt_e]
    refine hk w _ _ lo hi (Mem.put_gt e6 _ (by omega)) (hw6.keepL fun c h1 _ => Mem.rd_put _ _ _ _ (by omega)).inn (by omega) (by omega) (fun x hx => ?_) hlo2 hhi.1 hhi.2
    obtain ⟨y, _, rfl⟩ := List.mem_map.1 hx
    have := Nat.mod_lt y (show 0 < 51 by omega)
    omega
end
end Go.Vit

