/- Joined: W11 W12 W13 W14 W15 W16 W17 W18 W19 W20 W21. -/
import Derived.Test.YtgimcgdehgbljaaWA
import Derived.Test.YtgimcgdehgbljaaPA
import Derived.Test.YtgimcgdehgbljaaBlendMetricAll
import Derived.Test.YtgimcgdehgbljaaCoreD
set_option linter.unusedSimpArgs false
set_option linter.unusedVariables false
set_option maxRecDepth 20000
/- Walks: recipes are checked, blends weighed. -/
namespace Go.Vit
open Go Go.Proofs
attribute [local irreducible] runT loopS
abbrev rcC (wv : Value) (lo hi : Int) : List Value := [wv, .int .i64 lo, .int .i64 hi]
abbrev rcp (wv : Value) (lo hi : Int) : Value := .agg ⟨rcC wv lo hi⟩
theorem rdn3 (s : Nat) (wv : Value) (lo hi : Int) : rdn (some ⟨s, rcC wv lo hi, none⟩) 0 3 = some (rcp wv lo hi) := rdn_all rfl
section
variable {lf n L : Nat} {m : Mem} {k : Value → Mem → Option Unit}
theorem weight_sp {wv u : Value} {ws b : List Nat} {kk : Nat} {lo hi : Int} (hlf : 1000000 ≤ lf) (hw : IN m wv ws) (hws : ∀ w ∈ ws, w ≤ 50) (h10 : ws.length ≤ 10) (hu : IN m u b) (hb : Bl ws.length kk b)
    (hk : ∀ m', Gt m m' → k (.int .i64 (wgt ws b : Int)) m' = some ()) : runT (tab lf) (n + 1) 77 [rcp wv lo hi, u] L m k = some () := by
  rw [r77]; dsimp only [S77, iofNat, inegSucc]
  have hkk := hb.le
  have hbl := hb.len
  rw [uc_e, uc_e, un0_e, abox_e, oRes_e, cells_agg]
  have g1 := Mem.gt_push m ⟨1, rcC wv lo hi, none⟩
  have hA : At (m.push ⟨1, rcC wv lo hi, none⟩) m.next (rcC wv lo hi) := At.push m _
  generalize m.push ⟨1, rcC wv lo hi, none⟩ = m1 at g1 hA ⊢
  unfold ptrTo
  have hu1 := hu.mono g1
  have hw1 := hw.mono g1
  try simp (disch := first | omega | with_unfolding_all exact id rfl | with_unfolding_all exact Nat.le_of_ble_eq_true rfl | (simp only [Jd, Je, Jr, Js, Jt, Nat.reduceAdd, allOne, oneCell, Bool.and_self, Jc]; first | done | omega)) only [hu1.ln, ↓Qa, ↓Qb, ↓Qc, Qd, Qe, Qf, Qg, Qh, Qi, Qj, Qk, Ql, Qm, Qn, Qo, Qp, Qq, Qr, Qs, Qt, Qu, Qv, Qw, Qx, Qy, ptrTo, Qz, QA, QB, QC, QD, QE, QF, QG, QH, QI, QJ, QK, QL, QM, QN, QO, QP, QQ, QR, QS, QT, QU, QV, QW, QX, QY, QZ, Ja, Jb, Jc, Jd, Je, Jf, Jg, Jh, Ji, Jj, Jk, Jl, Jm, Jn, Jo, Jp, Jq, Jr, Js, Jt, Nat.reduceAdd]
  refine loop_up b.length (fun i vs m' => vs = [.int .i64 (wgt ws (b.take i) : Int), .int .i64 (i : Int)] ∧ m' = m1) (by omega) ⟨rfl, rfl⟩ ?_
  rintro i vs m' hi' ⟨rfl, rfl⟩ self hself
  have hle := wgt_le hws (b.take i)
  rw [List.length_take] at hle
  try simp (disch := first | omega | with_unfolding_all exact id rfl | with_unfolding_all exact Nat.le_of_ble_eq_true rfl | (simp only [Jd, Je, Jr, Js, Jt, Nat.reduceAdd, allOne, oneCell, Bool.and_self, Jc]; first | done | omega)) only [↓Qa, ↓Qb, ↓Qc, Qd, Qe, Qf, Qg, Qh, Qi, Qj, Qk, Ql, Qm, Qn, Qo, Qp, Qq, Qr, Qs, Qt, Qu, Qv, Qw, Qx, Qy, ptrTo, Qz, QA, QB, QC, QD, QE, QF, QG, QH, QI, QJ, QK, QL, QM, QN, QO, QP, QQ, QR, QS, QT, QU, QV, QW, QX, QY, QZ, Ja, Jb, Jc, Jd, Je, Jf, Jg, Jh, Ji, Jj, Jk, Jl, Jm, Jn, Jo, Jp, Jq, Jr, Js, Jt, Nat.reduceAdd]
  refine oIf_dec (fun h => ?_) (fun h => ?_)
  · have hib : i < b.length := by omega
    have hx := hb.lt _ (List.getElem_mem hib)
    have h50 := hws _ (List.getElem_mem hx)
    have hg : ws.getD b[i] 0 = ws[b[i]] := by rw [List.getD_eq_getElem?_getD, List.getElem?_eq_getElem hx]; rfl
    have hst := wgt_step ws b hib
    rw [hg] at hst
    try simp (disch := first | omega | with_unfolding_all exact id rfl | with_unfolding_all exact Nat.le_of_ble_eq_true rfl | (simp only [Jd, Je, Jr, Js, Jt, Nat.reduceAdd, allOne, oneCell, Bool.and_self, Jc]; first | done | omega)) only [hu1.ia hib, hu1.ld hib, hA.rd, ↓Qa, ↓Qb, ↓Qc, Qd, Qe, Qf, Qg, Qh, Qi, Qj, Qk, Ql, Qm, Qn, Qo, Qp, Qq, Qr, Qs, Qt, Qu, Qv, Qw, Qx, Qy, ptrTo, Qz, QA, QB, QC, QD, QE, QF, QG, QH, QI, QJ, QK, QL, QM, QN, QO, QP, QQ, QR, QS, QT, QU, QV, QW, QX, QY, QZ, Ja, Jb, Jc, Jd, Je, Jf, Jg, Jh, Ji, Jj, Jk, Jl, Jm, Jn, Jo, Jp, Jq, Jr, Js, Jt, Nat.reduceAdd]
    have hcell : (rcC wv lo hi)[0]? = some wv := rfl
    try simp (disch := first | omega | with_unfolding_all exact id rfl | with_unfolding_all exact Nat.le_of_ble_eq_true rfl | (simp only [Jd, Je, Jr, Js, Jt, Nat.reduceAdd, allOne, oneCell, Bool.and_self, Jc]; first | done | omega)) only [hcell, hw1.ia hx, hw1.ld hx, ↓Qa, ↓Qb, ↓Qc, Qd, Qe, Qf, Qg, Qh, Qi, Qj, Qk, Ql, Qm, Qn, Qo, Qp, Qq, Qr, Qs, Qt, Qu, Qv, Qw, Qx, Qy, ptrTo, Qz, QA, QB, QC, QD, QE, QF, QG, QH, QI, QJ, QK, QL, QM, QN, QO, QP, QQ, QR, QS, QT, QU, QV, QW, QX, QY, QZ, Ja, Jb, Jc, Jd, Je, Jf, Jg, Jh, Ji, Jj, Jk, Jl, Jm, Jn, Jo, Jp, Jq, Jr, Js, Jt, Nat.reduceAdd]
    rw [oInt_addN (by omega), oInt_add ⟨by omega, by omega⟩]
    exact hself hib _ _ ⟨by rw [hst]; rfl, rfl⟩
  · have : i = b.length := by omega
    subst this
    rw [List.take_length]
    exact hk _ g1
theorem weight79_sp {wv u : Value} {ws b : List Nat} {kk : Nat} {lo hi : Int} (hlf : 1000000 ≤ lf) (hw : IN m wv ws) (hws : ∀ w ∈ ws, w ≤ 50) (h10 : ws.length ≤ 10) (hu : IN m u b) (hb : Bl ws.length kk b)
    (hk : ∀ m', Gt m m' → k (.int .i64 (wgt ws b : Int)) m' = some ()) : runT (tab lf) (n + 1) 79 [rcp wv lo hi, u] L m k = some () := by
  rw [r79]; dsimp only [S79, iofNat, inegSucc]
  have hkk := hb.le
  have hbl := hb.len
  rw [uc_e, uc_e, un0_e, abox_e, oRes_e, cells_agg]
  have g1 := Mem.gt_push m ⟨1, rcC wv lo hi, none⟩
  have hA : At (m.push ⟨1, rcC wv lo hi, none⟩) m.next (rcC wv lo hi) := At.push m _
  generalize m.push ⟨1, rcC wv lo hi, none⟩ = m1 at g1 hA ⊢
  unfold ptrTo
  have hu1 := hu.mono g1
  have hw1 := hw.mono g1
  try simp (disch := first | omega | with_unfolding_all exact id rfl | with_unfolding_all exact Nat.le_of_ble_eq_true rfl | (simp only [Jd, Je, Jr, Js, Jt, Nat.reduceAdd, allOne, oneCell, Bool.and_self, Jc]; first | done | omega)) only [↓Qa, ↓Qb, ↓Qc, Qd, Qe, Qf, Qg, Qh, Qi, Qj, Qk, Ql, Qm, Qn, Qo, Qp, Qq, Qr, Qs, Qt, Qu, Qv, Qw, Qx, Qy, ptrTo, Qz, QA, QB, QC, QD, QE, QF, QG, QH, QI, QJ, QK, QL, QM, QN, QO, QP, QQ, QR, QS, QT, QU, QV, QW, QX, QY, QZ, Ja, Jb, Jc, Jd, Je, Jf, Jg, Jh, Ji, Jj, Jk, Jl, Jm, Jn, Jo, Jp, Jq, Jr, Js, Jt, Nat.reduceAdd]
  refine loop_up b.length (fun i vs m' => vs = [.int .i64 (wgt ws (b.take i) : Int), .int .i64 (i : Int)] ∧ m' = m1) (by omega) ⟨rfl, rfl⟩ ?_
  rintro i vs m' hi' ⟨rfl, rfl⟩ self hself
  have hle := wgt_le hws (b.take i)
  rw [List.length_take] at hle
  try simp (disch := first | omega | with_unfolding_all exact id rfl | with_unfolding_all exact Nat.le_of_ble_eq_true rfl | (simp only [Jd, Je, Jr, Js, Jt, Nat.reduceAdd, allOne, oneCell, Bool.and_self, Jc]; first | done | omega)) only [hu1.ln, ↓Qa, ↓Qb, ↓Qc, Qd, Qe, Qf, Qg, Qh, Qi, Qj, Qk, Ql, Qm, Qn, Qo, Qp, Qq, Qr, Qs, Qt, Qu, Qv, Qw, Qx, Qy, ptrTo, Qz, QA, QB, QC, QD, QE, QF, QG, QH, QI, QJ, QK, QL, QM, QN, QO, QP, QQ, QR, QS, QT, QU, QV, QW, QX, QY, QZ, Ja, Jb, Jc, Jd, Je, Jf, Jg, Jh, Ji, Jj, Jk, Jl, Jm, Jn, Jo, Jp, Jq, Jr, Js, Jt, Nat.reduceAdd]
  refine oIf_dec (fun h => ?_) (fun h => ?_)
  · have hib : i < b.length := by omega
    have hx := hb.lt _ (List.getElem_mem hib)
    have h50 := hws _ (List.getElem_mem hx)
    have hg : ws.getD b[i] 0 = ws[b[i]] := by rw [List.getD_eq_getElem?_getD, List.getElem?_eq_getElem hx]; rfl
    have hst := wgt_step ws b hib
    rw [hg] at hst
    have hcell : (rcC wv lo hi)[0]? = some wv := rfl
    try simp (disch := first | omega | with_unfolding_all exact id rfl | with_unfolding_all exact Nat.le_of_ble_eq_true rfl | (simp only [Jd, Je, Jr, Js, Jt, Nat.reduceAdd, allOne, oneCell, Bool.and_self, Jc]; first | done | omega)) only [hu1.ia hib, hu1.ld hib, hA.rd, hcell, hw1.ia hx, hw1.ld hx, ↓Qa, ↓Qb, ↓Qc, Qd, Qe, Qf, Qg, Qh, Qi, Qj, Qk, Ql, Qm, Qn, Qo, Qp, Qq, Qr, Qs, Qt, Qu, Qv, Qw, Qx, Qy, ptrTo, Qz, QA, QB, QC, QD, QE, QF, QG, QH, QI, QJ, QK, QL, QM, QN, QO, QP, QQ, QR, QS, QT, QU, QV, QW, QX, QY, QZ, Ja, Jb, Jc, Jd, Je, Jf, Jg, Jh, Ji, Jj, Jk, Jl, Jm, Jn, Jo, Jp, Jq, Jr, Js, Jt, Nat.reduceAdd]
    rw [oInt_addN (by omega), oInt_add ⟨by omega, by omega⟩]
    exact hself hib _ _ ⟨by rw [hst]; rfl, rfl⟩
  · have : i = b.length := by omega
    subst this
    rw [List.take_length]
    exact hk _ g1
/-- Some weight is out of its bounds. -/
def badW (w : Int) : Bool := !decide (0 ≤ w ∧ w ≤ 50)
theorem find92_sp {v : Value} {l : List Int} (hlf : 1000000 ≤ lf) (hv : IL m v l) (hl : l.length < 1000000) (h1 : l.any badW = true → ∀ i : Nat, k (.int .i64 (i : Int)) m = some ()) (h2 : l.any badW = false → k (.int .i64 (-1)) m = some ()) :
    runT (tab lf) (n + 3) 92 [v, .func (.func 82) #[] #[]] L m k = some () := by
  rw [r92]; dsimp only [S92, iofNat, inegSucc]
  try simp (disch := first | omega | with_unfolding_all exact id rfl | with_unfolding_all exact Nat.le_of_ble_eq_true rfl | (simp only [Jd, Je, Jr, Js, Jt, Nat.reduceAdd, allOne, oneCell, Bool.and_self, Jc]; first | done | omega)) only [hv.ln, ↓Qa, ↓Qb, ↓Qc, Qd, Qe, Qf, Qg, Qh, Qi, Qj, Qk, Ql, Qm, Qn, Qo, Qp, Qq, Qr, Qs, Qt, Qu, Qv, Qw, Qx, Qy, ptrTo, Qz, QA, QB, QC, QD, QE, QF, QG, QH, QI, QJ, QK, QL, QM, QN, QO, QP, QQ, QR, QS, QT, QU, QV, QW, QX, QY, QZ, Ja, Jb, Jc, Jd, Je, Jf, Jg, Jh, Ji, Jj, Jk, Jl, Jm, Jn, Jo, Jp, Jq, Jr, Js, Jt, Nat.reduceAdd]
  refine loop_up l.length (fun i vs m' => vs = [.int .i64 (i : Int)] ∧ m' = m ∧ ∀ j (h : j < l.length), j < i → badW l[j] = false) (by omega) ⟨rfl, rfl, fun j h hj => by omega⟩ ?_
  rintro i vs m' hi ⟨rfl, rfl, hno⟩ self hself
  try simp (disch := first | omega | with_unfolding_all exact id rfl | with_unfolding_all exact Nat.le_of_ble_eq_true rfl | (simp only [Jd, Je, Jr, Js, Jt, Nat.reduceAdd, allOne, oneCell, Bool.and_self, Jc]; first | done | omega)) only [↓Qa, ↓Qb, ↓Qc, Qd, Qe, Qf, Qg, Qh, Qi, Qj, Qk, Ql, Qm, Qn, Qo, Qp, Qq, Qr, Qs, Qt, Qu, Qv, Qw, Qx, Qy, ptrTo, Qz, QA, QB, QC, QD, QE, QF, QG, QH, QI, QJ, QK, QL, QM, QN, QO, QP, QQ, QR, QS, QT, QU, QV, QW, QX, QY, QZ, Ja, Jb, Jc, Jd, Je, Jf, Jg, Jh, Ji, Jj, Jk, Jl, Jm, Jn, Jo, Jp, Jq, Jr, Js, Jt, Nat.reduceAdd]
  refine oIf_dec (fun h => ?_) (fun h => ?_)
  · have hil : i < l.length := by omega
    rw [hv.ia hil, oOpt_e, hv.ld hil, oOpt_e, r82]
    dsimp only [S82, iofNat, inegSucc]
    try simp (disch := first | omega | with_unfolding_all exact id rfl | with_unfolding_all exact Nat.le_of_ble_eq_true rfl | (simp only [Jd, Je, Jr, Js, Jt, Nat.reduceAdd, allOne, oneCell, Bool.and_self, Jc]; first | done | omega)) only [↓Qa, ↓Qb, ↓Qc, Qd, Qe, Qf, Qg, Qh, Qi, Qj, Qk, Ql, Qm, Qn, Qo, Qp, Qq, Qr, Qs, Qt, Qu, Qv, Qw, Qx, Qy, ptrTo, Qz, QA, QB, QC, QD, QE, QF, QG, QH, QI, QJ, QK, QL, QM, QN, QO, QP, QQ, QR, QS, QT, QU, QV, QW, QX, QY, QZ, Ja, Jb, Jc, Jd, Je, Jf, Jg, Jh, Ji, Jj, Jk, Jl, Jm, Jn, Jo, Jp, Jq, Jr, Js, Jt, Nat.reduceAdd]
    refine within_sp _ _ _ ?_
    cases hb : badW l[i] with
    | true =>
      have hb' : decide (0 ≤ l[i] ∧ l[i] ≤ 50) = false := by
        cases hd : decide (0 ≤ l[i] ∧ l[i] ≤ 50) with
        | true => unfold badW at hb; rw [hd] at hb; cases hb
        | false => rfl
      rw [hb']
      try simp (disch := first | omega | with_unfolding_all exact id rfl | with_unfolding_all exact Nat.le_of_ble_eq_true rfl | (simp only [Jd, Je, Jr, Js, Jt, Nat.reduceAdd, allOne, oneCell, Bool.and_self, Jc]; first | done | omega)) only [↓Qa, ↓Qb, ↓Qc, Qd, Qe, Qf, Qg, Qh, Qi, Qj, Qk, Ql, Qm, Qn, Qo, Qp, Qq, Qr, Qs, Qt, Qu, Qv, Qw, Qx, Qy, ptrTo, Qz, QA, QB, QC, QD, QE, QF, QG, QH, QI, QJ, QK, QL, QM, QN, QO, QP, QQ, QR, QS, QT, QU, QV, QW, QX, QY, QZ, Ja, Jb, Jc, Jd, Je, Jf, Jg, Jh, Ji, Jj, Jk, Jl, Jm, Jn, Jo, Jp, Jq, Jr, Js, Jt, Nat.reduceAdd]
      exact h1 (List.any_eq_true.2 ⟨_, List.getElem_mem hil, hb⟩) i
    | false =>
      have hb' : decide (0 ≤ l[i] ∧ l[i] ≤ 50) = true := by
        cases hd : decide (0 ≤ l[i] ∧ l[i] ≤ 50) with
        | true => rfl
        | false => unfold badW at hb; rw [hd] at hb; cases hb
      rw [hb']
      try simp (disch := first | omega | with_unfolding_all exact id rfl | with_unfolding_all exact Nat.le_of_ble_eq_true rfl | (simp only [Jd, Je, Jr, Js, Jt, Nat.reduceAdd, allOne, oneCell, Bool.and_self, Jc]; first | done | omega)) only [↓Qa, ↓Qb, ↓Qc, Qd, Qe, Qf, Qg, Qh, Qi, Qj, Qk, Ql, Qm, Qn, Qo, Qp, Qq, Qr, Qs, Qt, Qu, Qv, Qw, Qx, Qy, ptrTo, Qz, QA, QB, QC, QD, QE, QF, QG, QH, QI, QJ, QK, QL, QM, QN, QO, QP, QQ, QR, QS, QT, QU, QV, QW, QX, QY, QZ, Ja, Jb, Jc, Jd, Je, Jf, Jg, Jh, Ji, Jj, Jk, Jl, Jm, Jn, Jo, Jp, Jq, Jr, Js, Jt, Nat.reduceAdd]
      rw [oInt_add ⟨by omega, by omega⟩]
      refine hself hil _ _ ⟨rfl, rfl, fun j hj hji => ?_⟩
      by_cases hje : j = i
      · subst hje; exact hb
      · exact hno j hj (by omega)
  · refine h2 ?_
    rw [List.any_eq_false]
    intro w hw
    obtain ⟨j, hj, rfl⟩ := List.getElem_of_mem hw
    rw [hno j hj (by omega)]; decide
theorem any81_sp {v : Value} {l : List Int} (hlf : 1000000 ≤ lf) (hv : IL m v l) (hl : l.length < 1000000) (hk : k (.bool (l.any badW)) m = some ()) :
    runT (tab lf) (n + 4) 81 [v, .func (.func 82) #[] #[]] L m k = some () := by
  rw [r81]; dsimp only [S81, iofNat, inegSucc]
  try simp (disch := first | omega | with_unfolding_all exact id rfl | with_unfolding_all exact Nat.le_of_ble_eq_true rfl | (simp only [Jd, Je, Jr, Js, Jt, Nat.reduceAdd, allOne, oneCell, Bool.and_self, Jc]; first | done | omega)) only [↓Qa, ↓Qb, ↓Qc, Qd, Qe, Qf, Qg, Qh, Qi, Qj, Qk, Ql, Qm, Qn, Qo, Qp, Qq, Qr, Qs, Qt, Qu, Qv, Qw, Qx, Qy, ptrTo, Qz, QA, QB, QC, QD, QE, QF, QG, QH, QI, QJ, QK, QL, QM, QN, QO, QP, QQ, QR, QS, QT, QU, QV, QW, QX, QY, QZ, Ja, Jb, Jc, Jd, Je, Jf, Jg, Jh, Ji, Jj, Jk, Jl, Jm, Jn, Jo, Jp, Jq, Jr, Js, Jt, Nat.reduceAdd]
  refine find92_sp hlf hv hl (fun h i => ?_) (fun h => ?_)
  · rw [h] at hk
    have d1 : decide ((0 : Int) ≤ (i : Int)) = true := decide_eq_true (by omega)
    try simp (disch := first | omega | with_unfolding_all exact id rfl | with_unfolding_all exact Nat.le_of_ble_eq_true rfl | (simp only [Jd, Je, Jr, Js, Jt, Nat.reduceAdd, allOne, oneCell, Bool.and_self, Jc]; first | done | omega)) only [d1, ↓Qa, ↓Qb, ↓Qc, Qd, Qe, Qf, Qg, Qh, Qi, Qj, Qk, Ql, Qm, Qn, Qo, Qp, Qq, Qr, Qs, Qt, Qu, Qv, Qw, Qx, Qy, ptrTo, Qz, QA, QB, QC, QD, QE, QF, QG, QH, QI, QJ, QK, QL, QM, QN, QO, QP, QQ, QR, QS, QT, QU, QV, QW, QX, QY, QZ, Ja, Jb, Jc, Jd, Je, Jf, Jg, Jh, Ji, Jj, Jk, Jl, Jm, Jn, Jo, Jp, Jq, Jr, Js, Jt, Nat.reduceAdd]
    exact hk
  · rw [h] at hk
    try simp (disch := first | omega | with_unfolding_all exact id rfl | with_unfolding_all exact Nat.le_of_ble_eq_true rfl | (simp only [Jd, Je, Jr, Js, Jt, Nat.reduceAdd, allOne, oneCell, Bool.and_self, Jc]; first | done | omega)) only [↓Qa, ↓Qb, ↓Qc, Qd, Qe, Qf, Qg, Qh, Qi, Qj, Qk, Ql, Qm, Qn, Qo, Qp, Qq, Qr, Qs, Qt, Qu, Qv, Qw, Qx, Qy, ptrTo, Qz, QA, QB, QC, QD, QE, QF, QG, QH, QI, QJ, QK, QL, QM, QN, QO, QP, QQ, QR, QS, QT, QU, QV, QW, QX, QY, QZ, Ja, Jb, Jc, Jd, Je, Jf, Jg, Jh, Ji, Jj, Jk, Jl, Jm, Jn, Jo, Jp, Jq, Jr, Js, Jt, Nat.reduceAdd]
    exact hk
theorem check36_sp {wv : Value} {l : List Int} {lo hi : Int} (hlf : 1000000 ≤ lf) (hw : IL m wv l) (hk : ∀ m', Gt m m' → k (.int .i64 (chkR l lo hi)) m' = some ()) : runT (tab lf) (n + 5) 36 [rcp wv lo hi] L m k = some () := by
  rw [r36]; dsimp only [S36, iofNat, inegSucc]
  rw [uc_e, un0_e, abox_e, oRes_e, cells_agg]
  have g1 := Mem.gt_push m ⟨1, rcC wv lo hi, none⟩
  have hA : At (m.push ⟨1, rcC wv lo hi, none⟩) m.next (rcC wv lo hi) := At.push m _
  have hk := hk _ g1
  generalize m.push ⟨1, rcC wv lo hi, none⟩ = m1 at g1 hA hk ⊢
  unfold ptrTo
  have hw1 := hw.mono g1
  have c0 : (rcC wv lo hi)[0]? = some wv := rfl
  have c1 : (rcC wv lo hi)[0 + 1]? = some (.int .i64 lo) := rfl
  have c2 : (rcC wv lo hi)[0 + 2]? = some (.int .i64 hi) := rfl
  unfold chkR at hk
  by_cases h1 : l.length = 0
  · rw [if_pos h1] at hk
    have d1 : decide ((l.length : Int) = 0) = true := decide_eq_true (by omega)
    try simp (disch := first | omega | with_unfolding_all exact id rfl | with_unfolding_all exact Nat.le_of_ble_eq_true rfl | (simp only [Jd, Je, Jr, Js, Jt, Nat.reduceAdd, allOne, oneCell, Bool.and_self, Jc]; first | done | omega)) only [hA.rd, c0, hw1.ln, d1, ↓Qa, ↓Qb, ↓Qc, Qd, Qe, Qf, Qg, Qh, Qi, Qj, Qk, Ql, Qm, Qn, Qo, Qp, Qq, Qr, Qs, Qt, Qu, Qv, Qw, Qx, Qy, ptrTo, Qz, QA, QB, QC, QD, QE, QF, QG, QH, QI, QJ, QK, QL, QM, QN, QO, QP, QQ, QR, QS, QT, QU, QV, QW, QX, QY, QZ, Ja, Jb, Jc, Jd, Je, Jf, Jg, Jh, Ji, Jj, Jk, Jl, Jm, Jn, Jo, Jp, Jq, Jr, Js, Jt, Nat.reduceAdd]
    exact hk
  rw [if_neg h1] at hk
  have d1 : decide ((l.length : Int) = 0) = false := decide_eq_false (by omega)
  by_cases h2 : 10 < l.length
  · rw [if_pos h2] at hk
    have d2 : decide ((10 : Int) < (l.length : Int)) = true := decide_eq_true (by omega)
    try simp (disch := first | omega | with_unfolding_all exact id rfl | with_unfolding_all exact Nat.le_of_ble_eq_true rfl | (simp only [Jd, Je, Jr, Js, Jt, Nat.reduceAdd, allOne, oneCell, Bool.and_self, Jc]; first | done | omega)) only [hA.rd, c0, hw1.ln, d1, d2, ↓Qa, ↓Qb, ↓Qc, Qd, Qe, Qf, Qg, Qh, Qi, Qj, Qk, Ql, Qm, Qn, Qo, Qp, Qq, Qr, Qs, Qt, Qu, Qv, Qw, Qx, Qy, ptrTo, Qz, QA, QB, QC, QD, QE, QF, QG, QH, QI, QJ, QK, QL, QM, QN, QO, QP, QQ, QR, QS, QT, QU, QV, QW, QX, QY, QZ, Ja, Jb, Jc, Jd, Je, Jf, Jg, Jh, Ji, Jj, Jk, Jl, Jm, Jn, Jo, Jp, Jq, Jr, Js, Jt, Nat.reduceAdd]
    exact hk
  rw [if_neg h2] at hk
  have d2 : decide ((10 : Int) < (l.length : Int)) = false := decide_eq_false (by omega)
  try simp (disch := first | omega | with_unfolding_all exact id rfl | with_unfolding_all exact Nat.le_of_ble_eq_true rfl | (simp only [Jd, Je, Jr, Js, Jt, Nat.reduceAdd, allOne, oneCell, Bool.and_self, Jc]; first | done | omega)) only [hA.rd, c0, hw1.ln, d1, d2, ↓Qa, ↓Qb, ↓Qc, Qd, Qe, Qf, Qg, Qh, Qi, Qj, Qk, Ql, Qm, Qn, Qo, Qp, Qq, Qr, Qs, Qt, Qu, Qv, Qw, Qx, Qy, ptrTo, Qz, QA, QB, QC, QD, QE, QF, QG, QH, QI, QJ, QK, QL, QM, QN, QO, QP, QQ, QR, QS, QT, QU, QV, QW, QX, QY, QZ, Ja, Jb, Jc, Jd, Je, Jf, Jg, Jh, Ji, Jj, Jk, Jl, Jm, Jn, Jo, Jp, Jq, Jr, Js, Jt, Nat.reduceAdd]
  refine any81_sp hlf hw1 (by omega) ?_
  cases h3 : l.any badW with
  | true =>
    have h3' : (l.any fun w => !decide (0 ≤ w ∧ w ≤ 50)) = true := h3
    rw [if_pos h3'] at hk
    try simp (disch := first | omega | with_unfolding_all exact id rfl | with_unfolding_all exact Nat.le_of_ble_eq_true rfl | (simp only [Jd, Je, Jr, Js, Jt, Nat.reduceAdd, allOne, oneCell, Bool.and_self, Jc]; first | done | omega)) only [↓Qa, ↓Qb, ↓Qc, Qd, Qe, Qf, Qg, Qh, Qi, Qj, Qk, Ql, Qm, Qn, Qo, Qp, Qq, Qr, Qs, Qt, Qu, Qv, Qw, Qx, Qy, ptrTo, Qz, QA, QB, QC, QD, QE, QF, QG, QH, QI, QJ, QK, QL, QM, QN, QO, QP, QQ, QR, QS, QT, QU, QV, QW, QX, QY, QZ, Ja, Jb, Jc, Jd, Je, Jf, Jg, Jh, Ji, Jj, Jk, Jl, Jm, Jn, Jo, Jp, Jq, Jr, Js, Jt, Nat.reduceAdd]
    exact hk
  | false =>
    have h3' : ¬ (l.any fun w => !decide (0 ≤ w ∧ w ≤ 50)) = true := by rw [show (l.any fun w => !decide (0 ≤ w ∧ w ≤ 50)) = false from h3]; decide
    rw [if_neg h3'] at hk
    try simp (disch := first | omega | with_unfolding_all exact id rfl | with_unfolding_all exact Nat.le_of_ble_eq_true rfl | (simp only [Jd, Je, Jr, Js, Jt, Nat.reduceAdd, allOne, oneCell, Bool.and_self, Jc]; first | done | omega)) only [hA.rd, ↓Qa, ↓Qb, ↓Qc, Qd, Qe, Qf, Qg, Qh, Qi, Qj, Qk, Ql, Qm, Qn, Qo, Qp, Qq, Qr, Qs, Qt, Qu, Qv, Qw, Qx, Qy, ptrTo, Qz, QA, QB, QC, QD, QE, QF, QG, QH, QI, QJ, QK, QL, QM, QN, QO, QP, QQ, QR, QS, QT, QU, QV, QW, QX, QY, QZ, Ja, Jb, Jc, Jd, Je, Jf, Jg, Jh, Ji, Jj, Jk, Jl, Jm, Jn, Jo, Jp, Jq, Jr, Js, Jt, Nat.reduceAdd]
    by_cases h4 : hi < lo
    · rw [if_pos h4] at hk
      try simp (disch := first | omega | with_unfolding_all exact id rfl | with_unfolding_all exact Nat.le_of_ble_eq_true rfl | (simp only [Jd, Je, Jr, Js, Jt, Nat.reduceAdd, allOne, oneCell, Bool.and_self, Jc]; first | done | omega)) only [decide_eq_true h4, c1, c2, ↓Qa, ↓Qb, ↓Qc, Qd, Qe, Qf, Qg, Qh, Qi, Qj, Qk, Ql, Qm, Qn, Qo, Qp, Qq, Qr, Qs, Qt, Qu, Qv, Qw, Qx, Qy, ptrTo, Qz, QA, QB, QC, QD, QE, QF, QG, QH, QI, QJ, QK, QL, QM, QN, QO, QP, QQ, QR, QS, QT, QU, QV, QW, QX, QY, QZ, Ja, Jb, Jc, Jd, Je, Jf, Jg, Jh, Ji, Jj, Jk, Jl, Jm, Jn, Jo, Jp, Jq, Jr, Js, Jt, Nat.reduceAdd]
      exact hk
    · rw [if_neg h4] at hk
      try simp (disch := first | omega | with_unfolding_all exact id rfl | with_unfolding_all exact Nat.le_of_ble_eq_true rfl | (simp only [Jd, Je, Jr, Js, Jt, Nat.reduceAdd, allOne, oneCell, Bool.and_self, Jc]; first | done | omega)) only [decide_eq_false h4, c1, c2, ↓Qa, ↓Qb, ↓Qc, Qd, Qe, Qf, Qg, Qh, Qi, Qj, Qk, Ql, Qm, Qn, Qo, Qp, Qq, Qr, Qs, Qt, Qu, Qv, Qw, Qx, Qy, ptrTo, Qz, QA, QB, QC, QD, QE, QF, QG, QH, QI, QJ, QK, QL, QM, QN, QO, QP, QQ, QR, QS, QT, QU, QV, QW, QX, QY, QZ, Ja, Jb, Jc, Jd, Je, Jf, Jg, Jh, Ji, Jj, Jk, Jl, Jm, Jn, Jo, Jp, Jq, Jr, Js, Jt, Nat.reduceAdd]
      exact hk
end
end Go.Vit

/- Walks: recipes and blends are checked and weighed; all that fit are gone through. -/
namespace Go.Vit
open Go Go.Proofs
attribute [local irreducible] runT loopS
section
variable {lf n L : Nat} {m : Mem} {k : Value → Mem → Option Unit}
theorem check37_sp {wv : Value} {l : List Int} {lo hi : Int} (hlf : 1000000 ≤ lf) (hw : IL m wv l) (hk : ∀ m', Gt m m' → k (.int .i64 (chkR l lo hi)) m' = some ()) : runT (tab lf) (n + 2) 37 [rcp wv lo hi] L m k = some () := by
  rw [r37]; dsimp only [S37, iofNat, inegSucc]
  rw [uc_e, un0_e, abox_e, oRes_e, cells_agg]
  have g1 := Mem.gt_push m ⟨1, rcC wv lo hi, none⟩
  have hA : At (m.push ⟨1, rcC wv lo hi, none⟩) m.next (rcC wv lo hi) := At.push m _
  have hk := hk _ g1
  generalize m.push ⟨1, rcC wv lo hi, none⟩ = m1 at g1 hA hk ⊢
  unfold ptrTo
  have hw1 := hw.mono g1
  have c0 : (rcC wv lo hi)[0]? = some wv := rfl
  have c1 : (rcC wv lo hi)[0 + 1]? = some (.int .i64 lo) := rfl
  have c2 : (rcC wv lo hi)[0 + 2]? = some (.int .i64 hi) := rfl
  unfold chkR at hk
  by_cases h1 : l.length = 0
  · rw [if_pos h1] at hk
    have d1 : decide ((l.length : Int) = 0) = true := decide_eq_true (by omega)
    try simp (disch := first | omega | with_unfolding_all exact id rfl | with_unfolding_all exact Nat.le_of_ble_eq_true rfl | (simp only [Jd, Je, Jr, Js, Jt, Nat.reduceAdd, allOne, oneCell, Bool.and_self, Jc]; first | done | omega)) only [hA.rd, c0, hw1.ln, d1, ↓Qa, ↓Qb, ↓Qc, Qd, Qe, Qf, Qg, Qh, Qi, Qj, Qk, Ql, Qm, Qn, Qo, Qp, Qq, Qr, Qs, Qt, Qu, Qv, Qw, Qx, Qy, ptrTo, Qz, QA, QB, QC, QD, QE, QF, QG, QH, QI, QJ, QK, QL, QM, QN, QO, QP, QQ, QR, QS, QT, QU, QV, QW, QX, QY, QZ, Ja, Jb, Jc, Jd, Je, Jf, Jg, Jh, Ji, Jj, Jk, Jl, Jm, Jn, Jo, Jp, Jq, Jr, Js, Jt, Nat.reduceAdd]
    exact hk
  rw [if_neg h1] at hk
  have d1 : decide ((l.length : Int) = 0) = false := decide_eq_false (by omega)
  by_cases h2 : 10 < l.length
  · rw [if_pos h2] at hk
    have d2 : decide ((10 : Int) < (l.length : Int)) = true := decide_eq_true (by omega)
    try simp (disch := first | omega | with_unfolding_all exact id rfl | with_unfolding_all exact Nat.le_of_ble_eq_true rfl | (simp only [Jd, Je, Jr, Js, Jt, Nat.reduceAdd, allOne, oneCell, Bool.and_self, Jc]; first | done | omega)) only [hA.rd, c0, hw1.ln, d1, d2, ↓Qa, ↓Qb, ↓Qc, Qd, Qe, Qf, Qg, Qh, Qi, Qj, Qk, Ql, Qm, Qn, Qo, Qp, Qq, Qr, Qs, Qt, Qu, Qv, Qw, Qx, Qy, ptrTo, Qz, QA, QB, QC, QD, QE, QF, QG, QH, QI, QJ, QK, QL, QM, QN, QO, QP, QQ, QR, QS, QT, QU, QV, QW, QX, QY, QZ, Ja, Jb, Jc, Jd, Je, Jf, Jg, Jh, Ji, Jj, Jk, Jl, Jm, Jn, Jo, Jp, Jq, Jr, Js, Jt, Nat.reduceAdd]
    exact hk
  rw [if_neg h2] at hk
  have d2 : decide ((10 : Int) < (l.length : Int)) = false := decide_eq_false (by omega)
  try simp (disch := first | omega | with_unfolding_all exact id rfl | with_unfolding_all exact Nat.le_of_ble_eq_true rfl | (simp only [Jd, Je, Jr, Js, Jt, Nat.reduceAdd, allOne, oneCell, Bool.and_self, Jc]; first | done | omega)) only [hA.rd, c0, hw1.ln, d1, d2, ↓Qa, ↓Qb, ↓Qc, Qd, Qe, Qf, Qg, Qh, Qi, Qj, Qk, Ql, Qm, Qn, Qo, Qp, Qq, Qr, Qs, Qt, Qu, Qv, Qw, Qx, Qy, ptrTo, Qz, QA, QB, QC, QD, QE, QF, QG, QH, QI, QJ, QK, QL, QM, QN, QO, QP, QQ, QR, QS, QT, QU, QV, QW, QX, QY, QZ, Ja, Jb, Jc, Jd, Je, Jf, Jg, Jh, Ji, Jj, Jk, Jl, Jm, Jn, Jo, Jp, Jq, Jr, Js, Jt, Nat.reduceAdd]
  refine loop_up l.length (fun i vs m' => vs = [.int .i64 (i : Int)] ∧ m' = m1 ∧ ∀ j (h : j < l.length), j < i → badW l[j] = false) (by omega) ⟨rfl, rfl, fun j h hj => by omega⟩ ?_
  rintro i vs m' hi' ⟨rfl, rfl, hno⟩ self hself
  try simp (disch := first | omega | with_unfolding_all exact id rfl | with_unfolding_all exact Nat.le_of_ble_eq_true rfl | (simp only [Jd, Je, Jr, Js, Jt, Nat.reduceAdd, allOne, oneCell, Bool.and_self, Jc]; first | done | omega)) only [hA.rd, c0, hw1.ln, ↓Qa, ↓Qb, ↓Qc, Qd, Qe, Qf, Qg, Qh, Qi, Qj, Qk, Ql, Qm, Qn, Qo, Qp, Qq, Qr, Qs, Qt, Qu, Qv, Qw, Qx, Qy, ptrTo, Qz, QA, QB, QC, QD, QE, QF, QG, QH, QI, QJ, QK, QL, QM, QN, QO, QP, QQ, QR, QS, QT, QU, QV, QW, QX, QY, QZ, Ja, Jb, Jc, Jd, Je, Jf, Jg, Jh, Ji, Jj, Jk, Jl, Jm, Jn, Jo, Jp, Jq, Jr, Js, Jt, Nat.reduceAdd]
  refine oIf_dec (fun h => ?_) (fun h => ?_)
  · have hil : i < l.length := by omega
    try simp (disch := first | omega | with_unfolding_all exact id rfl | with_unfolding_all exact Nat.le_of_ble_eq_true rfl | (simp only [Jd, Je, Jr, Js, Jt, Nat.reduceAdd, allOne, oneCell, Bool.and_self, Jc]; first | done | omega)) only [hA.rd, c0, hw1.ia hil, hw1.ld hil, ↓Qa, ↓Qb, ↓Qc, Qd, Qe, Qf, Qg, Qh, Qi, Qj, Qk, Ql, Qm, Qn, Qo, Qp, Qq, Qr, Qs, Qt, Qu, Qv, Qw, Qx, Qy, ptrTo, Qz, QA, QB, QC, QD, QE, QF, QG, QH, QI, QJ, QK, QL, QM, QN, QO, QP, QQ, QR, QS, QT, QU, QV, QW, QX, QY, QZ, Ja, Jb, Jc, Jd, Je, Jf, Jg, Jh, Ji, Jj, Jk, Jl, Jm, Jn, Jo, Jp, Jq, Jr, Js, Jt, Nat.reduceAdd]
    refine in_sp _ _ _ ?_
    cases hb : badW l[i] with
    | true =>
      have hb' : decide (0 ≤ l[i] ∧ l[i] ≤ 50) = false := by
        cases hd : decide (0 ≤ l[i] ∧ l[i] ≤ 50) with
        | true => unfold badW at hb; rw [hd] at hb; cases hb
        | false => rfl
      rw [hb']
      have h3' : (l.any fun w => !decide (0 ≤ w ∧ w ≤ 50)) = true := List.any_eq_true.2 ⟨_, List.getElem_mem hil, hb⟩
      rw [if_pos h3'] at hk
      try simp (disch := first | omega | with_unfolding_all exact id rfl | with_unfolding_all exact Nat.le_of_ble_eq_true rfl | (simp only [Jd, Je, Jr, Js, Jt, Nat.reduceAdd, allOne, oneCell, Bool.and_self, Jc]; first | done | omega)) only [↓Qa, ↓Qb, ↓Qc, Qd, Qe, Qf, Qg, Qh, Qi, Qj, Qk, Ql, Qm, Qn, Qo, Qp, Qq, Qr, Qs, Qt, Qu, Qv, Qw, Qx, Qy, ptrTo, Qz, QA, QB, QC, QD, QE, QF, QG, QH, QI, QJ, QK, QL, QM, QN, QO, QP, QQ, QR, QS, QT, QU, QV, QW, QX, QY, QZ, Ja, Jb, Jc, Jd, Je, Jf, Jg, Jh, Ji, Jj, Jk, Jl, Jm, Jn, Jo, Jp, Jq, Jr, Js, Jt, Nat.reduceAdd]
      exact hk
    | false =>
      have hb' : decide (0 ≤ l[i] ∧ l[i] ≤ 50) = true := by
        cases hd : decide (0 ≤ l[i] ∧ l[i] ≤ 50) with
        | true => rfl
        | false => unfold badW at hb; rw [hd] at hb; cases hb
      rw [hb']
      try simp (disch := first | omega | with_unfolding_all exact id rfl | with_unfolding_all exact Nat.le_of_ble_eq_true rfl | (simp only [Jd, Je, Jr, Js, Jt, Nat.reduceAdd, allOne, oneCell, Bool.and_self, Jc]; first | done | omega)) only [↓Qa, ↓Qb, ↓Qc, Qd, Qe, Qf, Qg, Qh, Qi, Qj, Qk, Ql, Qm, Qn, Qo, Qp, Qq, Qr, Qs, Qt, Qu, Qv, Qw, Qx, Qy, ptrTo, Qz, QA, QB, QC, QD, QE, QF, QG, QH, QI, QJ, QK, QL, QM, QN, QO, QP, QQ, QR, QS, QT, QU, QV, QW, QX, QY, QZ, Ja, Jb, Jc, Jd, Je, Jf, Jg, Jh, Ji, Jj, Jk, Jl, Jm, Jn, Jo, Jp, Jq, Jr, Js, Jt, Nat.reduceAdd]
      rw [oInt_add ⟨by omega, by omega⟩]
      refine hself hil _ _ ⟨rfl, rfl, fun j hj hji => ?_⟩
      by_cases hje : j = i
      · subst hje; exact hb
      · exact hno j hj (by omega)
  · have h3' : ¬ (l.any fun w => !decide (0 ≤ w ∧ w ≤ 50)) = true := by
      rw [Bool.not_eq_true, List.any_eq_false]
      intro w hw
      obtain ⟨j, hj, rfl⟩ := List.getElem_of_mem hw
      have := hno j hj (by omega)
      unfold badW at this
      rw [this]; decide
    rw [if_neg h3'] at hk
    by_cases h4 : hi < lo
    · rw [if_pos h4] at hk
      try simp (disch := first | omega | with_unfolding_all exact id rfl | with_unfolding_all exact Nat.le_of_ble_eq_true rfl | (simp only [Jd, Je, Jr, Js, Jt, Nat.reduceAdd, allOne, oneCell, Bool.and_self, Jc]; first | done | omega)) only [hA.rd, decide_eq_true h4, c1, c2, ↓Qa, ↓Qb, ↓Qc, Qd, Qe, Qf, Qg, Qh, Qi, Qj, Qk, Ql, Qm, Qn, Qo, Qp, Qq, Qr, Qs, Qt, Qu, Qv, Qw, Qx, Qy, ptrTo, Qz, QA, QB, QC, QD, QE, QF, QG, QH, QI, QJ, QK, QL, QM, QN, QO, QP, QQ, QR, QS, QT, QU, QV, QW, QX, QY, QZ, Ja, Jb, Jc, Jd, Je, Jf, Jg, Jh, Ji, Jj, Jk, Jl, Jm, Jn, Jo, Jp, Jq, Jr, Js, Jt, Nat.reduceAdd]
      exact hk
    · rw [if_neg h4] at hk
      try simp (disch := first | omega | with_unfolding_all exact id rfl | with_unfolding_all exact Nat.le_of_ble_eq_true rfl | (simp only [Jd, Je, Jr, Js, Jt, Nat.reduceAdd, allOne, oneCell, Bool.and_self, Jc]; first | done | omega)) only [hA.rd, decide_eq_false h4, c1, c2, ↓Qa, ↓Qb, ↓Qc, Qd, Qe, Qf, Qg, Qh, Qi, Qj, Qk, Ql, Qm, Qn, Qo, Qp, Qq, Qr, Qs, Qt, Qu, Qv, Qw, Qx, Qy, ptrTo, Qz, QA, QB, QC, QD, QE, QF, QG, QH, QI, QJ, QK, QL, QM, QN, QO, QP, QQ, QR, QS, QT, QU, QV, QW, QX, QY, QZ, Ja, Jb, Jc, Jd, Je, Jf, Jg, Jh, Ji, Jj, Jk, Jl, Jm, Jn, Jo, Jp, Jq, Jr, Js, Jt, Nat.reduceAdd]
      exact hk
theorem blended_sp {wv u : Value} {l b : List Int} {lo hi : Int} (hlf : 1000000 ≤ lf) (hw : IL m wv l) (hu : IL m u b) (hb : b.length < 1000000) (hk : ∀ m', Gt m m' → k (.int .i64 (bldE l lo hi b)) m' = some ()) : runT (tab lf) (n + 6) 76 [rcp wv lo hi, u] L m k = some () := by
  rw [r76]; dsimp only [S76, iofNat, inegSucc]
  rw [uc_e, uc_e, un0_e, abox_e, oRes_e, cells_agg]
  have g1 := Mem.gt_push m ⟨1, rcC wv lo hi, none⟩
  have hA : At (m.push ⟨1, rcC wv lo hi, none⟩) m.next (rcC wv lo hi) := At.push m _
  generalize m.push ⟨1, rcC wv lo hi, none⟩ = m1 at g1 hA ⊢
  unfold ptrTo
  have c0 : (rcC wv lo hi)[0]? = some wv := rfl
  rw [ldN_u, hA.rd, rdn3, oOpt_e]
  refine check36_sp hlf (hw.mono g1) fun m2 e2 => ?_
  have G := g1.trans e2
  have hA2 := hA.mono e2
  have hw2 := hw.mono G
  unfold bldE at hk
  by_cases h : chkR l lo hi = 0
  · rw [if_pos h] at hk
    rw [h]
    try simp (disch := first | omega | with_unfolding_all exact id rfl | with_unfolding_all exact Nat.le_of_ble_eq_true rfl | (simp only [Jd, Je, Jr, Js, Jt, Nat.reduceAdd, allOne, oneCell, Bool.and_self, Jc]; first | done | omega)) only [hA2.rd, c0, hw2.ln, ↓Qa, ↓Qb, ↓Qc, Qd, Qe, Qf, Qg, Qh, Qi, Qj, Qk, Ql, Qm, Qn, Qo, Qp, Qq, Qr, Qs, Qt, Qu, Qv, Qw, Qx, Qy, ptrTo, Qz, QA, QB, QC, QD, QE, QF, QG, QH, QI, QJ, QK, QL, QM, QN, QO, QP, QQ, QR, QS, QT, QU, QV, QW, QX, QY, QZ, Ja, Jb, Jc, Jd, Je, Jf, Jg, Jh, Ji, Jj, Jk, Jl, Jm, Jn, Jo, Jp, Jq, Jr, Js, Jt, Nat.reduceAdd]
    refine check_sp hlf (hu.mono G) hb ?_
    exact hk _ G
  · rw [if_neg h] at hk
    try simp (disch := first | omega | with_unfolding_all exact id rfl | with_unfolding_all exact Nat.le_of_ble_eq_true rfl | (simp only [Jd, Je, Jr, Js, Jt, Nat.reduceAdd, allOne, oneCell, Bool.and_self, Jc]; first | done | omega)) only [decide_eq_false h, ↓Qa, ↓Qb, ↓Qc, Qd, Qe, Qf, Qg, Qh, Qi, Qj, Qk, Ql, Qm, Qn, Qo, Qp, Qq, Qr, Qs, Qt, Qu, Qv, Qw, Qx, Qy, ptrTo, Qz, QA, QB, QC, QD, QE, QF, QG, QH, QI, QJ, QK, QL, QM, QN, QO, QP, QQ, QR, QS, QT, QU, QV, QW, QX, QY, QZ, Ja, Jb, Jc, Jd, Je, Jf, Jg, Jh, Ji, Jj, Jk, Jl, Jm, Jn, Jo, Jp, Jq, Jr, Js, Jt, Nat.reduceAdd]
    exact hk _ G
theorem blended78_sp {wv u : Value} {l b : List Int} {lo hi : Int} (hlf : 1000000 ≤ lf) (hw : IL m wv l) (hu : IL m u b) (hb : b.length < 1000000) (hk : ∀ m', Gt m m' → k (.int .i64 (bldE l lo hi b)) m' = some ()) : runT (tab lf) (n + 6) 78 [rcp wv lo hi, u] L m k = some () := by
  rw [r78]; dsimp only [S78, iofNat, inegSucc]
  rw [uc_e, uc_e, un0_e, abox_e, oRes_e, cells_agg]
  have g1 := Mem.gt_push m ⟨1, rcC wv lo hi, none⟩
  have hA : At (m.push ⟨1, rcC wv lo hi, none⟩) m.next (rcC wv lo hi) := At.push m _
  generalize m.push ⟨1, rcC wv lo hi, none⟩ = m1 at g1 hA ⊢
  unfold ptrTo
  have c0 : (rcC wv lo hi)[0]? = some wv := rfl
  rw [ldN_u, hA.rd, rdn3, oOpt_e]
  refine check37_sp hlf (hw.mono g1) fun m2 e2 => ?_
  have G := g1.trans e2
  have hA2 := hA.mono e2
  have hw2 := hw.mono G
  unfold bldE at hk
  by_cases h : chkR l lo hi = 0
  · rw [if_pos h] at hk
    rw [h]
    have d0 : decide ((0 : Int) = 0) = true := by decide
    try simp (disch := first | omega | with_unfolding_all exact id rfl | with_unfolding_all exact Nat.le_of_ble_eq_true rfl | (simp only [Jd, Je, Jr, Js, Jt, Nat.reduceAdd, allOne, oneCell, Bool.and_self, Jc]; first | done | omega)) only [hA2.rd, c0, hw2.ln, d0, ↓Qa, ↓Qb, ↓Qc, Qd, Qe, Qf, Qg, Qh, Qi, Qj, Qk, Ql, Qm, Qn, Qo, Qp, Qq, Qr, Qs, Qt, Qu, Qv, Qw, Qx, Qy, ptrTo, Qz, QA, QB, QC, QD, QE, QF, QG, QH, QI, QJ, QK, QL, QM, QN, QO, QP, QQ, QR, QS, QT, QU, QV, QW, QX, QY, QZ, Ja, Jb, Jc, Jd, Je, Jf, Jg, Jh, Ji, Jj, Jk, Jl, Jm, Jn, Jo, Jp, Jq, Jr, Js, Jt, Nat.reduceAdd]
    refine check26_sp hlf (hu.mono G) hb ?_
    try simp (disch := first | omega | with_unfolding_all exact id rfl | with_unfolding_all exact Nat.le_of_ble_eq_true rfl | (simp only [Jd, Je, Jr, Js, Jt, Nat.reduceAdd, allOne, oneCell, Bool.and_self, Jc]; first | done | omega)) only [↓Qa, ↓Qb, ↓Qc, Qd, Qe, Qf, Qg, Qh, Qi, Qj, Qk, Ql, Qm, Qn, Qo, Qp, Qq, Qr, Qs, Qt, Qu, Qv, Qw, Qx, Qy, ptrTo, Qz, QA, QB, QC, QD, QE, QF, QG, QH, QI, QJ, QK, QL, QM, QN, QO, QP, QQ, QR, QS, QT, QU, QV, QW, QX, QY, QZ, Ja, Jb, Jc, Jd, Je, Jf, Jg, Jh, Ji, Jj, Jk, Jl, Jm, Jn, Jo, Jp, Jq, Jr, Js, Jt, Nat.reduceAdd]
    exact hk _ G
  · rw [if_neg h] at hk
    try simp (disch := first | omega | with_unfolding_all exact id rfl | with_unfolding_all exact Nat.le_of_ble_eq_true rfl | (simp only [Jd, Je, Jr, Js, Jt, Nat.reduceAdd, allOne, oneCell, Bool.and_self, Jc]; first | done | omega)) only [decide_eq_false h, ↓Qa, ↓Qb, ↓Qc, Qd, Qe, Qf, Qg, Qh, Qi, Qj, Qk, Ql, Qm, Qn, Qo, Qp, Qq, Qr, Qs, Qt, Qu, Qv, Qw, Qx, Qy, ptrTo, Qz, QA, QB, QC, QD, QE, QF, QG, QH, QI, QJ, QK, QL, QM, QN, QO, QP, QQ, QR, QS, QT, QU, QV, QW, QX, QY, QZ, Ja, Jb, Jc, Jd, Je, Jf, Jg, Jh, Ji, Jj, Jk, Jl, Jm, Jn, Jo, Jp, Jq, Jr, Js, Jt, Nat.reduceAdd]
    exact hk _ G
/-- The weight of a blend, as it is answered. -/
def wgtX (l : List Int) (lo hi : Int) (b : List Int) : Int := if bldE l lo hi b = 0 then (wgt (nni l) (nni b) : Int) else 0
theorem weight32_sp {wv u : Value} {l b : List Int} {lo hi : Int} (hlf : 1000000 ≤ lf) (hw : IL m wv l) (hu : IL m u b) (hb : b.length < 1000000) (hk : ∀ m', Gt m m' → k (.tuple ⟨[.int .i64 (wgtX l lo hi b), .int .i64 (bldE l lo hi b)]⟩) m' = some ()) : runT (tab lf) (n + 7) 32 [rcp wv lo hi, u] L m k = some () := by
  rw [r32]; dsimp only [S32, iofNat, inegSucc]
  rw [uc_e, uc_e, un0_e, abox_e, oRes_e, cells_agg]
  have g1 := Mem.gt_push m ⟨1, rcC wv lo hi, none⟩
  have hA : At (m.push ⟨1, rcC wv lo hi, none⟩) m.next (rcC wv lo hi) := At.push m _
  generalize m.push ⟨1, rcC wv lo hi, none⟩ = m1 at g1 hA ⊢
  unfold ptrTo
  rw [ldN_u, hA.rd, rdn3, oOpt_e]
  refine blended_sp hlf (hw.mono g1) (hu.mono g1) hb fun m2 e2 => ?_
  have G := g1.trans e2
  have hA2 := hA.mono e2
  have hw2 := hw.mono G
  have hu2 := hu.mono G
  unfold wgtX at hk
  by_cases h : bldE l lo hi b = 0
  · obtain ⟨ws, b', rfl, rfl, q1, q2, q3, q4, q5⟩ := bldE_ok h
    rw [if_pos h, nni_ci, nni_ci, h] at hk
    rw [h]
    try simp (disch := first | omega | with_unfolding_all exact id rfl | with_unfolding_all exact Nat.le_of_ble_eq_true rfl | (simp only [Jd, Je, Jr, Js, Jt, Nat.reduceAdd, allOne, oneCell, Bool.and_self, Jc]; first | done | omega)) only [↓Qa, ↓Qb, ↓Qc, Qd, Qe, Qf, Qg, Qh, Qi, Qj, Qk, Ql, Qm, Qn, Qo, Qp, Qq, Qr, Qs, Qt, Qu, Qv, Qw, Qx, Qy, ptrTo, Qz, QA, QB, QC, QD, QE, QF, QG, QH, QI, QJ, QK, QL, QM, QN, QO, QP, QQ, QR, QS, QT, QU, QV, QW, QX, QY, QZ, Ja, Jb, Jc, Jd, Je, Jf, Jg, Jh, Ji, Jj, Jk, Jl, Jm, Jn, Jo, Jp, Jq, Jr, Js, Jt, Nat.reduceAdd]
    rw [hA2.rd, rdn3, oOpt_e]
    refine weight_sp hlf hw2 q3 q2 hu2 q5 fun m3 e3 => ?_
    try simp (disch := first | omega | with_unfolding_all exact id rfl | with_unfolding_all exact Nat.le_of_ble_eq_true rfl | (simp only [Jd, Je, Jr, Js, Jt, Nat.reduceAdd, allOne, oneCell, Bool.and_self, Jc]; first | done | omega)) only [↓Qa, ↓Qb, ↓Qc, Qd, Qe, Qf, Qg, Qh, Qi, Qj, Qk, Ql, Qm, Qn, Qo, Qp, Qq, Qr, Qs, Qt, Qu, Qv, Qw, Qx, Qy, ptrTo, Qz, QA, QB, QC, QD, QE, QF, QG, QH, QI, QJ, QK, QL, QM, QN, QO, QP, QQ, QR, QS, QT, QU, QV, QW, QX, QY, QZ, Ja, Jb, Jc, Jd, Je, Jf, Jg, Jh, Ji, Jj, Jk, Jl, Jm, Jn, Jo, Jp, Jq, Jr, Js, Jt, Nat.reduceAdd]
    exact hk _ (G.trans e3)
  · rw [if_neg h] at hk
    try simp (disch := first | omega | with_unfolding_all exact id rfl | with_unfolding_all exact Nat.le_of_ble_eq_true rfl | (simp only [Jd, Je, Jr, Js, Jt, Nat.reduceAdd, allOne, oneCell, Bool.and_self, Jc]; first | done | omega)) only [decide_eq_false h, ↓Qa, ↓Qb, ↓Qc, Qd, Qe, Qf, Qg, Qh, Qi, Qj, Qk, Ql, Qm, Qn, Qo, Qp, Qq, Qr, Qs, Qt, Qu, Qv, Qw, Qx, Qy, ptrTo, Qz, QA, QB, QC, QD, QE, QF, QG, QH, QI, QJ, QK, QL, QM, QN, QO, QP, QQ, QR, QS, QT, QU, QV, QW, QX, QY, QZ, Ja, Jb, Jc, Jd, Je, Jf, Jg, Jh, Ji, Jj, Jk, Jl, Jm, Jn, Jo, Jp, Jq, Jr, Js, Jt, Nat.reduceAdd]
    exact hk _ G
theorem weight33_sp {wv u : Value} {l b : List Int} {lo hi : Int} (hlf : 1000000 ≤ lf) (hw : IL m wv l) (hu : IL m u b) (hb : b.length < 1000000) (hk : ∀ m', Gt m m' → k (.tuple ⟨[.int .i64 (wgtX l lo hi b), .int .i64 (bldE l lo hi b)]⟩) m' = some ()) : runT (tab lf) (n + 7) 33 [rcp wv lo hi, u] L m k = some () := by
  rw [r33]; dsimp only [S33, iofNat, inegSucc]
  rw [uc_e, uc_e, un0_e, abox_e, oRes_e, cells_agg]
  have g1 := Mem.gt_push m ⟨1, rcC wv lo hi, none⟩
  have hA : At (m.push ⟨1, rcC wv lo hi, none⟩) m.next (rcC wv lo hi) := At.push m _
  generalize m.push ⟨1, rcC wv lo hi, none⟩ = m1 at g1 hA ⊢
  unfold ptrTo
  rw [ldN_u, hA.rd, rdn3, oOpt_e]
  refine blended78_sp hlf (hw.mono g1) (hu.mono g1) hb fun m2 e2 => ?_
  have G := g1.trans e2
  have hA2 := hA.mono e2
  have hw2 := hw.mono G
  have hu2 := hu.mono G
  unfold wgtX at hk
  by_cases h : bldE l lo hi b = 0
  · obtain ⟨ws, b', rfl, rfl, q1, q2, q3, q4, q5⟩ := bldE_ok h
    rw [if_pos h, nni_ci, nni_ci, h] at hk
    rw [h]
    try simp (disch := first | omega | with_unfolding_all exact id rfl | with_unfolding_all exact Nat.le_of_ble_eq_true rfl | (simp only [Jd, Je, Jr, Js, Jt, Nat.reduceAdd, allOne, oneCell, Bool.and_self, Jc]; first | done | omega)) only [↓Qa, ↓Qb, ↓Qc, Qd, Qe, Qf, Qg, Qh, Qi, Qj, Qk, Ql, Qm, Qn, Qo, Qp, Qq, Qr, Qs, Qt, Qu, Qv, Qw, Qx, Qy, ptrTo, Qz, QA, QB, QC, QD, QE, QF, QG, QH, QI, QJ, QK, QL, QM, QN, QO, QP, QQ, QR, QS, QT, QU, QV, QW, QX, QY, QZ, Ja, Jb, Jc, Jd, Je, Jf, Jg, Jh, Ji, Jj, Jk, Jl, Jm, Jn, Jo, Jp, Jq, Jr, Js, Jt, Nat.reduceAdd]
    rw [hA2.rd, rdn3, oOpt_e]
    refine weight79_sp hlf hw2 q3 q2 hu2 q5 fun m3 e3 => ?_
    try simp (disch := first | omega | with_unfolding_all exact id rfl | with_unfolding_all exact Nat.le_of_ble_eq_true rfl | (simp only [Jd, Je, Jr, Js, Jt, Nat.reduceAdd, allOne, oneCell, Bool.and_self, Jc]; first | done | omega)) only [↓Qa, ↓Qb, ↓Qc, Qd, Qe, Qf, Qg, Qh, Qi, Qj, Qk, Ql, Qm, Qn, Qo, Qp, Qq, Qr, Qs, Qt, Qu, Qv, Qw, Qx, Qy, ptrTo, Qz, QA, QB, QC, QD, QE, QF, QG, QH, QI, QJ, QK, QL, QM, QN, QO, QP, QQ, QR, QS, QT, QU, QV, QW, QX, QY, QZ, Ja, Jb, Jc, Jd, Je, Jf, Jg, Jh, Ji, Jj, Jk, Jl, Jm, Jn, Jo, Jp, Jq, Jr, Js, Jt, Nat.reduceAdd]
    exact hk _ (G.trans e3)
  · rw [if_neg h] at hk
    try simp (disch := first | omega | with_unfolding_all exact id rfl | with_unfolding_all exact Nat.le_of_ble_eq_true rfl | (simp only [Jd, Je, Jr, Js, Jt, Nat.reduceAdd, allOne, oneCell, Bool.and_self, Jc]; first | done | omega)) only [decide_eq_false h, ↓Qa, ↓Qb, ↓Qc, Qd, Qe, Qf, Qg, Qh, Qi, Qj, Qk, Ql, Qm, Qn, Qo, Qp, Qq, Qr, Qs, Qt, Qu, Qv, Qw, Qx, Qy, ptrTo, Qz, QA, QB, QC, QD, QE, QF, QG, QH, QI, QJ, QK, QL, QM, QN, QO, QP, QQ, QR, QS, QT, QU, QV, QW, QX, QY, QZ, Ja, Jb, Jc, Jd, Je, Jf, Jg, Jh, Ji, Jj, Jk, Jl, Jm, Jn, Jo, Jp, Jq, Jr, Js, Jt, Nat.reduceAdd]
    exact hk _ G
/-- The iterator: each blend that fits is handed on, one after another. X: the blocks that the rounds change; J: what holds after some. -/
theorem fits91_sp {X : Nat → Prop} {J : List (List Nat) → Mem → Prop} {y pr ps : Nat} {wv : Value} {ws : List Nat} {s : Nat} {lo hi : Int} (hlf : 1000000 ≤ lf) (hL : L ≤ m.next) (hw : IN m wv ws) (hws : ∀ w ∈ ws, w ≤ 50) (h10 : ws.length ≤ 10) (hs : s ≤ ws.length)
    (hr : At m pr (rcC wv lo hi)) (hp : At m ps [.int .i64 (s : Int)]) (hXr : ¬ X pr) (hXp : ¬ X ps) (hXw : ∀ c, bid wv = some c → ¬ X c) (hX : ∀ c, X c → c < m.next) (hJ0 : J [] m) (hJm : ∀ seen m m', J seen m → Gt m m' → J seen m')
    (hy : ∀ {m1 u b seen K}, GtX X m m1 → J seen m1 → seen.length ≤ 1000 → IN m1 u b → Bl ws.length s b → (∀ c, bid u = some c → ¬ X c) → (∀ m2, GtX X m1 m2 → J (seen ++ [b]) m2 → K (.bool true) m2 = some ()) → oCallV (runT (tab lf) (n + 8)) (yv y) [u] L m1 K = some ())
    (hk : ∀ m', GtX X m m' → J (fitL ws s lo hi) m' → k (.tuple ⟨[]⟩) m' = some ()) :
    runT (tab lf) (n + 9) 91 [yv y, .pointer (some ⟨pr, 0, none⟩), .pointer (some ⟨ps, 0, none⟩)] L m k = some () := by
  rw [r91]; dsimp only [S91, iofNat, inegSucc]
  have c0 : (rcC wv lo hi)[0]? = some wv := rfl
  have c1 : (rcC wv lo hi)[0 + 1]? = some (.int .i64 lo) := rfl
  have c2 : (rcC wv lo hi)[0 + 2]? = some (.int .i64 hi) := rfl
  have cp : ([.int .i64 (s : Int)] : List Value)[0]? = some (.int .i64 (s : Int)) := rfl
  try simp (disch := first | omega | with_unfolding_all exact id rfl | with_unfolding_all exact Nat.le_of_ble_eq_true rfl | (simp only [Jd, Je, Jr, Js, Jt, Nat.reduceAdd, allOne, oneCell, Bool.and_self, Jc]; first | done | omega)) only [hr.rd, c0, hw.ln, hp.rd, cp, ↓Qa, ↓Qb, Qd, Qe, Qf, Qg, Qh, Qi, Qj, Qk, Ql, Qm, Qn, Qo, Qp, Qq, Qr, Qs, Qt, Qu, Qv, Qw, Qx, Qy, ptrTo, Qz, QA, QB, QC, QD, QE, QF, QG, QH, QI, QJ, QK, QL, QM, QN, QO, QP, QQ, QR, QS, QT, QU, QV, QW, QX, QY, QZ, Ja, Jb, Jc, Jd, Je, Jf, Jg, Jh, Ji, Jj, Jk, Jl, Jm, Jn, Jo, Jp, Jq, Jr, Js, Jt, Nat.reduceAdd]
  refine choose_sp hlf (by omega) (by omega) ?_
  have hcl := chs_le (n := ws.length) (k := s) (by omega)
  refine loop_up (chs ws.length s) (fun i vs m' => vs = [.int .i64 (i : Int)] ∧ GtX X m m' ∧ J (fitI ws s lo hi i) m') (by omega) ⟨rfl, GtX.refl _, hJ0⟩ ?_
  rintro i vs m1 hi' ⟨rfl, e1, hj⟩ self hself
  have n1 := e1.next
  have hr1 := hr.monoX e1 hXr
  have hp1 := hp.monoX e1 hXp
  have hw1 := hw.monoX e1 fun _ => hXw
  try simp (disch := first | omega | with_unfolding_all exact id rfl | with_unfolding_all exact Nat.le_of_ble_eq_true rfl | (simp only [Jd, Je, Jr, Js, Jt, Nat.reduceAdd, allOne, oneCell, Bool.and_self, Jc]; first | done | omega)) only [hp1.rd, cp, ↓Qa, ↓Qb, Qd, Qe, Qf, Qg, Qh, Qi, Qj, Qk, Ql, Qm, Qn, Qo, Qp, Qq, Qr, Qs, Qt, Qu, Qv, Qw, Qx, Qy, ptrTo, Qz, QA, QB, QC, QD, QE, QF, QG, QH, QI, QJ, QK, QL, QM, QN, QO, QP, QQ, QR, QS, QT, QU, QV, QW, QX, QY, QZ, Ja, Jb, Jc, Jd, Je, Jf, Jg, Jh, Ji, Jj, Jk, Jl, Jm, Jn, Jo, Jp, Jq, Jr, Js, Jt, Nat.reduceAdd]
  refine oIf_dec (fun h => ?_) (fun h => ?_)
  · have hic : i < chs ws.length s := by omega
    refine nth_sp hlf (by omega) h10 hs hic fun u m2 e2 hu hub _ => ?_
    have n2 := e2.next
    have hb := nth_bl h10 hs hic
    have hr2 := hr1.mono e2
    have hw2 := hw1.mono e2
    rw [hr2.rd, rdn3, oOpt_e]
    refine weight_sp hlf hw2 hws h10 hu hb fun m3 e3 => ?_
    have hr3 := hr2.mono e3
    have hf6 : ∀ K : Value → Option Unit, oInt .add .i64 (.int .i64 (i : Int)) (.int .i64 1) K = K (.int .i64 ((i + 1 : Nat) : Int)) := fun K => by rw [oInt_add ⟨by omega, by omega⟩]; rfl
    try simp (disch := first | omega | with_unfolding_all exact id rfl | with_unfolding_all exact Nat.le_of_ble_eq_true rfl | (simp only [Jd, Je, Jr, Js, Jt, Nat.reduceAdd, allOne, oneCell, Bool.and_self, Jc]; first | done | omega)) only [hr3.rd, c1, c2, ↓Qa, ↓Qb, Qd, Qe, Qf, Qg, Qh, Qi, Qj, Qk, Ql, Qm, Qn, Qo, Qp, Qq, Qr, Qs, Qt, Qu, Qv, Qw, Qx, Qy, ptrTo, Qz, QA, QB, QC, QD, QE, QF, QG, QH, QI, QJ, QK, QL, QM, QN, QO, QP, QQ, QR, QS, QT, QU, QV, QW, QX, QY, QZ, Ja, Jb, Jc, Jd, Je, Jf, Jg, Jh, Ji, Jj, Jk, Jl, Jm, Jn, Jo, Jp, Jq, Jr, Js, Jt, Nat.reduceAdd]
    refine within_sp _ _ _ ?_
    have E3 := e2.trans e3
    cases hb2 : fitB ws lo hi (nthK s i) with
    | true =>
      have hb2' : decide (lo ≤ (wgt ws (nthK s i) : Int) ∧ (wgt ws (nthK s i) : Int) ≤ hi) = true := hb2
      try simp (disch := first | omega | with_unfolding_all exact id rfl | with_unfolding_all exact Nat.le_of_ble_eq_true rfl | (simp only [Jd, Je, Jr, Js, Jt, Nat.reduceAdd, allOne, oneCell, Bool.and_self, Jc]; first | done | omega)) only [hb2', ↓Qa, ↓Qb, Qd, Qe, Qf, Qg, Qh, Qi, Qj, Qk, Ql, Qm, Qn, Qo, Qp, Qq, Qr, Qs, Qt, Qu, Qv, Qw, Qx, Qy, ptrTo, Qz, QA, QB, QC, QD, QE, QF, QG, QH, QI, QJ, QK, QL, QM, QN, QO, QP, QQ, QR, QS, QT, QU, QV, QW, QX, QY, QZ, Ja, Jb, Jc, Jd, Je, Jf, Jg, Jh, Ji, Jj, Jk, Jl, Jm, Jn, Jo, Jp, Jq, Jr, Js, Jt, Nat.reduceAdd]
      rw [join_e]
      try simp (disch := first | omega | with_unfolding_all exact id rfl | with_unfolding_all exact Nat.le_of_ble_eq_true rfl | (simp only [Jd, Je, Jr, Js, Jt, Nat.reduceAdd, allOne, oneCell, Bool.and_self, Jc]; first | done | omega)) only [hb2', ↓Qa, ↓Qb, Qd, Qe, Qf, Qg, Qh, Qi, Qj, Qk, Ql, Qm, Qn, Qo, Qp, Qq, Qr, Qs, Qt, Qu, Qv, Qw, Qx, Qy, ptrTo, Qz, QA, QB, QC, QD, QE, QF, QG, QH, QI, QJ, QK, QL, QM, QN, QO, QP, QQ, QR, QS, QT, QU, QV, QW, QX, QY, QZ, Ja, Jb, Jc, Jd, Je, Jf, Jg, Jh, Ji, Jj, Jk, Jl, Jm, Jn, Jo, Jp, Jq, Jr, Js, Jt, Nat.reduceAdd]
      refine hy (e1.trans (GtX.of E3)) (hJm _ _ _ hj E3) (by have := fitI_len ws s lo hi i; omega) (hu.mono e3) hb (fun c hc hx => by have := hub c hc; have := hX c hx; omega) fun m4 e4 hj4 => ?_
      try simp (disch := first | omega | with_unfolding_all exact id rfl | with_unfolding_all exact Nat.le_of_ble_eq_true rfl | (simp only [Jd, Je, Jr, Js, Jt, Nat.reduceAdd, allOne, oneCell, Bool.and_self, Jc]; first | done | omega)) only [hf6, ↓Qa, ↓Qb, Qd, Qe, Qf, Qg, Qh, Qi, Qj, Qk, Ql, Qm, Qn, Qo, Qp, Qq, Qr, Qs, Qt, Qu, Qv, Qw, Qx, Qy, ptrTo, Qz, QA, QB, QC, QD, QE, QF, QG, QH, QI, QJ, QK, QL, QM, QN, QO, QP, QQ, QR, QS, QT, QU, QV, QW, QX, QY, QZ, Ja, Jb, Jc, Jd, Je, Jf, Jg, Jh, Ji, Jj, Jk, Jl, Jm, Jn, Jo, Jp, Jq, Jr, Js, Jt, Nat.reduceAdd]
      exact hself hic _ _ ⟨rfl, (e1.trans (GtX.of E3)).trans e4, by rw [fitI_t hb2]; exact hj4⟩
    | false =>
      have hb2' : decide (lo ≤ (wgt ws (nthK s i) : Int) ∧ (wgt ws (nthK s i) : Int) ≤ hi) = false := hb2
      try simp (disch := first | omega | with_unfolding_all exact id rfl | with_unfolding_all exact Nat.le_of_ble_eq_true rfl | (simp only [Jd, Je, Jr, Js, Jt, Nat.reduceAdd, allOne, oneCell, Bool.and_self, Jc]; first | done | omega)) only [hb2', ↓Qa, ↓Qb, Qd, Qe, Qf, Qg, Qh, Qi, Qj, Qk, Ql, Qm, Qn, Qo, Qp, Qq, Qr, Qs, Qt, Qu, Qv, Qw, Qx, Qy, ptrTo, Qz, QA, QB, QC, QD, QE, QF, QG, QH, QI, QJ, QK, QL, QM, QN, QO, QP, QQ, QR, QS, QT, QU, QV, QW, QX, QY, QZ, Ja, Jb, Jc, Jd, Je, Jf, Jg, Jh, Ji, Jj, Jk, Jl, Jm, Jn, Jo, Jp, Jq, Jr, Js, Jt, Nat.reduceAdd]
      repeat (rw [join_e]; try simp (disch := first | omega | with_unfolding_all exact id rfl | with_unfolding_all exact Nat.le_of_ble_eq_true rfl | (simp only [Jd, Je, Jr, Js, Jt, Nat.reduceAdd, allOne, oneCell, Bool.and_self, Jc]; first | done | omega)) only [hb2', ↓Qa, ↓Qb, Qd, Qe, Qf, Qg, Qh, Qi, Qj, Qk, Ql, Qm, Qn, Qo, Qp, Qq, Qr, Qs, Qt, Qu, Qv, Qw, Qx, Qy, ptrTo, Qz, QA, QB, QC, QD, QE, QF, QG, QH, QI, QJ, QK, QL, QM, QN, QO, QP, QQ, QR, QS, QT, QU, QV, QW, QX, QY, QZ, Ja, Jb, Jc, Jd, Je, Jf, Jg, Jh, Ji, Jj, Jk, Jl, Jm, Jn, Jo, Jp, Jq, Jr, Js, Jt, Nat.reduceAdd])
      try simp (disch := first | omega | with_unfolding_all exact id rfl | with_unfolding_all exact Nat.le_of_ble_eq_true rfl | (simp only [Jd, Je, Jr, Js, Jt, Nat.reduceAdd, allOne, oneCell, Bool.and_self, Jc]; first | done | omega)) only [hf6, ↓Qa, ↓Qb, Qd, Qe, Qf, Qg, Qh, Qi, Qj, Qk, Ql, Qm, Qn, Qo, Qp, Qq, Qr, Qs, Qt, Qu, Qv, Qw, Qx, Qy, ptrTo, Qz, QA, QB, QC, QD, QE, QF, QG, QH, QI, QJ, QK, QL, QM, QN, QO, QP, QQ, QR, QS, QT, QU, QV, QW, QX, QY, QZ, Ja, Jb, Jc, Jd, Je, Jf, Jg, Jh, Ji, Jj, Jk, Jl, Jm, Jn, Jo, Jp, Jq, Jr, Js, Jt, Nat.reduceAdd]
      exact hself hic _ _ ⟨rfl, e1.trans (GtX.of E3), by rw [fitI_f hb2]; exact hJm _ _ _ hj E3⟩
  · have : i = chs ws.length s := by omega
    subst this
    exact hk _ e1 hj
end
end Go.Vit

/- Walks: how many blends fit, both ways. -/
namespace Go.Vit
open Go Go.Proofs
attribute [local irreducible] runT loopS
/-- How many fit, as it is answered. -/
def fitC (l : List Int) (lo hi s : Int) : Int := if chkR l lo hi = 0 ∧ (0 ≤ s ∧ s ≤ l.length) then ((fitL (nni l) s.toNat lo hi).length : Int) else 0
def fitE (l : List Int) (lo hi s : Int) : Int := if chkR l lo hi = 0 then (if 0 ≤ s ∧ s ≤ l.length then 0 else 1) else chkR l lo hi
theorem fitL_len {ws : List Nat} {s : Nat} {lo hi : Int} (h10 : ws.length ≤ 10) : (fitL ws s lo hi).length ≤ 1000 := by
  have h1 := fitI_len ws s lo hi (chs ws.length s)
  have h2 := chs_le (n := ws.length) (k := s) (by omega)
  unfold fitL; omega
section
variable {lf n L : Nat} {m : Mem} {k : Value → Mem → Option Unit}
theorem fitting_sp {wv : Value} {lo hi : Int} {s : Int} (hk : ∀ m', Gt m m' → At m' m.next (rcC wv lo hi) → At m' (m.next + 1) [.int .i64 s] → m'.next = m.next + 2 → k (.func (.func 91) #[] ⟨[.pointer (some ⟨m.next, 0, none⟩), .pointer (some ⟨m.next + 1, 0, none⟩)]⟩) m' = some ()) :
    runT (tab lf) (n + 1) 80 [rcp wv lo hi, .int .i64 s] L m k = some () := by
  rw [r80]; dsimp only [S80, iofNat, inegSucc]
  rw [uc_e, uc_e, un0_e, abox_e, oRes_e, cells_agg, abox_e, oRes_e, cells_int]
  have g1 := Mem.gt_push m ⟨1, rcC wv lo hi, none⟩
  have n1 : (m.push ⟨1, rcC wv lo hi, none⟩).next = m.next + 1 := Mem.push_next _ _
  have hA : At (m.push ⟨1, rcC wv lo hi, none⟩) m.next (rcC wv lo hi) := At.push m _
  have g2 := Mem.gt_push (m.push ⟨1, rcC wv lo hi, none⟩) ⟨1, [.int .i64 s], none⟩
  have n2 := Mem.push_next (m.push ⟨1, rcC wv lo hi, none⟩) ⟨1, [.int .i64 s], none⟩
  have hB := At.push (m.push ⟨1, rcC wv lo hi, none⟩) [.int .i64 s]
  unfold ptrTo
  rw [n1] at hB ⊢
  exact hk _ (g1.trans g2) (hA.mono g2) hB (by omega)
/-- A round that counts. -/
theorem round34_sp {y cb : Nat} {u : Value} {z : Nat} (hLy : L ≤ y) (hLc : L ≤ cb) (hyc : y ≠ cb) (hz : z ≤ 1000) (hr : Rdy 34 m y [.pointer (some ⟨cb, 0, none⟩)]) (hc : m.rd cb = some ⟨1, [.int .i64 (z : Int)], none⟩)
    (hk : ∀ m', Rdy 34 m' y [.pointer (some ⟨cb, 0, none⟩)] → m'.rd cb = some ⟨1, [.int .i64 ((z + 1 : Nat) : Int)], none⟩ → m'.next = m.next → (∀ c, c ≠ y → c ≠ cb → m'.rd c = m.rd c) → k (.bool true) m' = some ()) :
    oCallV (runT (tab lf) (n + 1)) (yv y) [u] L m k = some () := by
  rw [oCallV_y hr, rR34]
  dsimp only [R34, iofNat, inegSucc]
  have hylt := hr.lt
  have hclt := Mem.rd_lt hc
  rw [uc_e, oYv_e hLy]
  show uc [.pointer (some ⟨cb, 0, none⟩), u] _ = _
  rw [uc_e, uc_e, un0_e, oBusy_e hr]
  have b1 : Bsy 34 (m.put y (some ⟨Nat.succ (Nat.succ (Nat.mul 2 34)), [.pointer (some ⟨cb, 0, none⟩)], some []⟩)) y [.pointer (some ⟨cb, 0, none⟩)] := Mem.rd_put_eq _ _ hylt
  have c1 : (m.put y (some ⟨Nat.succ (Nat.succ (Nat.mul 2 34)), [.pointer (some ⟨cb, 0, none⟩)], some []⟩)).rd cb = some ⟨1, [.int .i64 (z : Int)], none⟩ := (Mem.rd_put _ _ _ _ hyc).trans hc
  have n1 : (m.put y (some ⟨Nat.succ (Nat.succ (Nat.mul 2 34)), [.pointer (some ⟨cb, 0, none⟩)], some []⟩)).next = m.next := rfl
  have k1 : ∀ c, c ≠ y → (m.put y (some ⟨Nat.succ (Nat.succ (Nat.mul 2 34)), [.pointer (some ⟨cb, 0, none⟩)], some []⟩)).rd c = m.rd c := fun c hc => Mem.rd_put _ _ _ _ (Ne.symm hc)
  generalize m.put y (some ⟨Nat.succ (Nat.succ (Nat.mul 2 34)), [.pointer (some ⟨cb, 0, none⟩)], some []⟩) = m1 at b1 c1 n1 k1 ⊢
  rw [ld1_u, c1, rdo_e, List.getElem?_cons_zero, oOpt_e, oInt_add ⟨by omega, by omega⟩, show (z : Int) + 1 = ((z + 1 : Nat) : Int) from rfl, st_int c1 Nat.zero_lt_one hLc, oRes_e]
  have c2 : (m1.put cb (some ⟨1, [Value.int .i64 (z : Int)].set 0 (.int .i64 ((z + 1 : Nat) : Int)), none⟩)).rd cb = some ⟨1, [.int .i64 ((z + 1 : Nat) : Int)], none⟩ := Mem.rd_put_eq _ _ (by omega)
  have b2 : Bsy 34 (m1.put cb (some ⟨1, [Value.int .i64 (z : Int)].set 0 (.int .i64 ((z + 1 : Nat) : Int)), none⟩)) y [.pointer (some ⟨cb, 0, none⟩)] := (Mem.rd_put _ _ _ _ (Ne.symm hyc)).trans b1
  have n2 : (m1.put cb (some ⟨1, [Value.int .i64 (z : Int)].set 0 (.int .i64 ((z + 1 : Nat) : Int)), none⟩)).next = m1.next := rfl
  have k2 : ∀ c, c ≠ cb → (m1.put cb (some ⟨1, [Value.int .i64 (z : Int)].set 0 (.int .i64 ((z + 1 : Nat) : Int)), none⟩)).rd c = m1.rd c := fun c hc => Mem.rd_put _ _ _ _ (Ne.symm hc)
  generalize m1.put cb (some ⟨1, [Value.int .i64 (z : Int)].set 0 (.int .i64 ((z + 1 : Nat) : Int)), none⟩) = m2 at c2 b2 n2 k2 ⊢
  rw [oReady_e b2]
  refine hk _ (Mem.rd_put_eq _ _ (by omega)) ((Mem.rd_put _ _ _ _ hyc).trans c2) ?_ fun c h1 h2 => (Mem.rd_put _ _ _ _ (Ne.symm h1)).trans ((k2 c h2).trans (k1 c h1))
  rw [Mem.put_next']; omega
theorem fits34_sp {wv : Value} {l : List Int} {lo hi s : Int} (hlf : 1000000 ≤ lf) (hL : L ≤ m.next) (hw : IL m wv l) (hk : ∀ m', Gt m m' → k (.tuple ⟨[.int .i64 (fitC l lo hi s), .int .i64 (fitE l lo hi s)]⟩) m' = some ()) :
    runT (tab lf) (n + 10) 34 [rcp wv lo hi, .int .i64 s] L m k = some () := by
  rw [r34]; dsimp only [S34, iofNat, inegSucc]
  rw [uc_e, uc_e, un0_e, abox_e, oRes_e, cells_agg]
  have g1 := Mem.gt_push m ⟨1, rcC wv lo hi, none⟩
  have hA : At (m.push ⟨1, rcC wv lo hi, none⟩) m.next (rcC wv lo hi) := At.push m _
  have n1 : (m.push ⟨1, rcC wv lo hi, none⟩).next = m.next + 1 := Mem.push_next _ _
  generalize m.push ⟨1, rcC wv lo hi, none⟩ = m1 at g1 hA n1 ⊢
  unfold ptrTo
  have c0 : (rcC wv lo hi)[0]? = some wv := rfl
  rw [ldN_u, hA.rd, rdn3, oOpt_e]
  refine check36_sp hlf (hw.mono g1) fun m2 e2 => ?_
  have G := g1.trans e2
  have n2 := e2.next
  have hA2 := hA.mono e2
  have hw2 := hw.mono G
  by_cases h : chkR l lo hi = 0
  · rw [show fitE l lo hi s = if 0 ≤ s ∧ s ≤ l.length then 0 else 1 from if_pos h] at hk
    rw [h]
    try simp (disch := first | omega | with_unfolding_all exact id rfl | with_unfolding_all exact Nat.le_of_ble_eq_true rfl | (simp only [Jd, Je, Jr, Js, Jt, Nat.reduceAdd, allOne, oneCell, Bool.and_self, Jc]; first | done | omega)) only [hA2.rd, c0, hw2.ln, ↓Qa, ↓Qb, ↓Qc, Qd, Qe, Qf, Qg, Qh, Qi, Qj, Qk, Ql, Qm, Qn, Qo, Qp, Qq, Qr, Qs, Qt, Qu, Qv, Qw, Qx, Qy, ptrTo, Qz, QA, QB, QC, QD, QE, QF, QG, QH, QI, QJ, QK, QL, QM, QN, QO, QP, QQ, QR, QS, QT, QU, QV, QW, QX, QY, QZ, Ja, Jb, Jc, Jd, Je, Jf, Jg, Jh, Ji, Jj, Jk, Jl, Jm, Jn, Jo, Jp, Jq, Jr, Js, Jt, Nat.reduceAdd]
    refine within_sp _ _ _ ?_
    by_cases hs : 0 ≤ s ∧ s ≤ (l.length : Int)
    · rw [if_pos hs, show fitC l lo hi s = ((fitL (nni l) s.toNat lo hi).length : Int) from if_pos ⟨h, hs⟩] at hk
      obtain ⟨ws, rfl, q1, q2, q3, q4⟩ := chkR_ok h
      rw [nni_ci] at hk
      have hwb : ∀ c, bid wv = some c → c < m.next := fun c hc => Sl.bid_lt hw (by rw [ci_length]; omega) c hc
      obtain ⟨s, rfl⟩ : ∃ i : Nat, s = i := ⟨s.toNat, by omega⟩
      rw [Int.toNat_natCast] at hk
      have hsw : s ≤ ws.length := by have := hs.2; rw [ci_length] at this; omega
      rw [decide_eq_true hs]
      try simp (disch := first | omega | with_unfolding_all exact id rfl | with_unfolding_all exact Nat.le_of_ble_eq_true rfl | (simp only [Jd, Je, Jr, Js, Jt, Nat.reduceAdd, allOne, oneCell, Bool.and_self, Jc]; first | done | omega)) only [↓Qa, ↓Qb, ↓Qc, Qd, Qe, Qf, Qg, Qh, Qi, Qj, Qk, Ql, Qm, Qn, Qo, Qp, Qq, Qr, Qs, Qt, Qu, Qv, Qw, Qx, Qy, ptrTo, Qz, QA, QB, QC, QD, QE, QF, QG, QH, QI, QJ, QK, QL, QM, QN, QO, QP, QQ, QR, QS, QT, QU, QV, QW, QX, QY, QZ, Ja, Jb, Jc, Jd, Je, Jf, Jg, Jh, Ji, Jj, Jk, Jl, Jm, Jn, Jo, Jp, Jq, Jr, Js, Jt, Nat.reduceAdd]
      have g3 : Gt m2 ((m2.push ⟨1, [.int .i64 0], none⟩).put m2.next (some ⟨1, [.int .i64 0], none⟩)) := Mem.put_gt (Mem.gt_push _ _) _ (Nat.le_refl _)
      have p3 : At ((m2.push ⟨1, [.int .i64 0], none⟩).put m2.next (some ⟨1, [.int .i64 0], none⟩)) m2.next [.int .i64 0] := Mem.rd_put_eq _ _ (by rw [Mem.push_next]; omega)
      have n3 : ((m2.push ⟨1, [.int .i64 0], none⟩).put m2.next (some ⟨1, [.int .i64 0], none⟩)).next = m2.next + 1 := rfl
      generalize (m2.push ⟨1, [.int .i64 0], none⟩).put m2.next (some ⟨1, [.int .i64 0], none⟩) = m3 at g3 p3 n3 ⊢
      have hA3 := hA2.mono g3
      rw [hA2.rd, rdn3, oOpt_e]
      refine fitting_sp fun m4 e4 hB hC n4 => ?_
      rw [oRange_e (hf := rfl)]
      have g5 := Mem.gt_push m4 ⟨Nat.succ (Nat.mul 2 34), [.pointer (some ⟨m2.next, 0, none⟩)], some []⟩
      have r5 : Rdy 34 (m4.push ⟨Nat.succ (Nat.mul 2 34), [.pointer (some ⟨m2.next, 0, none⟩)], some []⟩) m4.next [.pointer (some ⟨m2.next, 0, none⟩)] := Mem.rd_push _ _
      have n5 : (m4.push ⟨Nat.succ (Nat.mul 2 34), [.pointer (some ⟨m2.next, 0, none⟩)], some []⟩).next = m4.next + 1 := Mem.push_next _ _
      generalize m4.push ⟨Nat.succ (Nat.mul 2 34), [.pointer (some ⟨m2.next, 0, none⟩)], some []⟩ = m5 at g5 r5 n5 ⊢
      have G5 := ((G.trans g3).trans e4).trans g5
      have hw5 : IN m5 wv ws := hw.mono G5
      refine fits91_sp (X := fun c => c = m4.next ∨ c = m2.next) (J := fun seen m' => Rdy 34 m' m4.next [.pointer (some ⟨m2.next, 0, none⟩)] ∧ m'.rd m2.next = some ⟨1, [.int .i64 (seen.length : Int)], none⟩) hlf (by omega) hw5 q3 q2 hsw (hB.mono g5) (hC.mono g5)
        (by rintro (h | h) <;> omega) (by rintro (h | h) <;> omega) (fun c hc => by have := hwb c hc; rintro (h | h) <;> omega) (by rintro c (h | h) <;> omega) ⟨r5, (p3.mono e4).mono g5⟩ (fun seen a b hj e => ⟨(e.kept _ hj.1.lt).trans hj.1, (e.kept _ (Mem.rd_lt hj.2)).trans hj.2⟩) ?_ ?_
      · intro m1 u b seen K e6 hj hse hu hb hub hK
        refine round34_sp (by omega) (by omega) (by omega) hse hj.1 hj.2 fun m7 r7 c7 n7 k7 => ?_
        refine hK m7 ⟨by omega, fun c _ hn => k7 c (fun h => hn (.inl h)) (fun h => hn (.inr h))⟩ ⟨r7, ?_⟩
        rw [c7, List.length_append]; rfl
      · rintro m7 e7 ⟨r7, c7⟩
        have n7 := e7.next
        rw [oEnd_e r7, Mem.rd_put _ _ _ _ (by omega), c7, rdo_e, List.getElem?_cons_zero, oOpt_e]
        refine hk _ (Mem.put_gt (e7.gt G5 ?_) _ (by omega))
        rintro c (h | h) <;> omega
    · rw [if_neg hs, show fitC l lo hi s = 0 from if_neg fun hh => hs hh.2] at hk
      rw [decide_eq_false hs]
      try simp (disch := first | omega | with_unfolding_all exact id rfl | with_unfolding_all exact Nat.le_of_ble_eq_true rfl | (simp only [Jd, Je, Jr, Js, Jt, Nat.reduceAdd, allOne, oneCell, Bool.and_self, Jc]; first | done | omega)) only [↓Qa, ↓Qb, ↓Qc, Qd, Qe, Qf, Qg, Qh, Qi, Qj, Qk, Ql, Qm, Qn, Qo, Qp, Qq, Qr, Qs, Qt, Qu, Qv, Qw, Qx, Qy, ptrTo, Qz, QA, QB, QC, QD, QE, QF, QG, QH, QI, QJ, QK, QL, QM, QN, QO, QP, QQ, QR, QS, QT, QU, QV, QW, QX, QY, QZ, Ja, Jb, Jc, Jd, Je, Jf, Jg, Jh, Ji, Jj, Jk, Jl, Jm, Jn, Jo, Jp, Jq, Jr, Js, Jt, Nat.reduceAdd]
      exact hk _ G
  · rw [show fitE l lo hi s = chkR l lo hi from if_neg h, show fitC l lo hi s = 0 from if_neg fun hh => h hh.1] at hk
    try simp (disch := first | omega | with_unfolding_all exact id rfl | with_unfolding_all exact Nat.le_of_ble_eq_true rfl | (simp only [Jd, Je, Jr, Js, Jt, Nat.reduceAdd, allOne, oneCell, Bool.and_self, Jc]; first | done | omega)) only [decide_eq_false h, ↓Qa, ↓Qb, ↓Qc, Qd, Qe, Qf, Qg, Qh, Qi, Qj, Qk, Ql, Qm, Qn, Qo, Qp, Qq, Qr, Qs, Qt, Qu, Qv, Qw, Qx, Qy, ptrTo, Qz, QA, QB, QC, QD, QE, QF, QG, QH, QI, QJ, QK, QL, QM, QN, QO, QP, QQ, QR, QS, QT, QU, QV, QW, QX, QY, QZ, Ja, Jb, Jc, Jd, Je, Jf, Jg, Jh, Ji, Jj, Jk, Jl, Jm, Jn, Jo, Jp, Jq, Jr, Js, Jt, Nat.reduceAdd]
    exact hk _ G
end
end Go.Vit

/- Walks: how many blends fit, by the reference. -/
namespace Go.Vit
open Go Go.Proofs
attribute [local irreducible] runT loopS
section
variable {lf n L : Nat} {m : Mem} {k : Value → Mem → Option Unit}
theorem fits35_sp {wv : Value} {l : List Int} {lo hi s : Int} (hlf : 1000000 ≤ lf) (hL : L ≤ m.next) (hw : IL m wv l) (hk : ∀ m', Gt m m' → k (.tuple ⟨[.int .i64 (fitC l lo hi s), .int .i64 (fitE l lo hi s)]⟩) m' = some ()) :
    runT (tab lf) (n + 15) 35 [rcp wv lo hi, .int .i64 s] L m k = some () := by
  rw [r35]; dsimp only [S35, iofNat, inegSucc]
  rw [uc_e, uc_e, un0_e, abox_e, oRes_e, cells_agg]
  have g1 := Mem.gt_push m ⟨1, rcC wv lo hi, none⟩
  have hA : At (m.push ⟨1, rcC wv lo hi, none⟩) m.next (rcC wv lo hi) := At.push m _
  have n1 : (m.push ⟨1, rcC wv lo hi, none⟩).next = m.next + 1 := Mem.push_next _ _
  generalize m.push ⟨1, rcC wv lo hi, none⟩ = m1 at g1 hA n1 ⊢
  unfold ptrTo
  have c0 : (rcC wv lo hi)[0]? = some wv := rfl
  have c1 : (rcC wv lo hi)[0 + 1]? = some (.int .i64 lo) := rfl
  have c2 : (rcC wv lo hi)[0 + 2]? = some (.int .i64 hi) := rfl
  rw [ldN_u, hA.rd, rdn3, oOpt_e]
  refine check37_sp hlf (hw.mono g1) fun m2 e2 => ?_
  have G := g1.trans e2
  have n2 := e2.next
  have hA2 := hA.mono e2
  have hw2 := hw.mono G
  by_cases h : chkR l lo hi = 0
  · rw [show fitE l lo hi s = if 0 ≤ s ∧ s ≤ l.length then 0 else 1 from if_pos h] at hk
    rw [h]
    have d0 : decide ((0 : Int) = 0) = true := by decide
    have d1 : decide ((1 : Int) = 0) = false := by decide
    try simp (disch := first | omega | with_unfolding_all exact id rfl | with_unfolding_all exact Nat.le_of_ble_eq_true rfl | (simp only [Jd, Je, Jr, Js, Jt, Nat.reduceAdd, allOne, oneCell, Bool.and_self, Jc]; first | done | omega)) only [hA2.rd, c0, hw2.ln, d0, ↓Qa, ↓Qb, Qd, Qe, Qf, Qg, Qh, Qi, Qj, Qk, Ql, Qm, Qn, Qo, Qp, Qq, Qr, Qs, Qt, Qu, Qv, Qw, Qx, Qy, ptrTo, Qz, QA, QB, QC, QD, QE, QF, QG, QH, QI, QJ, QK, QL, QM, QN, QO, QP, QQ, QR, QS, QT, QU, QV, QW, QX, QY, QZ, Ja, Jb, Jc, Jd, Je, Jf, Jg, Jh, Ji, Jj, Jk, Jl, Jm, Jn, Jo, Jp, Jq, Jr, Js, Jt, Nat.reduceAdd]
    refine in_sp _ _ _ ?_
    by_cases hs : 0 ≤ s ∧ s ≤ (l.length : Int)
    · rw [if_pos hs, show fitC l lo hi s = ((fitL (nni l) s.toNat lo hi).length : Int) from if_pos ⟨h, hs⟩] at hk
      obtain ⟨ws, rfl, q1, q2, q3, q4⟩ := chkR_ok h
      rw [nni_ci] at hk
      obtain ⟨s, rfl⟩ : ∃ i : Nat, s = i := ⟨s.toNat, by omega⟩
      rw [Int.toNat_natCast] at hk
      have hsw : s ≤ ws.length := by have := hs.2; rw [ci_length] at this; omega
      have hw2 : IN m2 wv ws := hw2
      rw [decide_eq_true hs]
      try simp (disch := first | omega | with_unfolding_all exact id rfl | with_unfolding_all exact Nat.le_of_ble_eq_true rfl | (simp only [Jd, Je, Jr, Js, Jt, Nat.reduceAdd, allOne, oneCell, Bool.and_self, Jc]; first | done | omega)) only [hA2.rd, c0, hw2.ln, d0, d1, ↓Qa, ↓Qb, Qd, Qe, Qf, Qg, Qh, Qi, Qj, Qk, Ql, Qm, Qn, Qo, Qp, Qq, Qr, Qs, Qt, Qu, Qv, Qw, Qx, Qy, ptrTo, Qz, QA, QB, QC, QD, QE, QF, QG, QH, QI, QJ, QK, QL, QM, QN, QO, QP, QQ, QR, QS, QT, QU, QV, QW, QX, QY, QZ, Ja, Jb, Jc, Jd, Je, Jf, Jg, Jh, Ji, Jj, Jk, Jl, Jm, Jn, Jo, Jp, Jq, Jr, Js, Jt, Nat.reduceAdd]
      repeat (rw [join_e]; try simp (disch := first | omega | with_unfolding_all exact id rfl | with_unfolding_all exact Nat.le_of_ble_eq_true rfl | (simp only [Jd, Je, Jr, Js, Jt, Nat.reduceAdd, allOne, oneCell, Bool.and_self, Jc]; first | done | omega)) only [hA2.rd, c0, hw2.ln, d0, d1, ↓Qa, ↓Qb, Qd, Qe, Qf, Qg, Qh, Qi, Qj, Qk, Ql, Qm, Qn, Qo, Qp, Qq, Qr, Qs, Qt, Qu, Qv, Qw, Qx, Qy, ptrTo, Qz, QA, QB, QC, QD, QE, QF, QG, QH, QI, QJ, QK, QL, QM, QN, QO, QP, QQ, QR, QS, QT, QU, QV, QW, QX, QY, QZ, Ja, Jb, Jc, Jd, Je, Jf, Jg, Jh, Ji, Jj, Jk, Jl, Jm, Jn, Jo, Jp, Jq, Jr, Js, Jt, Nat.reduceAdd])
      rw [show n + 14 = (n + 12 - ws.length) + ws.length + 2 by omega]
      refine round_sp hlf ws.length q2 hsw (by omega) fun u m3 e3 hu => ?_
      rw [show (n + 12 - ws.length) + ws.length + 2 = n + 14 by omega]
      have n3 := e3.next
      have hrl := rnd_len q2 hsw
      have hcl := chs_le (n := ws.length) (k := s) (by omega)
      rw [fitL_rnd q2 hsw] at hk
      have hrb := rnd_bl ws.length s hsw
      have huL := hu.ll
      generalize rnd ws.length s = R at hu hrl hk hrb huL
      refine loop_up R.length (fun i vs m' => vs = [.int .i64 (((R.take i).filter (fitB ws lo hi)).length : Int), .int .i64 (i : Int)] ∧ Gt m3 m') (by omega) ⟨rfl, Gt.refl _⟩ ?_
      rintro i vs m4 hi' ⟨rfl, e4⟩ self hself
      have n4 := e4.next
      have hu4 := huL.mono e4
      have hA4 := (hA2.mono e3).mono e4
      have hw4 := (hw2.mono e3).mono e4
      have hle : ((R.take i).filter (fitB ws lo hi)).length ≤ 1000 := by
        have := List.length_filter_le (fitB ws lo hi) (R.take i)
        rw [List.length_take] at this
        omega
      try simp (disch := first | omega | with_unfolding_all exact id rfl | with_unfolding_all exact Nat.le_of_ble_eq_true rfl | (simp only [Jd, Je, Jr, Js, Jt, Nat.reduceAdd, allOne, oneCell, Bool.and_self, Jc]; first | done | omega)) only [hu4.ln, ↓Qa, ↓Qb, Qd, Qe, Qf, Qg, Qh, Qi, Qj, Qk, Ql, Qm, Qn, Qo, Qp, Qq, Qr, Qs, Qt, Qu, Qv, Qw, Qx, Qy, ptrTo, Qz, QA, QB, QC, QD, QE, QF, QG, QH, QI, QJ, QK, QL, QM, QN, QO, QP, QQ, QR, QS, QT, QU, QV, QW, QX, QY, QZ, Ja, Jb, Jc, Jd, Je, Jf, Jg, Jh, Ji, Jj, Jk, Jl, Jm, Jn, Jo, Jp, Jq, Jr, Js, Jt, Nat.reduceAdd]
      refine oIf_dec (fun hh => ?_) (fun hh => ?_)
      · have hil : i < R.length := by omega
        obtain ⟨x, x1, x2⟩ := hu4.ld hil
        rw [hA4.rd, rdn3, oOpt_e, hu4.ia hil, oOpt_e, x1, oOpt_e]
        refine weight79_sp hlf hw4 q3 q2 x2 (hrb _ (List.getElem_mem hil)) fun m5 e5 => ?_
        have hA5 := hA4.mono e5
        have hst : (R.take (i + 1)).filter (fitB ws lo hi) = (R.take i).filter (fitB ws lo hi) ++ if fitB ws lo hi R[i] = true then [R[i]] else [] := by
          rw [List.take_add_one, List.getElem?_eq_getElem hil, Option.toList_some, List.filter_append]
          congr 1
          by_cases hb : fitB ws lo hi R[i] = true <;> simp [hb]
        have hf6 : ∀ K : Value → Option Unit, oInt .add .i64 (.int .i64 (i : Int)) (.int .i64 1) K = K (.int .i64 ((i + 1 : Nat) : Int)) := fun K => by rw [oInt_add ⟨by omega, by omega⟩]; rfl
        try simp (disch := first | omega | with_unfolding_all exact id rfl | with_unfolding_all exact Nat.le_of_ble_eq_true rfl | (simp only [Jd, Je, Jr, Js, Jt, Nat.reduceAdd, allOne, oneCell, Bool.and_self, Jc]; first | done | omega)) only [hA5.rd, c1, c2, ↓Qa, ↓Qb, Qd, Qe, Qf, Qg, Qh, Qi, Qj, Qk, Ql, Qm, Qn, Qo, Qp, Qq, Qr, Qs, Qt, Qu, Qv, Qw, Qx, Qy, ptrTo, Qz, QA, QB, QC, QD, QE, QF, QG, QH, QI, QJ, QK, QL, QM, QN, QO, QP, QQ, QR, QS, QT, QU, QV, QW, QX, QY, QZ, Ja, Jb, Jc, Jd, Je, Jf, Jg, Jh, Ji, Jj, Jk, Jl, Jm, Jn, Jo, Jp, Jq, Jr, Js, Jt, Nat.reduceAdd]
        refine in_sp _ _ _ ?_
        cases hb : fitB ws lo hi R[i] with
        | true =>
          have hb' : decide (lo ≤ (wgt ws R[i] : Int) ∧ (wgt ws R[i] : Int) ≤ hi) = true := hb
          rw [hb, if_pos rfl] at hst
          have hf7 : ∀ K : Value → Option Unit, oInt .add .i64 (.int .i64 (((R.take i).filter (fitB ws lo hi)).length : Int)) (.int .i64 1) K = K (.int .i64 (((R.take (i + 1)).filter (fitB ws lo hi)).length : Int)) := fun K => by rw [oInt_add ⟨by omega, by omega⟩, hst, List.length_append]; rfl
          try simp (disch := first | omega | with_unfolding_all exact id rfl | with_unfolding_all exact Nat.le_of_ble_eq_true rfl | (simp only [Jd, Je, Jr, Js, Jt, Nat.reduceAdd, allOne, oneCell, Bool.and_self, Jc]; first | done | omega)) only [hb', hf6, hf7, ↓Qa, ↓Qb, Qd, Qe, Qf, Qg, Qh, Qi, Qj, Qk, Ql, Qm, Qn, Qo, Qp, Qq, Qr, Qs, Qt, Qu, Qv, Qw, Qx, Qy, ptrTo, Qz, QA, QB, QC, QD, QE, QF, QG, QH, QI, QJ, QK, QL, QM, QN, QO, QP, QQ, QR, QS, QT, QU, QV, QW, QX, QY, QZ, Ja, Jb, Jc, Jd, Je, Jf, Jg, Jh, Ji, Jj, Jk, Jl, Jm, Jn, Jo, Jp, Jq, Jr, Js, Jt, Nat.reduceAdd]
          repeat (rw [join_e]; try simp (disch := first | omega | with_unfolding_all exact id rfl | with_unfolding_all exact Nat.le_of_ble_eq_true rfl | (simp only [Jd, Je, Jr, Js, Jt, Nat.reduceAdd, allOne, oneCell, Bool.and_self, Jc]; first | done | omega)) only [hb', hf6, hf7, ↓Qa, ↓Qb, Qd, Qe, Qf, Qg, Qh, Qi, Qj, Qk, Ql, Qm, Qn, Qo, Qp, Qq, Qr, Qs, Qt, Qu, Qv, Qw, Qx, Qy, ptrTo, Qz, QA, QB, QC, QD, QE, QF, QG, QH, QI, QJ, QK, QL, QM, QN, QO, QP, QQ, QR, QS, QT, QU, QV, QW, QX, QY, QZ, Ja, Jb, Jc, Jd, Je, Jf, Jg, Jh, Ji, Jj, Jk, Jl, Jm, Jn, Jo, Jp, Jq, Jr, Js, Jt, Nat.reduceAdd])
          try simp (disch := first | omega | with_unfolding_all exact id rfl | with_unfolding_all exact Nat.le_of_ble_eq_true rfl | (simp only [Jd, Je, Jr, Js, Jt, Nat.reduceAdd, allOne, oneCell, Bool.and_self, Jc]; first | done | omega)) only [hb', hf6, hf7, ↓Qa, ↓Qb, Qd, Qe, Qf, Qg, Qh, Qi, Qj, Qk, Ql, Qm, Qn, Qo, Qp, Qq, Qr, Qs, Qt, Qu, Qv, Qw, Qx, Qy, ptrTo, Qz, QA, QB, QC, QD, QE, QF, QG, QH, QI, QJ, QK, QL, QM, QN, QO, QP, QQ, QR, QS, QT, QU, QV, QW, QX, QY, QZ, Ja, Jb, Jc, Jd, Je, Jf, Jg, Jh, Ji, Jj, Jk, Jl, Jm, Jn, Jo, Jp, Jq, Jr, Js, Jt, Nat.reduceAdd]
          exact hself hil _ _ ⟨rfl, e4.trans e5⟩
        | false =>
          have hb' : decide (lo ≤ (wgt ws R[i] : Int) ∧ (wgt ws R[i] : Int) ≤ hi) = false := hb
          rw [hb, if_neg (by decide), List.append_nil] at hst
          try simp (disch := first | omega | with_unfolding_all exact id rfl | with_unfolding_all exact Nat.le_of_ble_eq_true rfl | (simp only [Jd, Je, Jr, Js, Jt, Nat.reduceAdd, allOne, oneCell, Bool.and_self, Jc]; first | done | omega)) only [hb', hf6, ↓Qa, ↓Qb, Qd, Qe, Qf, Qg, Qh, Qi, Qj, Qk, Ql, Qm, Qn, Qo, Qp, Qq, Qr, Qs, Qt, Qu, Qv, Qw, Qx, Qy, ptrTo, Qz, QA, QB, QC, QD, QE, QF, QG, QH, QI, QJ, QK, QL, QM, QN, QO, QP, QQ, QR, QS, QT, QU, QV, QW, QX, QY, QZ, Ja, Jb, Jc, Jd, Je, Jf, Jg, Jh, Ji, Jj, Jk, Jl, Jm, Jn, Jo, Jp, Jq, Jr, Js, Jt, Nat.reduceAdd]
          repeat (rw [join_e]; try simp (disch := first | omega | with_unfolding_all exact id rfl | with_unfolding_all exact Nat.le_of_ble_eq_true rfl | (simp only [Jd, Je, Jr, Js, Jt, Nat.reduceAdd, allOne, oneCell, Bool.and_self, Jc]; first | done | omega)) only [hb', hf6, ↓Qa, ↓Qb, Qd, Qe, Qf, Qg, Qh, Qi, Qj, Qk, Ql, Qm, Qn, Qo, Qp, Qq, Qr, Qs, Qt, Qu, Qv, Qw, Qx, Qy, ptrTo, Qz, QA, QB, QC, QD, QE, QF, QG, QH, QI, QJ, QK, QL, QM, QN, QO, QP, QQ, QR, QS, QT, QU, QV, QW, QX, QY, QZ, Ja, Jb, Jc, Jd, Je, Jf, Jg, Jh, Ji, Jj, Jk, Jl, Jm, Jn, Jo, Jp, Jq, Jr, Js, Jt, Nat.reduceAdd])
          try simp (disch := first | omega | with_unfolding_all exact id rfl | with_unfolding_all exact Nat.le_of_ble_eq_true rfl | (simp only [Jd, Je, Jr, Js, Jt, Nat.reduceAdd, allOne, oneCell, Bool.and_self, Jc]; first | done | omega)) only [hb', hf6, ↓Qa, ↓Qb, Qd, Qe, Qf, Qg, Qh, Qi, Qj, Qk, Ql, Qm, Qn, Qo, Qp, Qq, Qr, Qs, Qt, Qu, Qv, Qw, Qx, Qy, ptrTo, Qz, QA, QB, QC, QD, QE, QF, QG, QH, QI, QJ, QK, QL, QM, QN, QO, QP, QQ, QR, QS, QT, QU, QV, QW, QX, QY, QZ, Ja, Jb, Jc, Jd, Je, Jf, Jg, Jh, Ji, Jj, Jk, Jl, Jm, Jn, Jo, Jp, Jq, Jr, Js, Jt, Nat.reduceAdd]
          exact hself hil _ _ ⟨by rw [hst], e4.trans e5⟩
      · have : i = R.length := by omega
        subst this
        rw [List.take_length]
        exact hk _ ((G.trans e3).trans e4)
    · rw [if_neg hs, show fitC l lo hi s = 0 from if_neg fun hh => hs hh.2] at hk
      rw [decide_eq_false hs]
      try simp (disch := first | omega | with_unfolding_all exact id rfl | with_unfolding_all exact Nat.le_of_ble_eq_true rfl | (simp only [Jd, Je, Jr, Js, Jt, Nat.reduceAdd, allOne, oneCell, Bool.and_self, Jc]; first | done | omega)) only [d0, d1, ↓Qa, ↓Qb, Qd, Qe, Qf, Qg, Qh, Qi, Qj, Qk, Ql, Qm, Qn, Qo, Qp, Qq, Qr, Qs, Qt, Qu, Qv, Qw, Qx, Qy, ptrTo, Qz, QA, QB, QC, QD, QE, QF, QG, QH, QI, QJ, QK, QL, QM, QN, QO, QP, QQ, QR, QS, QT, QU, QV, QW, QX, QY, QZ, Ja, Jb, Jc, Jd, Je, Jf, Jg, Jh, Ji, Jj, Jk, Jl, Jm, Jn, Jo, Jp, Jq, Jr, Js, Jt, Nat.reduceAdd]
      repeat (rw [join_e]; try simp (disch := first | omega | with_unfolding_all exact id rfl | with_unfolding_all exact Nat.le_of_ble_eq_true rfl | (simp only [Jd, Je, Jr, Js, Jt, Nat.reduceAdd, allOne, oneCell, Bool.and_self, Jc]; first | done | omega)) only [d0, d1, ↓Qa, ↓Qb, Qd, Qe, Qf, Qg, Qh, Qi, Qj, Qk, Ql, Qm, Qn, Qo, Qp, Qq, Qr, Qs, Qt, Qu, Qv, Qw, Qx, Qy, ptrTo, Qz, QA, QB, QC, QD, QE, QF, QG, QH, QI, QJ, QK, QL, QM, QN, QO, QP, QQ, QR, QS, QT, QU, QV, QW, QX, QY, QZ, Ja, Jb, Jc, Jd, Je, Jf, Jg, Jh, Ji, Jj, Jk, Jl, Jm, Jn, Jo, Jp, Jq, Jr, Js, Jt, Nat.reduceAdd])
      try simp (disch := first | omega | with_unfolding_all exact id rfl | with_unfolding_all exact Nat.le_of_ble_eq_true rfl | (simp only [Jd, Je, Jr, Js, Jt, Nat.reduceAdd, allOne, oneCell, Bool.and_self, Jc]; first | done | omega)) only [d0, d1, ↓Qa, ↓Qb, Qd, Qe, Qf, Qg, Qh, Qi, Qj, Qk, Ql, Qm, Qn, Qo, Qp, Qq, Qr, Qs, Qt, Qu, Qv, Qw, Qx, Qy, ptrTo, Qz, QA, QB, QC, QD, QE, QF, QG, QH, QI, QJ, QK, QL, QM, QN, QO, QP, QQ, QR, QS, QT, QU, QV, QW, QX, QY, QZ, Ja, Jb, Jc, Jd, Je, Jf, Jg, Jh, Ji, Jj, Jk, Jl, Jm, Jn, Jo, Jp, Jq, Jr, Js, Jt, Nat.reduceAdd]
      exact hk _ G
  · rw [show fitE l lo hi s = chkR l lo hi from if_neg h, show fitC l lo hi s = 0 from if_neg fun hh => h hh.1] at hk
    try simp (disch := first | omega | with_unfolding_all exact id rfl | with_unfolding_all exact Nat.le_of_ble_eq_true rfl | (simp only [Jd, Je, Jr, Js, Jt, Nat.reduceAdd, allOne, oneCell, Bool.and_self, Jc]; first | done | omega)) only [decide_eq_false h, ↓Qa, ↓Qb, Qd, Qe, Qf, Qg, Qh, Qi, Qj, Qk, Ql, Qm, Qn, Qo, Qp, Qq, Qr, Qs, Qt, Qu, Qv, Qw, Qx, Qy, ptrTo, Qz, QA, QB, QC, QD, QE, QF, QG, QH, QI, QJ, QK, QL, QM, QN, QO, QP, QQ, QR, QS, QT, QU, QV, QW, QX, QY, QZ, Ja, Jb, Jc, Jd, Je, Jf, Jg, Jh, Ji, Jj, Jk, Jl, Jm, Jn, Jo, Jp, Jq, Jr, Js, Jt, Nat.reduceAdd]
    repeat (rw [join_e]; try simp (disch := first | omega | with_unfolding_all exact id rfl | with_unfolding_all exact Nat.le_of_ble_eq_true rfl | (simp only [Jd, Je, Jr, Js, Jt, Nat.reduceAdd, allOne, oneCell, Bool.and_self, Jc]; first | done | omega)) only [decide_eq_false h, ↓Qa, ↓Qb, Qd, Qe, Qf, Qg, Qh, Qi, Qj, Qk, Ql, Qm, Qn, Qo, Qp, Qq, Qr, Qs, Qt, Qu, Qv, Qw, Qx, Qy, ptrTo, Qz, QA, QB, QC, QD, QE, QF, QG, QH, QI, QJ, QK, QL, QM, QN, QO, QP, QQ, QR, QS, QT, QU, QV, QW, QX, QY, QZ, Ja, Jb, Jc, Jd, Je, Jf, Jg, Jh, Ji, Jj, Jk, Jl, Jm, Jn, Jo, Jp, Jq, Jr, Js, Jt, Nat.reduceAdd])
    try simp (disch := first | omega | with_unfolding_all exact id rfl | with_unfolding_all exact Nat.le_of_ble_eq_true rfl | (simp only [Jd, Je, Jr, Js, Jt, Nat.reduceAdd, allOne, oneCell, Bool.and_self, Jc]; first | done | omega)) only [decide_eq_false h, ↓Qa, ↓Qb, Qd, Qe, Qf, Qg, Qh, Qi, Qj, Qk, Ql, Qm, Qn, Qo, Qp, Qq, Qr, Qs, Qt, Qu, Qv, Qw, Qx, Qy, ptrTo, Qz, QA, QB, QC, QD, QE, QF, QG, QH, QI, QJ, QK, QL, QM, QN, QO, QP, QQ, QR, QS, QT, QU, QV, QW, QX, QY, QZ, Ja, Jb, Jc, Jd, Je, Jf, Jg, Jh, Ji, Jj, Jk, Jl, Jm, Jn, Jo, Jp, Jq, Jr, Js, Jt, Nat.reduceAdd]
    exact hk _ G
end
end Go.Vit

/- Walks: the nearest blend that fits. -/
namespace Go.Vit
open Go Go.Proofs
attribute [local irreducible] runT loopS
section
variable {lf n L : Nat} {m : Mem} {k : Value → Mem → Option Unit}
theorem nan_sp (a : Int) (hk : k (.bool false) m = some ()) : runT (tab lf) (n + 1) 104 [.int .i64 a] L m k = some () := by
  rw [r104]; dsimp only [S104, iofNat, inegSucc]
  have d1 : decide (a = a) = true := decide_eq_true rfl
  try simp (disch := first | omega | with_unfolding_all exact id rfl | with_unfolding_all exact Nat.le_of_ble_eq_true rfl | (simp only [Jd, Je, Jr, Js, Jt, Nat.reduceAdd, allOne, oneCell, Bool.and_self, Jc]; first | done | omega)) only [d1, ↓Qa, ↓Qb, ↓Qc, Qd, Qe, Qf, Qg, Qh, Qi, Qj, Qk, Ql, Qm, Qn, Qo, Qp, Qq, Qr, Qs, Qt, Qu, Qv, Qw, Qx, Qy, ptrTo, Qz, QA, QB, QC, QD, QE, QF, QG, QH, QI, QJ, QK, QL, QM, QN, QO, QP, QQ, QR, QS, QT, QU, QV, QW, QX, QY, QZ, Ja, Jb, Jc, Jd, Je, Jf, Jg, Jh, Ji, Jj, Jk, Jl, Jm, Jn, Jo, Jp, Jq, Jr, Js, Jt, Nat.reduceAdd]
  exact hk
theorem cmp_sp {a b : Int} (hk : k (.int .i64 (if a < b then -1 else if b < a then 1 else 0)) m = some ()) : runT (tab lf) (n + 2) 88 [.int .i64 a, .int .i64 b] L m k = some () := by
  rw [r88]; dsimp only [S88, iofNat, inegSucc]
  try simp (disch := first | omega | with_unfolding_all exact id rfl | with_unfolding_all exact Nat.le_of_ble_eq_true rfl | (simp only [Jd, Je, Jr, Js, Jt, Nat.reduceAdd, allOne, oneCell, Bool.and_self, Jc]; first | done | omega)) only [↓Qa, ↓Qb, ↓Qc, Qd, Qe, Qf, Qg, Qh, Qi, Qj, Qk, Ql, Qm, Qn, Qo, Qp, Qq, Qr, Qs, Qt, Qu, Qv, Qw, Qx, Qy, ptrTo, Qz, QA, QB, QC, QD, QE, QF, QG, QH, QI, QJ, QK, QL, QM, QN, QO, QP, QQ, QR, QS, QT, QU, QV, QW, QX, QY, QZ, Ja, Jb, Jc, Jd, Je, Jf, Jg, Jh, Ji, Jj, Jk, Jl, Jm, Jn, Jo, Jp, Jq, Jr, Js, Jt, Nat.reduceAdd]
  refine nan_sp a ?_
  refine nan_sp b ?_
  try simp (disch := first | omega | with_unfolding_all exact id rfl | with_unfolding_all exact Nat.le_of_ble_eq_true rfl | (simp only [Jd, Je, Jr, Js, Jt, Nat.reduceAdd, allOne, oneCell, Bool.and_self, Jc]; first | done | omega)) only [↓Qa, ↓Qb, ↓Qc, Qd, Qe, Qf, Qg, Qh, Qi, Qj, Qk, Ql, Qm, Qn, Qo, Qp, Qq, Qr, Qs, Qt, Qu, Qv, Qw, Qx, Qy, ptrTo, Qz, QA, QB, QC, QD, QE, QF, QG, QH, QI, QJ, QK, QL, QM, QN, QO, QP, QQ, QR, QS, QT, QU, QV, QW, QX, QY, QZ, Ja, Jb, Jc, Jd, Je, Jf, Jg, Jh, Ji, Jj, Jk, Jl, Jm, Jn, Jo, Jp, Jq, Jr, Js, Jt, Nat.reduceAdd]
  by_cases h1 : a < b
  · rw [if_pos h1] at hk
    try simp (disch := first | omega | with_unfolding_all exact id rfl | with_unfolding_all exact Nat.le_of_ble_eq_true rfl | (simp only [Jd, Je, Jr, Js, Jt, Nat.reduceAdd, allOne, oneCell, Bool.and_self, Jc]; first | done | omega)) only [decide_eq_true h1, ↓Qa, ↓Qb, ↓Qc, Qd, Qe, Qf, Qg, Qh, Qi, Qj, Qk, Ql, Qm, Qn, Qo, Qp, Qq, Qr, Qs, Qt, Qu, Qv, Qw, Qx, Qy, ptrTo, Qz, QA, QB, QC, QD, QE, QF, QG, QH, QI, QJ, QK, QL, QM, QN, QO, QP, QQ, QR, QS, QT, QU, QV, QW, QX, QY, QZ, Ja, Jb, Jc, Jd, Je, Jf, Jg, Jh, Ji, Jj, Jk, Jl, Jm, Jn, Jo, Jp, Jq, Jr, Js, Jt, Nat.reduceAdd]
    exact hk
  · rw [if_neg h1] at hk
    by_cases h2 : b < a
    · rw [if_pos h2] at hk
      try simp (disch := first | omega | with_unfolding_all exact id rfl | with_unfolding_all exact Nat.le_of_ble_eq_true rfl | (simp only [Jd, Je, Jr, Js, Jt, Nat.reduceAdd, allOne, oneCell, Bool.and_self, Jc]; first | done | omega)) only [decide_eq_false h1, decide_eq_true h2, ↓Qa, ↓Qb, ↓Qc, Qd, Qe, Qf, Qg, Qh, Qi, Qj, Qk, Ql, Qm, Qn, Qo, Qp, Qq, Qr, Qs, Qt, Qu, Qv, Qw, Qx, Qy, ptrTo, Qz, QA, QB, QC, QD, QE, QF, QG, QH, QI, QJ, QK, QL, QM, QN, QO, QP, QQ, QR, QS, QT, QU, QV, QW, QX, QY, QZ, Ja, Jb, Jc, Jd, Je, Jf, Jg, Jh, Ji, Jj, Jk, Jl, Jm, Jn, Jo, Jp, Jq, Jr, Js, Jt, Nat.reduceAdd]
      exact hk
    · rw [if_neg h2] at hk
      try simp (disch := first | omega | with_unfolding_all exact id rfl | with_unfolding_all exact Nat.le_of_ble_eq_true rfl | (simp only [Jd, Je, Jr, Js, Jt, Nat.reduceAdd, allOne, oneCell, Bool.and_self, Jc]; first | done | omega)) only [decide_eq_false h1, decide_eq_false h2, ↓Qa, ↓Qb, ↓Qc, Qd, Qe, Qf, Qg, Qh, Qi, Qj, Qk, Ql, Qm, Qn, Qo, Qp, Qq, Qr, Qs, Qt, Qu, Qv, Qw, Qx, Qy, ptrTo, Qz, QA, QB, QC, QD, QE, QF, QG, QH, QI, QJ, QK, QL, QM, QN, QO, QP, QQ, QR, QS, QT, QU, QV, QW, QX, QY, QZ, Ja, Jb, Jc, Jd, Je, Jf, Jg, Jh, Ji, Jj, Jk, Jl, Jm, Jn, Jo, Jp, Jq, Jr, Js, Jt, Nat.reduceAdd]
      exact hk
theorem compare_sp {v u : Value} {a b : List Nat} (hlf : 1000000 ≤ lf) (hv : IN m v a) (hu : IN m u b) (hl : a.length < 1000000) (hl2 : b.length < 1000000) (hk : k (.int .i64 (cmpL a b)) m = some ()) : runT (tab lf) (n + 3) 58 [v, u] L m k = some () := by
  rw [r58]; dsimp only [S58, iofNat, inegSucc]
  try simp (disch := first | omega | with_unfolding_all exact id rfl | with_unfolding_all exact Nat.le_of_ble_eq_true rfl | (simp only [Jd, Je, Jr, Js, Jt, Nat.reduceAdd, allOne, oneCell, Bool.and_self, Jc]; first | done | omega)) only [hv.ln, ↓Qa, ↓Qb, ↓Qc, Qd, Qe, Qf, Qg, Qh, Qi, Qj, Qk, Ql, Qm, Qn, Qo, Qp, Qq, Qr, Qs, Qt, Qu, Qv, Qw, Qx, Qy, ptrTo, Qz, QA, QB, QC, QD, QE, QF, QG, QH, QI, QJ, QK, QL, QM, QN, QO, QP, QQ, QR, QS, QT, QU, QV, QW, QX, QY, QZ, Ja, Jb, Jc, Jd, Je, Jf, Jg, Jh, Ji, Jj, Jk, Jl, Jm, Jn, Jo, Jp, Jq, Jr, Js, Jt, Nat.reduceAdd]
  refine loop_up a.length (fun i vs m' => vs = [.int .i64 (i : Int)] ∧ m' = m ∧ i ≤ b.length ∧ cmpL a b = cmpL (a.drop i) (b.drop i)) (by omega) ⟨rfl, rfl, Nat.zero_le _, rfl⟩ ?_
  rintro i vs m' hi ⟨rfl, rfl, hib, hI⟩ self hself
  try simp (disch := first | omega | with_unfolding_all exact id rfl | with_unfolding_all exact Nat.le_of_ble_eq_true rfl | (simp only [Jd, Je, Jr, Js, Jt, Nat.reduceAdd, allOne, oneCell, Bool.and_self, Jc]; first | done | omega)) only [↓Qa, ↓Qb, ↓Qc, Qd, Qe, Qf, Qg, Qh, Qi, Qj, Qk, Ql, Qm, Qn, Qo, Qp, Qq, Qr, Qs, Qt, Qu, Qv, Qw, Qx, Qy, ptrTo, Qz, QA, QB, QC, QD, QE, QF, QG, QH, QI, QJ, QK, QL, QM, QN, QO, QP, QQ, QR, QS, QT, QU, QV, QW, QX, QY, QZ, Ja, Jb, Jc, Jd, Je, Jf, Jg, Jh, Ji, Jj, Jk, Jl, Jm, Jn, Jo, Jp, Jq, Jr, Js, Jt, Nat.reduceAdd]
  refine oIf_dec (fun h => ?_) (fun h => ?_)
  · have hil : i < a.length := by omega
    rw [List.drop_eq_getElem_cons hil] at hI
    rw [hv.ia hil, oOpt_e, hv.ld hil, oOpt_e, hu.ln, oOpt_e, oInt_geq]
    refine oIf_dec (fun h1 => ?_) (fun h1 => ?_)
    · rw [show b.drop i = [] from List.drop_eq_nil_of_le (by omega)] at hI
      rw [hI] at hk
      exact hk
    · have hil2 : i < b.length := by omega
      rw [List.drop_eq_getElem_cons hil2] at hI
      have hI2 : cmpL a b = if a[i] < b[i] then -1 else if b[i] < a[i] then 1 else cmpL (a.drop (i + 1)) (b.drop (i + 1)) := hI
      rw [hu.ia hil2, oOpt_e, hu.ld hil2, oOpt_e]
      refine cmp_sp ?_
      by_cases q1 : a[i] < b[i]
      · rw [if_pos q1] at hI2
        rw [if_pos (show (a[i] : Int) < (b[i] : Int) by omega)]
        rw [hI2] at hk
        have d1 : decide ((-1 : Int) = 0) = false := by decide
        try simp (disch := first | omega | with_unfolding_all exact id rfl | with_unfolding_all exact Nat.le_of_ble_eq_true rfl | (simp only [Jd, Je, Jr, Js, Jt, Nat.reduceAdd, allOne, oneCell, Bool.and_self, Jc]; first | done | omega)) only [d1, ↓Qa, ↓Qb, ↓Qc, Qd, Qe, Qf, Qg, Qh, Qi, Qj, Qk, Ql, Qm, Qn, Qo, Qp, Qq, Qr, Qs, Qt, Qu, Qv, Qw, Qx, Qy, ptrTo, Qz, QA, QB, QC, QD, QE, QF, QG, QH, QI, QJ, QK, QL, QM, QN, QO, QP, QQ, QR, QS, QT, QU, QV, QW, QX, QY, QZ, Ja, Jb, Jc, Jd, Je, Jf, Jg, Jh, Ji, Jj, Jk, Jl, Jm, Jn, Jo, Jp, Jq, Jr, Js, Jt, Nat.reduceAdd]
        exact hk
      · rw [if_neg q1] at hI2
        rw [if_neg (show ¬ (a[i] : Int) < (b[i] : Int) by omega)]
        by_cases q2 : b[i] < a[i]
        · rw [if_pos q2] at hI2
          rw [if_pos (show (b[i] : Int) < (a[i] : Int) by omega)]
          rw [hI2] at hk
          have d1 : decide ((1 : Int) = 0) = false := by decide
          try simp (disch := first | omega | with_unfolding_all exact id rfl | with_unfolding_all exact Nat.le_of_ble_eq_true rfl | (simp only [Jd, Je, Jr, Js, Jt, Nat.reduceAdd, allOne, oneCell, Bool.and_self, Jc]; first | done | omega)) only [d1, ↓Qa, ↓Qb, ↓Qc, Qd, Qe, Qf, Qg, Qh, Qi, Qj, Qk, Ql, Qm, Qn, Qo, Qp, Qq, Qr, Qs, Qt, Qu, Qv, Qw, Qx, Qy, ptrTo, Qz, QA, QB, QC, QD, QE, QF, QG, QH, QI, QJ, QK, QL, QM, QN, QO, QP, QQ, QR, QS, QT, QU, QV, QW, QX, QY, QZ, Ja, Jb, Jc, Jd, Je, Jf, Jg, Jh, Ji, Jj, Jk, Jl, Jm, Jn, Jo, Jp, Jq, Jr, Js, Jt, Nat.reduceAdd]
          exact hk
        · rw [if_neg q2] at hI2
          rw [if_neg (show ¬ (b[i] : Int) < (a[i] : Int) by omega)]
          have d1 : decide ((0 : Int) = 0) = true := by decide
          try simp (disch := first | omega | with_unfolding_all exact id rfl | with_unfolding_all exact Nat.le_of_ble_eq_true rfl | (simp only [Jd, Je, Jr, Js, Jt, Nat.reduceAdd, allOne, oneCell, Bool.and_self, Jc]; first | done | omega)) only [d1, ↓Qa, ↓Qb, ↓Qc, Qd, Qe, Qf, Qg, Qh, Qi, Qj, Qk, Ql, Qm, Qn, Qo, Qp, Qq, Qr, Qs, Qt, Qu, Qv, Qw, Qx, Qy, ptrTo, Qz, QA, QB, QC, QD, QE, QF, QG, QH, QI, QJ, QK, QL, QM, QN, QO, QP, QQ, QR, QS, QT, QU, QV, QW, QX, QY, QZ, Ja, Jb, Jc, Jd, Je, Jf, Jg, Jh, Ji, Jj, Jk, Jl, Jm, Jn, Jo, Jp, Jq, Jr, Js, Jt, Nat.reduceAdd]
          rw [oInt_add ⟨by omega, by omega⟩]
          exact hself hil _ _ ⟨rfl, rfl, by omega, hI2⟩
  · have : i = a.length := by omega
    subst this
    rw [List.drop_eq_nil_of_le (Nat.le_refl _)] at hI
    try simp (disch := first | omega | with_unfolding_all exact id rfl | with_unfolding_all exact Nat.le_of_ble_eq_true rfl | (simp only [Jd, Je, Jr, Js, Jt, Nat.reduceAdd, allOne, oneCell, Bool.and_self, Jc]; first | done | omega)) only [hv.ln, hu.ln, ↓Qa, ↓Qb, ↓Qc, Qd, Qe, Qf, Qg, Qh, Qi, Qj, Qk, Ql, Qm, Qn, Qo, Qp, Qq, Qr, Qs, Qt, Qu, Qv, Qw, Qx, Qy, ptrTo, Qz, QA, QB, QC, QD, QE, QF, QG, QH, QI, QJ, QK, QL, QM, QN, QO, QP, QQ, QR, QS, QT, QU, QV, QW, QX, QY, QZ, Ja, Jb, Jc, Jd, Je, Jf, Jg, Jh, Ji, Jj, Jk, Jl, Jm, Jn, Jo, Jp, Jq, Jr, Js, Jt, Nat.reduceAdd]
    by_cases h2 : a.length < b.length
    · rw [List.drop_eq_getElem_cons h2] at hI
      have d1 : decide ((a.length : Int) < (b.length : Int)) = true := decide_eq_true (by omega)
      rw [hI] at hk
      try simp (disch := first | omega | with_unfolding_all exact id rfl | with_unfolding_all exact Nat.le_of_ble_eq_true rfl | (simp only [Jd, Je, Jr, Js, Jt, Nat.reduceAdd, allOne, oneCell, Bool.and_self, Jc]; first | done | omega)) only [d1, ↓Qa, ↓Qb, ↓Qc, Qd, Qe, Qf, Qg, Qh, Qi, Qj, Qk, Ql, Qm, Qn, Qo, Qp, Qq, Qr, Qs, Qt, Qu, Qv, Qw, Qx, Qy, ptrTo, Qz, QA, QB, QC, QD, QE, QF, QG, QH, QI, QJ, QK, QL, QM, QN, QO, QP, QQ, QR, QS, QT, QU, QV, QW, QX, QY, QZ, Ja, Jb, Jc, Jd, Je, Jf, Jg, Jh, Ji, Jj, Jk, Jl, Jm, Jn, Jo, Jp, Jq, Jr, Js, Jt, Nat.reduceAdd]
      exact hk
    · rw [List.drop_eq_nil_of_le (by omega)] at hI
      have d1 : decide ((a.length : Int) < (b.length : Int)) = false := decide_eq_false (by omega)
      rw [hI] at hk
      try simp (disch := first | omega | with_unfolding_all exact id rfl | with_unfolding_all exact Nat.le_of_ble_eq_true rfl | (simp only [Jd, Je, Jr, Js, Jt, Nat.reduceAdd, allOne, oneCell, Bool.and_self, Jc]; first | done | omega)) only [d1, ↓Qa, ↓Qb, ↓Qc, Qd, Qe, Qf, Qg, Qh, Qi, Qj, Qk, Ql, Qm, Qn, Qo, Qp, Qq, Qr, Qs, Qt, Qu, Qv, Qw, Qx, Qy, ptrTo, Qz, QA, QB, QC, QD, QE, QF, QG, QH, QI, QJ, QK, QL, QM, QN, QO, QP, QQ, QR, QS, QT, QU, QV, QW, QX, QY, QZ, Ja, Jb, Jc, Jd, Je, Jf, Jg, Jh, Ji, Jj, Jk, Jl, Jm, Jn, Jo, Jp, Jq, Jr, Js, Jt, Nat.reduceAdd]
      exact hk
/-- What the rounds hold: the best one, and how far it is. -/
def NrJ (X : Nat → Prop) (y fb bb tb : Nat) (t : List Nat) (seen : List (List Nat)) (m : Mem) : Prop :=
  Rdy 38 m y [.pointer (some ⟨fb, 0, none⟩), .pointer (some ⟨bb, 0, none⟩), .pointer (some ⟨tb, 0, none⟩)] ∧ m.rd fb = some ⟨1, [.int .i64 ((nearF t seen).2 : Int)], none⟩ ∧
    ∃ bv, m.rd bb = some ⟨1, [bv], none⟩ ∧ IN m bv (nearF t seen).1 ∧ ∀ c, bid bv = some c → ¬ X c
theorem round38_sp {X : Nat → Prop} {y fb bb tb : Nat} {u tv : Value} {b t : List Nat} {seen : List (List Nat)} {N kk : Nat} (hlf : 1000000 ≤ lf) (hLy : L ≤ y) (hLf : L ≤ fb) (hLb : L ≤ bb) (hX : ∀ c, X c ↔ c = y ∨ c = fb ∨ c = bb) (h1 : y ≠ fb) (h2 : y ≠ bb) (h3 : fb ≠ bb) (htX : ¬ X tb)
    (hj : NrJ X y fb bb tb t seen m) (htb : At m tb [tv]) (ht : IN m tv t) (htl : t.length < 100) (hu : IN m u b) (hub : ∀ c, bid u = some c → ¬ X c) (hbl : b.length < 100)
    (htv : 0 < t.length → ∀ c, bid tv = some c → ¬ X c) (hseen : ∀ x ∈ seen, x.length < 100)
    (hk : ∀ m', GtX X m m' → NrJ X y fb bb tb t (seen ++ [b]) m' → k (.bool true) m' = some ()) :
    oCallV (runT (tab lf) (n + 4)) (yv y) [u] L m k = some () := by
  obtain ⟨hr, hf, bv, hb1, hb2, hb3⟩ := hj
  rw [oCallV_y hr, rR38]
  dsimp only [R38, iofNat, inegSucc]
  have hylt := hr.lt
  have hflt := Mem.rd_lt hf
  have hblt := Mem.rd_lt hb1
  rw [uc_e, oYv_e hLy]
  show uc [.pointer (some ⟨fb, 0, none⟩), .pointer (some ⟨bb, 0, none⟩), .pointer (some ⟨tb, 0, none⟩), u] _ = _
  rw [uc_e, uc_e, uc_e, uc_e, un0_e, oBusy_e hr]
  generalize hcs : ([.pointer (some ⟨fb, 0, none⟩), .pointer (some ⟨bb, 0, none⟩), .pointer (some ⟨tb, 0, none⟩)] : List Value) = CS at hr ⊢
  have x1 : Bsy 38 (m.put y (some ⟨Nat.succ (Nat.succ (Nat.mul 2 38)), CS, some []⟩)) y CS := Mem.rd_put_eq _ _ hylt
  have g1 : GtX X m (m.put y (some ⟨Nat.succ (Nat.succ (Nat.mul 2 38)), CS, some []⟩)) := (GtX.refl m).put ((hX y).2 (.inl rfl)) _
  have k1 : ∀ c, c ≠ y → (m.put y (some ⟨Nat.succ (Nat.succ (Nat.mul 2 38)), CS, some []⟩)).rd c = m.rd c := fun c hc => Mem.rd_put _ _ _ _ (Ne.symm hc)
  have n1 : (m.put y (some ⟨Nat.succ (Nat.succ (Nat.mul 2 38)), CS, some []⟩)).next = m.next := rfl
  generalize m.put y (some ⟨Nat.succ (Nat.succ (Nat.mul 2 38)), CS, some []⟩) = m1 at x1 g1 k1 n1 ⊢
  have htb1 := htb.monoX g1 htX
  have ht1 := ht.monoX g1 htv
  have hu1 := hu.monoX g1 (fun _ => hub)
  have hf1 := (k1 fb (Ne.symm h1)).trans hf
  have hb11 := (k1 bb (Ne.symm h2)).trans hb1
  have hb21 := hb2.monoX g1 (fun _ => hb3)
  have ct : ([tv] : List Value)[0]? = some tv := rfl
  have cb : ([bv] : List Value)[0]? = some bv := rfl
  rw [ld1_u, htb1.rd, rdo_e, ct, oOpt_e]
  refine away_sp hlf hu1 ht1 (by omega) (by omega) ?_
  have hsn := nearF_snoc t seen b
  have hfl := nearF_le t seen
  have hal : awayN b t ≤ b.length := by
    have := List.length_filter_le (fun x => !decide (x ∈ t)) b
    exact this
  have hbest : (nearF t seen).1.length < 100 := by
    rcases (near_inv t seen ([], 11)).2.2 with h | ⟨h, _⟩
    · have : nearF t seen = ([], 11) := h
      rw [this]; decide
    · exact hseen _ h
  have hcf : ([.int .i64 ((nearF t seen).2 : Int)] : List Value)[0]? = some (.int .i64 ((nearF t seen).2 : Int)) := rfl
  -- the two ends
  have hno : nearS t (nearF t seen) b = nearF t seen → k (.bool true) (m1.put y (some ⟨Nat.succ (Nat.mul 2 38), CS, some []⟩)) = some () := fun hst => by
    rw [hst] at hsn
    refine hk _ (g1.put ((hX y).2 (.inl rfl)) _) ⟨?_, ?_, bv, ?_, ?_, hb3⟩
    · rw [hcs]; exact Mem.rd_put_eq _ _ (by omega)
    · rw [hsn]; exact (Mem.rd_put _ _ _ _ h1).trans hf1
    · exact (Mem.rd_put _ _ _ _ h2).trans hb11
    · rw [hsn]
      exact hb21.monoX ((GtX.refl m1).put ((hX y).2 (.inl rfl)) _) (fun _ => hb3)
  have hyes : nearS t (nearF t seen) b = (b, awayN b t) → (oRes (stw 1 L m1 bb 0 u.cells.toList (m1.rd bb)) fun t34 m35 => oRes (stw 1 L m35 fb 0 [.int .i64 (awayN b t : Int)] (m35.rd fb)) fun t36 m37 => oReady 38 y m37 fun m33 => k (.bool true) m33) = some () := fun hst => by
    rw [hst] at hsn
    obtain ⟨pu, cu, eu⟩ := hu1.ex
    have hst1 := st_set (L := L) (x := u) hb11 Nat.zero_lt_one hLb (by rw [eu]; rfl) (by rw [eu]; rfl)
    rw [st1_u] at hst1
    rw [hst1, oRes_e]
    have g2 := (GtX.refl m1).put ((hX bb).2 (.inr (.inr rfl))) (some ⟨1, [bv].set 0 u, none⟩)
    have y2 : (m1.put bb (some ⟨1, [bv].set 0 u, none⟩)).rd bb = some ⟨1, [u], none⟩ := Mem.rd_put_eq _ _ (by omega)
    have f2 : (m1.put bb (some ⟨1, [bv].set 0 u, none⟩)).rd fb = some ⟨1, [.int .i64 ((nearF t seen).2 : Int)], none⟩ := (Mem.rd_put _ _ _ _ (Ne.symm h3)).trans hf1
    have x2 : Bsy 38 (m1.put bb (some ⟨1, [bv].set 0 u, none⟩)) y CS := (Mem.rd_put _ _ _ _ (Ne.symm h2)).trans x1
    have n2 : (m1.put bb (some ⟨1, [bv].set 0 u, none⟩)).next = m1.next := rfl
    generalize m1.put bb (some ⟨1, [bv].set 0 u, none⟩) = m2 at g2 y2 f2 x2 n2 ⊢
    have hst2 : stw 1 L m2 fb 0 [.int .i64 (awayN b t : Int)] (m2.rd fb) = some (Go.undef, m2.put fb (some ⟨1, [Value.int .i64 ((nearF t seen).2 : Int)].set 0 (.int .i64 (awayN b t : Int)), none⟩)) := by
      have := st_int (x := (awayN b t : Int)) f2 Nat.zero_lt_one hLf
      rw [st1_u] at this
      exact this
    rw [hst2, oRes_e]
    have g3 := g2.put ((hX fb).2 (.inr (.inl rfl))) (some ⟨1, [Value.int .i64 ((nearF t seen).2 : Int)].set 0 (.int .i64 (awayN b t : Int)), none⟩)
    have f3 : (m2.put fb (some ⟨1, [Value.int .i64 ((nearF t seen).2 : Int)].set 0 (.int .i64 (awayN b t : Int)), none⟩)).rd fb = some ⟨1, [.int .i64 (awayN b t : Int)], none⟩ := Mem.rd_put_eq _ _ (by omega)
    have y3 : (m2.put fb (some ⟨1, [Value.int .i64 ((nearF t seen).2 : Int)].set 0 (.int .i64 (awayN b t : Int)), none⟩)).rd bb = some ⟨1, [u], none⟩ := (Mem.rd_put _ _ _ _ h3).trans y2
    have x3 : Bsy 38 (m2.put fb (some ⟨1, [Value.int .i64 ((nearF t seen).2 : Int)].set 0 (.int .i64 (awayN b t : Int)), none⟩)) y CS := (Mem.rd_put _ _ _ _ (Ne.symm h1)).trans x2
    have n3 : (m2.put fb (some ⟨1, [Value.int .i64 ((nearF t seen).2 : Int)].set 0 (.int .i64 (awayN b t : Int)), none⟩)).next = m2.next := rfl
    generalize m2.put fb (some ⟨1, [Value.int .i64 ((nearF t seen).2 : Int)].set 0 (.int .i64 (awayN b t : Int)), none⟩) = m3 at g3 f3 y3 x3 n3 ⊢
    rw [oReady_e x3]
    have g4 := g3.put ((hX y).2 (.inl rfl)) (some ⟨Nat.succ (Nat.mul 2 38), CS, some []⟩)
    refine hk _ (g1.trans g4) ⟨?_, ?_, u, ?_, ?_, hub⟩
    · rw [hcs]; exact Mem.rd_put_eq _ _ (by omega)
    · rw [hsn]; exact (Mem.rd_put _ _ _ _ h1).trans f3
    · exact (Mem.rd_put _ _ _ _ h2).trans y3
    · rw [hsn]
      exact hu1.monoX g4 (fun _ => hub)
  rw [ld1_u, hf1, rdo_e, hcf, oOpt_e, oInt_lss]
  by_cases q1 : awayN b t < (nearF t seen).2
  · have d1 : decide ((awayN b t : Int) < ((nearF t seen).2 : Int)) = true := decide_eq_true (by omega)
    rw [d1]
    have hst := hyes (if_pos (.inl q1))
    try simp (disch := first | omega | with_unfolding_all exact id rfl | with_unfolding_all exact Nat.le_of_ble_eq_true rfl | (simp only [Jd, Je, Jr, Js, Jt, Nat.reduceAdd, allOne, oneCell, Bool.and_self, Jc]; first | done | omega)) only [↓Qa, ↓Qb, Qd, Qe, Qf, Qg, Qh, Qi, Qj, Qk, Ql, Qm, Qn, Qo, Qp, Qq, Qr, Qs, Qt, Qu, Qv, Qw, Qx, Qy, ptrTo, Qz, QA, QB, QC, QD, QE, QF, QG, QH, QI, QJ, QK, QL, QM, QN, QO, QP, QQ, QR, QS, QT, QU, QV, QW, QX, QY, QZ, Ja, Jb, Jc, Jd, Je, Jf, Jg, Jh, Ji, Jj, Jk, Jl, Jm, Jn, Jo, Jp, Jq, Jr, Js, Jt, Nat.reduceAdd]
    repeat (rw [join_e]; try simp (disch := first | omega | with_unfolding_all exact id rfl | with_unfolding_all exact Nat.le_of_ble_eq_true rfl | (simp only [Jd, Je, Jr, Js, Jt, Nat.reduceAdd, allOne, oneCell, Bool.and_self, Jc]; first | done | omega)) only [↓Qa, ↓Qb, Qd, Qe, Qf, Qg, Qh, Qi, Qj, Qk, Ql, Qm, Qn, Qo, Qp, Qq, Qr, Qs, Qt, Qu, Qv, Qw, Qx, Qy, ptrTo, Qz, QA, QB, QC, QD, QE, QF, QG, QH, QI, QJ, QK, QL, QM, QN, QO, QP, QQ, QR, QS, QT, QU, QV, QW, QX, QY, QZ, Ja, Jb, Jc, Jd, Je, Jf, Jg, Jh, Ji, Jj, Jk, Jl, Jm, Jn, Jo, Jp, Jq, Jr, Js, Jt, Nat.reduceAdd])
    try simp (disch := first | omega | with_unfolding_all exact id rfl | with_unfolding_all exact Nat.le_of_ble_eq_true rfl | (simp only [Jd, Je, Jr, Js, Jt, Nat.reduceAdd, allOne, oneCell, Bool.and_self, Jc]; first | done | omega)) only [↓Qa, ↓Qb, Qd, Qe, Qf, Qg, Qh, Qi, Qj, Qk, Ql, Qm, Qn, Qo, Qp, Qq, Qr, Qs, Qt, Qu, Qv, Qw, Qx, Qy, ptrTo, Qz, QA, QB, QC, QD, QE, QF, QG, QH, QI, QJ, QK, QL, QM, QN, QO, QP, QQ, QR, QS, QT, QU, QV, QW, QX, QY, QZ, Ja, Jb, Jc, Jd, Je, Jf, Jg, Jh, Ji, Jj, Jk, Jl, Jm, Jn, Jo, Jp, Jq, Jr, Js, Jt, Nat.reduceAdd]
    exact hst
  · have d1 : decide ((awayN b t : Int) < ((nearF t seen).2 : Int)) = false := decide_eq_false (by omega)
    rw [d1]
    try simp (disch := first | omega | with_unfolding_all exact id rfl | with_unfolding_all exact Nat.le_of_ble_eq_true rfl | (simp only [Jd, Je, Jr, Js, Jt, Nat.reduceAdd, allOne, oneCell, Bool.and_self, Jc]; first | done | omega)) only [↓Qa, ↓Qb, Qd, Qe, Qf, Qg, Qh, Qi, Qj, Qk, Ql, Qm, Qn, Qo, Qp, Qq, Qr, Qs, Qt, Qu, Qv, Qw, Qx, Qy, ptrTo, Qz, QA, QB, QC, QD, QE, QF, QG, QH, QI, QJ, QK, QL, QM, QN, QO, QP, QQ, QR, QS, QT, QU, QV, QW, QX, QY, QZ, Ja, Jb, Jc, Jd, Je, Jf, Jg, Jh, Ji, Jj, Jk, Jl, Jm, Jn, Jo, Jp, Jq, Jr, Js, Jt, Nat.reduceAdd]
    rw [join_e]
    try simp (disch := first | omega | with_unfolding_all exact id rfl | with_unfolding_all exact Nat.le_of_ble_eq_true rfl | (simp only [Jd, Je, Jr, Js, Jt, Nat.reduceAdd, allOne, oneCell, Bool.and_self, Jc]; first | done | omega)) only [hf1, hcf, ↓Qa, ↓Qb, Qd, Qe, Qf, Qg, Qh, Qi, Qj, Qk, Ql, Qm, Qn, Qo, Qp, Qq, Qr, Qs, Qt, Qu, Qv, Qw, Qx, Qy, ptrTo, Qz, QA, QB, QC, QD, QE, QF, QG, QH, QI, QJ, QK, QL, QM, QN, QO, QP, QQ, QR, QS, QT, QU, QV, QW, QX, QY, QZ, Ja, Jb, Jc, Jd, Je, Jf, Jg, Jh, Ji, Jj, Jk, Jl, Jm, Jn, Jo, Jp, Jq, Jr, Js, Jt, Nat.reduceAdd]
    by_cases q2 : awayN b t = (nearF t seen).2
    · have d2 : decide ((awayN b t : Int) = ((nearF t seen).2 : Int)) = true := decide_eq_true (by omega)
      try simp (disch := first | omega | with_unfolding_all exact id rfl | with_unfolding_all exact Nat.le_of_ble_eq_true rfl | (simp only [Jd, Je, Jr, Js, Jt, Nat.reduceAdd, allOne, oneCell, Bool.and_self, Jc]; first | done | omega)) only [d2, ↓Qa, ↓Qb, Qd, Qe, Qf, Qg, Qh, Qi, Qj, Qk, Ql, Qm, Qn, Qo, Qp, Qq, Qr, Qs, Qt, Qu, Qv, Qw, Qx, Qy, ptrTo, Qz, QA, QB, QC, QD, QE, QF, QG, QH, QI, QJ, QK, QL, QM, QN, QO, QP, QQ, QR, QS, QT, QU, QV, QW, QX, QY, QZ, Ja, Jb, Jc, Jd, Je, Jf, Jg, Jh, Ji, Jj, Jk, Jl, Jm, Jn, Jo, Jp, Jq, Jr, Js, Jt, Nat.reduceAdd]
      repeat (rw [join_e]; try simp (disch := first | omega | with_unfolding_all exact id rfl | with_unfolding_all exact Nat.le_of_ble_eq_true rfl | (simp only [Jd, Je, Jr, Js, Jt, Nat.reduceAdd, allOne, oneCell, Bool.and_self, Jc]; first | done | omega)) only [d2, hb11, cb, ↓Qa, ↓Qb, Qd, Qe, Qf, Qg, Qh, Qi, Qj, Qk, Ql, Qm, Qn, Qo, Qp, Qq, Qr, Qs, Qt, Qu, Qv, Qw, Qx, Qy, ptrTo, Qz, QA, QB, QC, QD, QE, QF, QG, QH, QI, QJ, QK, QL, QM, QN, QO, QP, QQ, QR, QS, QT, QU, QV, QW, QX, QY, QZ, Ja, Jb, Jc, Jd, Je, Jf, Jg, Jh, Ji, Jj, Jk, Jl, Jm, Jn, Jo, Jp, Jq, Jr, Js, Jt, Nat.reduceAdd])
      refine compare_sp hlf hu1 hb21 (by omega) (by omega) ?_
      by_cases q3 : cmpL b (nearF t seen).1 < 0
      · have hst := hyes (if_pos (.inr ⟨q2, q3⟩))
        try simp (disch := first | omega | with_unfolding_all exact id rfl | with_unfolding_all exact Nat.le_of_ble_eq_true rfl | (simp only [Jd, Je, Jr, Js, Jt, Nat.reduceAdd, allOne, oneCell, Bool.and_self, Jc]; first | done | omega)) only [decide_eq_true q3, ↓Qa, ↓Qb, Qd, Qe, Qf, Qg, Qh, Qi, Qj, Qk, Ql, Qm, Qn, Qo, Qp, Qq, Qr, Qs, Qt, Qu, Qv, Qw, Qx, Qy, ptrTo, Qz, QA, QB, QC, QD, QE, QF, QG, QH, QI, QJ, QK, QL, QM, QN, QO, QP, QQ, QR, QS, QT, QU, QV, QW, QX, QY, QZ, Ja, Jb, Jc, Jd, Je, Jf, Jg, Jh, Ji, Jj, Jk, Jl, Jm, Jn, Jo, Jp, Jq, Jr, Js, Jt, Nat.reduceAdd]
        repeat (rw [join_e]; try simp (disch := first | omega | with_unfolding_all exact id rfl | with_unfolding_all exact Nat.le_of_ble_eq_true rfl | (simp only [Jd, Je, Jr, Js, Jt, Nat.reduceAdd, allOne, oneCell, Bool.and_self, Jc]; first | done | omega)) only [decide_eq_true q3, ↓Qa, ↓Qb, Qd, Qe, Qf, Qg, Qh, Qi, Qj, Qk, Ql, Qm, Qn, Qo, Qp, Qq, Qr, Qs, Qt, Qu, Qv, Qw, Qx, Qy, ptrTo, Qz, QA, QB, QC, QD, QE, QF, QG, QH, QI, QJ, QK, QL, QM, QN, QO, QP, QQ, QR, QS, QT, QU, QV, QW, QX, QY, QZ, Ja, Jb, Jc, Jd, Je, Jf, Jg, Jh, Ji, Jj, Jk, Jl, Jm, Jn, Jo, Jp, Jq, Jr, Js, Jt, Nat.reduceAdd])
        try simp (disch := first | omega | with_unfolding_all exact id rfl | with_unfolding_all exact Nat.le_of_ble_eq_true rfl | (simp only [Jd, Je, Jr, Js, Jt, Nat.reduceAdd, allOne, oneCell, Bool.and_self, Jc]; first | done | omega)) only [decide_eq_true q3, ↓Qa, ↓Qb, Qd, Qe, Qf, Qg, Qh, Qi, Qj, Qk, Ql, Qm, Qn, Qo, Qp, Qq, Qr, Qs, Qt, Qu, Qv, Qw, Qx, Qy, ptrTo, Qz, QA, QB, QC, QD, QE, QF, QG, QH, QI, QJ, QK, QL, QM, QN, QO, QP, QQ, QR, QS, QT, QU, QV, QW, QX, QY, QZ, Ja, Jb, Jc, Jd, Je, Jf, Jg, Jh, Ji, Jj, Jk, Jl, Jm, Jn, Jo, Jp, Jq, Jr, Js, Jt, Nat.reduceAdd]
        exact hst
      · have hst := hno (if_neg (fun h => h.elim q1 fun h => q3 h.2))
        try simp (disch := first | omega | with_unfolding_all exact id rfl | with_unfolding_all exact Nat.le_of_ble_eq_true rfl | (simp only [Jd, Je, Jr, Js, Jt, Nat.reduceAdd, allOne, oneCell, Bool.and_self, Jc]; first | done | omega)) only [decide_eq_false q3, ↓Qa, ↓Qb, Qd, Qe, Qf, Qg, Qh, Qi, Qj, Qk, Ql, Qm, Qn, Qo, Qp, Qq, Qr, Qs, Qt, Qu, Qv, Qw, Qx, Qy, ptrTo, Qz, QA, QB, QC, QD, QE, QF, QG, QH, QI, QJ, QK, QL, QM, QN, QO, QP, QQ, QR, QS, QT, QU, QV, QW, QX, QY, QZ, Ja, Jb, Jc, Jd, Je, Jf, Jg, Jh, Ji, Jj, Jk, Jl, Jm, Jn, Jo, Jp, Jq, Jr, Js, Jt, Nat.reduceAdd]
        repeat (rw [join_e]; try simp (disch := first | omega | with_unfolding_all exact id rfl | with_unfolding_all exact Nat.le_of_ble_eq_true rfl | (simp only [Jd, Je, Jr, Js, Jt, Nat.reduceAdd, allOne, oneCell, Bool.and_self, Jc]; first | done | omega)) only [decide_eq_false q3, ↓Qa, ↓Qb, Qd, Qe, Qf, Qg, Qh, Qi, Qj, Qk, Ql, Qm, Qn, Qo, Qp, Qq, Qr, Qs, Qt, Qu, Qv, Qw, Qx, Qy, ptrTo, Qz, QA, QB, QC, QD, QE, QF, QG, QH, QI, QJ, QK, QL, QM, QN, QO, QP, QQ, QR, QS, QT, QU, QV, QW, QX, QY, QZ, Ja, Jb, Jc, Jd, Je, Jf, Jg, Jh, Ji, Jj, Jk, Jl, Jm, Jn, Jo, Jp, Jq, Jr, Js, Jt, Nat.reduceAdd])
        try simp (disch := first | omega | with_unfolding_all exact id rfl | with_unfolding_all exact Nat.le_of_ble_eq_true rfl | (simp only [Jd, Je, Jr, Js, Jt, Nat.reduceAdd, allOne, oneCell, Bool.and_self, Jc]; first | done | omega)) only [decide_eq_false q3, ↓Qa, ↓Qb, Qd, Qe, Qf, Qg, Qh, Qi, Qj, Qk, Ql, Qm, Qn, Qo, Qp, Qq, Qr, Qs, Qt, Qu, Qv, Qw, Qx, Qy, ptrTo, Qz, QA, QB, QC, QD, QE, QF, QG, QH, QI, QJ, QK, QL, QM, QN, QO, QP, QQ, QR, QS, QT, QU, QV, QW, QX, QY, QZ, Ja, Jb, Jc, Jd, Je, Jf, Jg, Jh, Ji, Jj, Jk, Jl, Jm, Jn, Jo, Jp, Jq, Jr, Js, Jt, Nat.reduceAdd]
        rw [oReady_e x1]
        exact hst
    · have d2 : decide ((awayN b t : Int) = ((nearF t seen).2 : Int)) = false := decide_eq_false (by omega)
      have hst := hno (if_neg (fun h => h.elim q1 fun h => q2 h.1))
      try simp (disch := first | omega | with_unfolding_all exact id rfl | with_unfolding_all exact Nat.le_of_ble_eq_true rfl | (simp only [Jd, Je, Jr, Js, Jt, Nat.reduceAdd, allOne, oneCell, Bool.and_self, Jc]; first | done | omega)) only [d2, ↓Qa, ↓Qb, Qd, Qe, Qf, Qg, Qh, Qi, Qj, Qk, Ql, Qm, Qn, Qo, Qp, Qq, Qr, Qs, Qt, Qu, Qv, Qw, Qx, Qy, ptrTo, Qz, QA, QB, QC, QD, QE, QF, QG, QH, QI, QJ, QK, QL, QM, QN, QO, QP, QQ, QR, QS, QT, QU, QV, QW, QX, QY, QZ, Ja, Jb, Jc, Jd, Je, Jf, Jg, Jh, Ji, Jj, Jk, Jl, Jm, Jn, Jo, Jp, Jq, Jr, Js, Jt, Nat.reduceAdd]
      repeat (rw [join_e]; try simp (disch := first | omega | with_unfolding_all exact id rfl | with_unfolding_all exact Nat.le_of_ble_eq_true rfl | (simp only [Jd, Je, Jr, Js, Jt, Nat.reduceAdd, allOne, oneCell, Bool.and_self, Jc]; first | done | omega)) only [d2, ↓Qa, ↓Qb, Qd, Qe, Qf, Qg, Qh, Qi, Qj, Qk, Ql, Qm, Qn, Qo, Qp, Qq, Qr, Qs, Qt, Qu, Qv, Qw, Qx, Qy, ptrTo, Qz, QA, QB, QC, QD, QE, QF, QG, QH, QI, QJ, QK, QL, QM, QN, QO, QP, QQ, QR, QS, QT, QU, QV, QW, QX, QY, QZ, Ja, Jb, Jc, Jd, Je, Jf, Jg, Jh, Ji, Jj, Jk, Jl, Jm, Jn, Jo, Jp, Jq, Jr, Js, Jt, Nat.reduceAdd])
      try simp (disch := first | omega | with_unfolding_all exact id rfl | with_unfolding_all exact Nat.le_of_ble_eq_true rfl | (simp only [Jd, Je, Jr, Js, Jt, Nat.reduceAdd, allOne, oneCell, Bool.and_self, Jc]; first | done | omega)) only [d2, ↓Qa, ↓Qb, Qd, Qe, Qf, Qg, Qh, Qi, Qj, Qk, Ql, Qm, Qn, Qo, Qp, Qq, Qr, Qs, Qt, Qu, Qv, Qw, Qx, Qy, ptrTo, Qz, QA, QB, QC, QD, QE, QF, QG, QH, QI, QJ, QK, QL, QM, QN, QO, QP, QQ, QR, QS, QT, QU, QV, QW, QX, QY, QZ, Ja, Jb, Jc, Jd, Je, Jf, Jg, Jh, Ji, Jj, Jk, Jl, Jm, Jn, Jo, Jp, Jq, Jr, Js, Jt, Nat.reduceAdd]
      rw [oReady_e x1]
      exact hst
end
end Go.Vit

/- Walks: the nearest blend that fits. -/
namespace Go.Vit
open Go Go.Proofs
attribute [local irreducible] runT loopS
theorem slice_cells {m : Mem} {v : Value} {l : List Int} (h : IL m v l) : v.cells.toList = [v] := by
  obtain ⟨p, c, rfl⟩ := h.ex
  rfl
section
variable {lf n L : Nat} {m : Mem} {k : Value → Mem → Option Unit}
theorem nearest38_sp {wv v : Value} {l b : List Int} {lo hi : Int} (hlf : 1000000 ≤ lf) (hL : L ≤ m.next) (hw : IL m wv l) (hv : IL m v b) (hb : b.length < 1000000)
    (hk : ∀ u m', Gt m m' → IN m' u (nrL l lo hi b) → k (.tuple ⟨[u, .int .i64 (nrE l lo hi b)]⟩) m' = some ()) :
    runT (tab lf) (n + 10) 38 [rcp wv lo hi, v] L m k = some () := by
  rw [r38]; dsimp only [S38, iofNat, inegSucc]
  have hcv := slice_cells hv
  rw [uc_e, uc_e, un0_e, abox_e, oRes_e, cells_agg, abox_e, oRes_e, hcv]
  have g1 := Mem.gt_push m ⟨1, rcC wv lo hi, none⟩
  have hA : At (m.push ⟨1, rcC wv lo hi, none⟩) m.next (rcC wv lo hi) := At.push m _
  have n1 : (m.push ⟨1, rcC wv lo hi, none⟩).next = m.next + 1 := Mem.push_next _ _
  generalize m.push ⟨1, rcC wv lo hi, none⟩ = m1 at g1 hA n1 ⊢
  have g2 := Mem.gt_push m1 ⟨1, [v], none⟩
  have hT := At.push m1 [v]
  have n2 : (m1.push ⟨1, [v], none⟩).next = m1.next + 1 := Mem.push_next _ _
  have hA2 := hA.mono g2
  generalize m1.push ⟨1, [v], none⟩ = m2 at g2 hT n2 hA2 ⊢
  unfold ptrTo
  have G2 := g1.trans g2
  have c0 : (rcC wv lo hi)[0]? = some wv := rfl
  have cv : ([v] : List Value)[0]? = some v := rfl
  rw [ldN_u, hA2.rd, rdn3, oOpt_e, ld1_u, hT.rd, rdo_e, cv, oOpt_e]
  refine blended_sp hlf (hw.mono G2) (hv.mono G2) hb fun m3 e3 => ?_
  have G3 := G2.trans e3
  have n3 := e3.next
  have hA3 := hA2.mono e3
  have hT3 := hT.mono e3
  by_cases h : bldE l lo hi b = 0
  · have hE : nrE l lo hi b = if fitL (nni l) b.length lo hi = [] then 12 else 0 := if_pos h
    obtain ⟨ws, t, rfl, rfl, q1, q2, q3, q4, q5⟩ := bldE_ok h
    rw [nni_ci, ci_length] at hE
    have hs := q5.le
    have hw : IN m wv ws := hw
    have hv : IN m v t := hv
    rw [h]
    have d11 : decide ((0 : Int) = 0) = true := by decide
    try simp (disch := first | omega | with_unfolding_all exact id rfl | with_unfolding_all exact Nat.le_of_ble_eq_true rfl | (simp only [Jd, Je, Jr, Js, Jt, Nat.reduceAdd, allOne, oneCell, Bool.and_self, Jc]; first | done | omega)) only [hT3.rd, cv, (hv.mono G3).ln, hA3.rd, ↓Qa, ↓Qb, ↓Qc, Qd, Qe, Qf, Qg, Qh, Qi, Qj, Qk, Ql, Qm, Qn, Qo, Qp, Qq, Qr, Qs, Qt, Qu, Qv, Qw, Qx, Qy, ptrTo, Qz, QA, QB, QC, QD, QE, QF, QG, QH, QI, QJ, QK, QL, QM, QN, QO, QP, QQ, QR, QS, QT, QU, QV, QW, QX, QY, QZ, Ja, Jb, Jc, Jd, Je, Jf, Jg, Jh, Ji, Jj, Jk, Jl, Jm, Jn, Jo, Jp, Jq, Jr, Js, Jt, Nat.reduceAdd]
    -- the boxes: best, far
    have g4 := Mem.gt_push m3 ⟨1, [.slice none 0 0], none⟩
    have b4 : (m3.push ⟨1, [.slice none 0 0], none⟩).rd m3.next = some ⟨1, [.slice none 0 0], none⟩ := Mem.rd_push _ _
    have n4 : (m3.push ⟨1, [.slice none 0 0], none⟩).next = m3.next + 1 := Mem.push_next _ _
    generalize m3.push ⟨1, [.slice none 0 0], none⟩ = m4 at g4 b4 n4 ⊢
    have g5 : Gt m4 ((m4.push ⟨1, [.int .i64 0], none⟩).put (m3.next + 1) (some ⟨1, [.int .i64 11], none⟩)) := Mem.put_gt (Mem.gt_push _ _) _ (by omega)
    have f5 : ((m4.push ⟨1, [.int .i64 0], none⟩).put (m3.next + 1) (some ⟨1, [.int .i64 11], none⟩)).rd (m3.next + 1) = some ⟨1, [.int .i64 11], none⟩ := Mem.rd_put_eq _ _ (by rw [Mem.push_next]; omega)
    have n5 : ((m4.push ⟨1, [.int .i64 0], none⟩).put (m3.next + 1) (some ⟨1, [.int .i64 11], none⟩)).next = m4.next + 1 := rfl
    generalize (m4.push ⟨1, [.int .i64 0], none⟩).put (m3.next + 1) (some ⟨1, [.int .i64 11], none⟩) = m5 at g5 f5 n5 ⊢
    refine fitting_sp fun m6 e6 hB hC n6 => ?_
    rw [oRange_e (hf := rfl)]
    generalize hcs : ([.pointer (some ⟨m3.next + 1, 0, none⟩), .pointer (some ⟨m3.next, 0, none⟩), .pointer (some ⟨m1.next, 0, none⟩)] : List Value) = CS
    have g7 := Mem.gt_push m6 ⟨Nat.succ (Nat.mul 2 38), CS, some []⟩
    have r7 : Rdy 38 (m6.push ⟨Nat.succ (Nat.mul 2 38), CS, some []⟩) m6.next CS := Mem.rd_push _ _
    have n7 : (m6.push ⟨Nat.succ (Nat.mul 2 38), CS, some []⟩).next = m6.next + 1 := Mem.push_next _ _
    generalize m6.push ⟨Nat.succ (Nat.mul 2 38), CS, some []⟩ = m7 at g7 r7 n7 ⊢
    have e57 := (g5.trans e6).trans g7
    have e37 := g4.trans e57
    have G7 := G3.trans e37
    have hwb : ∀ c, bid wv = some c → c < m.next := fun c hc => Sl.bid_lt hw (by rw [ci_length]; omega) c hc
    have htv : 0 < t.length → ∀ c, bid v = some c → c < m.next := fun h0 c hc => Sl.bid_lt hv (by rw [ci_length]; omega) c hc
    have f7 := ((g7.kept _ (by have := e6.next; omega)).trans (e6.kept _ (by omega))).trans f5
    have b7 := (e57.kept _ (by omega)).trans b4
    have hT7 := hT3.mono e37
    have htbl := hT.lt
    have e6n := e6.next
    refine fits91_sp (X := fun c => c = m6.next ∨ c = m3.next + 1 ∨ c = m3.next) (J := fun seen m' => NrJ (fun c => c = m6.next ∨ c = m3.next + 1 ∨ c = m3.next) m6.next (m3.next + 1) m3.next m1.next t seen m' ∧ ∀ x ∈ seen, x.length < 100) hlf (by omega) (hw.mono G7) q3 q2 hs (hB.mono g7) (hC.mono g7)
      (by rintro (h | h | h) <;> omega) (by rintro (h | h | h) <;> omega) (fun c hc => by have := hwb c hc; rintro (h | h | h) <;> omega) (by rintro c (h | h | h) <;> omega) ⟨⟨by rw [hcs]; exact r7, f7, _, b7, IL.nil _, fun c hc => by cases hc⟩, fun x hx => by cases hx⟩ ?_ ?_ ?_
    · rintro seen x y ⟨⟨j1, j2, bv, j3, j4, j5⟩, j6⟩ e
      exact ⟨⟨(e.kept _ j1.lt).trans j1, (e.kept _ (Mem.rd_lt j2)).trans j2, bv, (e.kept _ (Mem.rd_lt j3)).trans j3, j4.mono e, j5⟩, j6⟩
    · rintro m8 u b seen K e8 ⟨hj, hseen⟩ hsl hu hbb hub hK
      have hbl := hbb.len
      refine round38_sp (X := fun c => c = m6.next ∨ c = m3.next + 1 ∨ c = m3.next) (kk := 0) (N := 0) hlf (by omega) (by omega) (by omega) (fun c => Iff.rfl) (by omega) (by omega) (by omega) (by rintro (h | h | h) <;> omega) hj (hT7.monoX e8 (by rintro (h | h | h) <;> omega)) ((hv.mono G7).monoX e8 fun h0 c hc => by have := htv h0 c hc; rintro (h | h | h) <;> omega)
        (by omega) hu hub (by omega) (fun h0 c hc => by have := htv h0 c hc; rintro (h | h | h) <;> omega) hseen fun m9 e9 hj9 => ?_
      refine hK m9 e9 ⟨hj9, fun x hx => ?_⟩
      rcases List.mem_append.1 hx with hx | hx
      · exact hseen x hx
      · rw [List.mem_singleton] at hx; subst hx; omega
    · rintro m8 e8 ⟨⟨j1, j2, bv, j3, j4, j5⟩, j6⟩
      have n8 := e8.next
      rw [oEnd_e j1, Mem.rd_put _ _ _ _ (by omega), j2, rdo_e, List.getElem?_cons_zero, oOpt_e, oInt_gtr]
      have Gf : Gt m (m8.put m6.next none) := by
        refine Mem.put_gt (e8.gt G7 ?_) _ (by omega)
        rintro c (h | h | h) <;> omega
      by_cases hf : fitL ws t.length lo hi = []
      · rw [if_pos hf] at hE
        have hN : nrL (ci ws) lo hi (ci t) = [] := if_neg (by rw [hE]; decide)
        rw [hE, hN] at hk
        rw [hf, nearF_nil]
        exact hk _ _ Gf (IL.nil _)
      · rw [if_neg hf] at hE
        have hN : nrL (ci ws) lo hi (ci t) = (nearF t (fitL ws t.length lo hi)).1 := by unfold nrL; rw [if_pos hE, nni_ci, nni_ci, ci_length]
        obtain ⟨q6, q7, q8⟩ := nearF_min (t := t) (l := fitL ws t.length lo hi) (fun b hb => by
          have h1 := (away_le (fitL_bl q2 hs hb).1 q5).1
          omega) hf
        have h9 := (away_le (fitL_bl q2 hs q6).1 q5).1
        rw [hE, hN] at hk
        have d1 : decide ((10 : Int) < ((nearF t (fitL ws t.length lo hi)).2 : Int)) = false := decide_eq_false (by omega)
        rw [d1, oIf_f, Mem.rd_put _ _ _ _ (by omega), j3, rdo_e, List.getElem?_cons_zero, oOpt_e]
        exact hk _ _ Gf (j4.keep fun c hc => Mem.rd_put _ _ _ _ (fun h => j5 c hc (.inl h.symm)))
  · have hE : nrE l lo hi b = bldE l lo hi b := if_neg h
    have hN : nrL l lo hi b = [] := if_neg (by rw [hE]; exact h)
    rw [hE, hN] at hk
    try simp (disch := first | omega | with_unfolding_all exact id rfl | with_unfolding_all exact Nat.le_of_ble_eq_true rfl | (simp only [Jd, Je, Jr, Js, Jt, Nat.reduceAdd, allOne, oneCell, Bool.and_self, Jc]; first | done | omega)) only [decide_eq_false h, ↓Qa, ↓Qb, ↓Qc, Qd, Qe, Qf, Qg, Qh, Qi, Qj, Qk, Ql, Qm, Qn, Qo, Qp, Qq, Qr, Qs, Qt, Qu, Qv, Qw, Qx, Qy, ptrTo, Qz, QA, QB, QC, QD, QE, QF, QG, QH, QI, QJ, QK, QL, QM, QN, QO, QP, QQ, QR, QS, QT, QU, QV, QW, QX, QY, QZ, Ja, Jb, Jc, Jd, Je, Jf, Jg, Jh, Ji, Jj, Jk, Jl, Jm, Jn, Jo, Jp, Jq, Jr, Js, Jt, Nat.reduceAdd]
    exact hk _ _ G3 (IL.nil _)
end
end Go.Vit

/- Walks: a recipe by numbers. -/
namespace Go.Vit
open Go Go.Proofs
attribute [local irreducible] runT loopS
theorem u67 : Try.prog.underlying 67 = some (.array 10 5) := by kernel_rfl
theorem ts5 : tsize Try.prog 5 = some 1 := by kernel_rfl
theorem sl67 {b o q : Nat} (hq : q ≤ 10) : sl Try.prog 67 (.pointer (some ⟨b, o, none⟩)) none (some (.int .i64 (q : Int))) none = some (.slice (some ⟨b, o, some 0⟩) q 10) := by
  unfold sl aslice
  rw [u67]
  simp only [ts5, Option.map_some, Option.map_none]
  have h1 : abound (tri none (some (.int .i64 (q : Int))) none) (some (.tmp 1)) 10 = some q := by
    show anat (.int .i64 (Int.ofNat q)) = _
    simp only [anat, natK_eq]
  have h2 : abounds (tri none (some (.int .i64 (q : Int))) none) 10 10 none (some (.tmp 1)) none = some (0, q, 10) := by
    unfold abounds
    simp only [abound_none, h1, ble_t hq, ble_t (Nat.zero_le q), ble_t (Nat.le_refl 10), Bool.and_self]
  simp only [h2]
  rfl
/-- A recipe's numbers. -/
def mixC (a : Nat) (wl : List Nat) (c d : Nat) : List Value := .int .u8 (a : Int) :: ((wl.map fun (g : Nat) => .int .u8 (g : Int)) ++ [.int .u16 (c : Int), .int .u8 (d : Int)])
abbrev mixV (a : Nat) (wl : List Nat) (c d : Nat) : Value := .agg ⟨mixC a wl c d⟩
theorem mix_at {a c d : Nat} {wl : List Nat} {i : Nat} (h : i < wl.length) : (mixC a wl c d)[1 + i * 1]? = some (.int .u8 (wl[i] : Int)) := by
  unfold mixC
  rw [show 1 + i * 1 = i + 1 by omega, List.getElem?_cons_succ, List.getElem?_append_left (by rw [List.length_map]; exact h), List.getElem?_map, List.getElem?_eq_getElem h]
  rfl
theorem mix_lo {a c d : Nat} {wl : List Nat} (h : wl.length = 10) : (mixC a wl c d)[11]? = some (.int .u16 (c : Int)) := by
  unfold mixC
  rw [show 11 = 10 + 1 from rfl, List.getElem?_cons_succ, List.getElem?_append_right (by rw [List.length_map]; omega), List.length_map, h]
  rfl
theorem mix_wide {a c d : Nat} {wl : List Nat} (h : wl.length = 10) : (mixC a wl c d)[12]? = some (.int .u8 (d : Int)) := by
  unfold mixC
  rw [show 12 = 11 + 1 from rfl, List.getElem?_cons_succ, List.getElem?_append_right (by rw [List.length_map]; omega), List.length_map, h]
  rfl
theorem mix_len {a c d : Nat} {wl : List Nat} (h : wl.length = 10) : (mixC a wl c d).length = 13 := by
  unfold mixC; simp [h]
theorem mix_of {ns : List (IntKind × Int)} (h : ns.map (·.1) = [.u8, .u8, .u8, .u8, .u8, .u8, .u8, .u8, .u8, .u8, .u8, .u16, .u8] ∧ ∀ p ∈ ns, p.1.has p.2) : ∃ (a : Nat) (wl : List Nat) (c d : Nat), intsV ns = mixC a wl c d ∧ a < 256 ∧ wl.length = 10 ∧ (∀ g ∈ wl, g < 256) ∧ c < 65536 ∧ d < 256 := by
  obtain ⟨h1, h2⟩ := h
  have e := (List.take_append_drop 11 ns).symm
  have k1 : (ns.take 11).map (·.1) = List.replicate 11 .u8 := by rw [List.map_take, h1]; rfl
  have k2 : (ns.drop 11).map (·.1) = [.u16, .u8] := by rw [List.map_drop, h1]; rfl
  obtain ⟨l, q1, q2, q3⟩ := u8s_of (n := 11) k1 (fun p hp => h2 p (List.mem_of_mem_take hp))
  match l, q2 with
  | a :: wl, q2 =>
    match hd : ns.drop 11, k2 with
    | [(_, x), (_, y)], k2 =>
      simp only [List.map_cons, List.map_nil, List.cons.injEq, and_true] at k2
      obtain ⟨rfl, rfl⟩ := k2
      have hx := h2 (.u16, x) (List.mem_of_mem_drop (i := 11) (by rw [hd]; simp))
      have hy := h2 (.u8, y) (List.mem_of_mem_drop (i := 11) (by rw [hd]; simp))
      have hx1 : IntKind.u16.min ≤ x ∧ x ≤ IntKind.u16.max := hx
      have hy1 : IntKind.u8.min ≤ y ∧ y ≤ IntKind.u8.max := hy
      have hx2 : (0 : Int) ≤ x := hx1.1
      have hx3 : x ≤ (65535 : Int) := hx1.2
      have hy2 : (0 : Int) ≤ y := hy1.1
      have hy3 : y ≤ (255 : Int) := hy1.2
      refine ⟨a, wl, x.toNat, y.toNat, ?_, q3 _ (List.mem_cons_self ..), by simpa using q2, fun g hg => q3 g (List.mem_cons_of_mem _ hg), by omega, by omega⟩
      have hi : intsV ns = intsV (ns.take 11) ++ intsV (ns.drop 11) := by
        unfold intsV; rw [← List.map_append, List.take_append_drop]
      rw [hi, q1, hd]
      unfold mixC intsV
      rw [show ((x.toNat : Nat) : Int) = x by omega, show ((y.toNat : Nat) : Int) = y by omega]
      rfl
section
variable {lf n L : Nat} {m : Mem} {k : Value → Mem → Option Unit}
theorem made_sp {a c d most : Nat} {wl : List Nat} (hlf : 1000000 ≤ lf) (hL : L ≤ m.next) (ha : a < 256) (hwl : wl.length = 10) (hwg : ∀ g ∈ wl, g < 256) (hc : c < 65536) (hd : d < 256) (hm0 : 0 < most) (hm10 : most ≤ 10)
    (hk : ∀ wv m' ws (lo hi : Int), Gt m m' → IN m' wv ws → 1 ≤ ws.length → ws.length ≤ most → (∀ w ∈ ws, w ≤ 50) → -5 ≤ lo → lo ≤ hi → hi ≤ 320 → k (rcp wv lo hi) m' = some ()) :
    runT (tab lf) (n + 1) 52 [mixV a wl c d, .int .i64 (most : Int)] L m k = some () := by
  rw [r52]; dsimp only [S52, iofNat, inegSucc]
  rw [uc_e, uc_e, un0_e, abox_e, oRes_e, cells_agg]
  have g1 := Mem.gt_push m ⟨1, mixC a wl c d, none⟩
  have hA : At (m.push ⟨1, mixC a wl c d, none⟩) m.next (mixC a wl c d) := At.push m _
  have n1 : (m.push ⟨1, mixC a wl c d, none⟩).next = m.next + 1 := Mem.push_next _ _
  generalize m.push ⟨1, mixC a wl c d, none⟩ = m1 at g1 hA n1 ⊢
  unfold ptrTo
  have c0 : (mixC a wl c d)[0]? = some (.int .u8 (a : Int)) := rfl
  rw [anew_eq, oRes_e]
  have g2 := Mem.gt_push m1 ⟨1, [.slice none 0 0, .int .i64 0, .int .i64 0], none⟩
  have hB := At.push m1 [.slice none 0 0, .int .i64 0, .int .i64 0]
  have n2 : (m1.push ⟨1, [.slice none 0 0, .int .i64 0, .int .i64 0], none⟩).next = m1.next + 1 := Mem.push_next _ _
  have hA2 := hA.mono g2
  generalize m1.push ⟨1, [.slice none 0 0, .int .i64 0, .int .i64 0], none⟩ = m2 at g2 hB n2 hA2 ⊢
  rw [anew_eq, oRes_e]
  have g3 := Mem.gt_push m2 ⟨1, [.slice none 0 0, .int .i64 0, .int .i64 0], none⟩
  have hC := At.push m2 [.slice none 0 0, .int .i64 0, .int .i64 0]
  have n3 : (m2.push ⟨1, [.slice none 0 0, .int .i64 0, .int .i64 0], none⟩).next = m2.next + 1 := Mem.push_next _ _
  have hA3 := hA2.mono g3
  have hB3 := hB.mono g3
  generalize m2.push ⟨1, [.slice none 0 0, .int .i64 0, .int .i64 0], none⟩ = m3 at g3 hC n3 hA3 hB3 ⊢
  have G3 := (g1.trans g2).trans g3
  have hmod := Nat.mod_lt a hm0
  rw [fa_e, oOpt_e, fa_e, oOpt_e, ld1_u, hA3.rd, rdo_e, show 0 + 0 = 0 from rfl, c0, oOpt_e, oCv_nat (by omega), oInt_remN hm0, show (1 : Int) = ((1 : Nat) : Int) from rfl, oInt_addN (by omega)]
  have hq1 : 1 ≤ 1 + a % most := by omega
  have hq2 : 1 + a % most ≤ most := by have := Nat.mod_lt a hm0; omega
  generalize 1 + a % most = q at hq1 hq2 ⊢
  rw [sl67 (by omega), oOpt_e, ln_e, oOpt_e]
  refine loop_up q (fun i vs m' => ∃ w, vs = [.int .i64 (i : Int)] ∧ Gt m m' ∧ m3.next ≤ m'.next ∧ At m' m.next (mixC a wl c d) ∧ At m' m1.next [.slice none 0 0, .int .i64 0, .int .i64 0] ∧ At m' m2.next [w, .int .i64 0, .int .i64 0] ∧ GN m3.next m' w ((wl.take i).map (· % 51))) (by omega) ⟨_, rfl, G3, Nat.le_refl _, hA3, hB3, hC, GN.nil _ _⟩ ?_
  rintro i vs m4 hi' ⟨w, rfl, e4, n4, hA4, hB4, hC4, hw⟩ self hself
  have hlen : ((wl.take i).map (· % 51)).length = i := by rw [List.length_map, List.length_take]; omega
  have cw : ([w, .int .i64 0, .int .i64 0] : List Value)[0]? = some w := rfl
  rw [uc_e, oInt_lss]
  have c51 : (51 : Int) = ((51 : Nat) : Int) := rfl
  have c260 : (260 : Int) = ((260 : Nat) : Int) := rfl
  have c60 : (60 : Int) = ((60 : Nat) : Int) := rfl
  refine oIf_dec (fun h => ?_) (fun h => ?_)
  · have hil : i < wl.length := by omega
    have hg := hwg _ (List.getElem_mem hil)
    rw [ia_e (show i < q by omega), oOpt_e, ld1_u, hA4.rd, rdo_e, show 0 + 1 + i * 1 = 1 + i * 1 by omega, mix_at hil, oOpt_e, fa_e, oOpt_e, ld1_u, hC4.rd, rdo_e, show 0 + 0 = 0 from rfl, cw, oOpt_e, oCv_nat (by omega), c51, oInt_remN (by omega), bs22, oRes_e]
    obtain ⟨u, m5, s1, s2, s3, s4, s5⟩ := GN.snoc3 (P := Try.prog) (t := 22) (L := L) (m0 := m) (wl[i] % 51) ael22 (by omega) hw (by omega) (by omega) e4 (by omega)
    have hfw : ∀ b, bid w = some b → m3.next ≤ b := hw.fr
    have hC5 : m5.rd m2.next = some ⟨1, [w, .int .i64 0, .int .i64 0], none⟩ := (s5 _ (by omega) (fun hb => by have := hfw _ hb; omega)).trans hC4
    have hA5 := (s5 m.next (by omega) (fun hb => by have := hfw _ hb; omega)).trans hA4
    have hB5 := (s5 m1.next (by omega) (fun hb => by have := hfw _ hb; omega)).trans hB4
    obtain ⟨pu, cu, eu⟩ := s2.ex
    rw [s1, oRes_e, oOpt_e, st_set hC5 (Nat.zero_lt_succ _) (by omega) (by rw [eu]; rfl) (by rw [eu]; rfl), oRes_e, oInt_addN (by omega)]
    refine hself (by omega) _ _ ⟨u, rfl, Mem.put_gt s3 _ (by omega), ?_, (Mem.rd_put _ _ _ _ (by omega)).trans hA5, (Mem.rd_put _ _ _ _ (by omega)).trans hB5, Mem.rd_put_eq _ _ (Mem.rd_lt hC5), ?_⟩
    · rw [Mem.put_next']; omega
    · rw [List.take_add_one, List.getElem?_eq_getElem hil, Option.toList_some, List.map_append, List.map_cons, List.map_nil]
      exact (s2.keepL fun c h1 _ => Mem.rd_put _ _ _ _ (by omega)).le n4
  · have hiq : i = q := by omega
    subst hiq
    obtain ⟨pu, cu, eu⟩ := hw.ex
    have hlo : ((c % 260 : Nat) : Int) - 5 ≤ 254 := by omega
    rw [fa_e, oOpt_e, ld1_u, hA4.rd, rdo_e, show 0 + 11 = 11 from rfl, mix_lo hwl, oOpt_e, oCv_nat (by omega), c260, oInt_remN (by omega), oInt_sub ⟨by omega, by omega⟩]
    have hlo2 : -5 ≤ ((c % 260 : Nat) : Int) - 5 := by omega
    generalize ((c % 260 : Nat) : Int) - 5 = lo at hlo hlo2 ⊢
    rw [fa_e, oOpt_e, show 0 + 1 = 1 from rfl, st_int hC4 (by simp) (by omega), oRes_e]
    have hC5 : At (m4.put m2.next (some ⟨1, [w, .int .i64 0, .int .i64 0].set 1 (.int .i64 lo), none⟩)) m2.next (rcC w lo 0) := Mem.rd_put_eq _ _ (Mem.rd_lt hC4)
    have hA5 : At (m4.put m2.next (some ⟨1, [w, .int .i64 0, .int .i64 0].set 1 (.int .i64 lo), none⟩)) m.next (mixC a wl c d) := (Mem.rd_put _ _ _ _ (by omega)).trans hA4
    have hB5 : At (m4.put m2.next (some ⟨1, [w, .int .i64 0, .int .i64 0].set 1 (.int .i64 lo), none⟩)) m1.next [.slice none 0 0, .int .i64 0, .int .i64 0] := (Mem.rd_put _ _ _ _ (by omega)).trans hB4
    have e5 : Gt m (m4.put m2.next (some ⟨1, [w, .int .i64 0, .int .i64 0].set 1 (.int .i64 lo), none⟩)) := Mem.put_gt e4 _ (by omega)
    have hw5 : GN m3.next (m4.put m2.next (some ⟨1, [w, .int .i64 0, .int .i64 0].set 1 (.int .i64 lo), none⟩)) w ((wl.take i).map (· % 51)) := hw.keepL fun c h1 _ => Mem.rd_put _ _ _ _ (by omega)
    generalize m4.put m2.next (some ⟨1, [w, .int .i64 0, .int .i64 0].set 1 (.int .i64 lo), none⟩) = m5 at hC5 hA5 hB5 e5 hw5 ⊢
    have cl : (rcC w lo 0)[1]? = some (.int .i64 lo) := rfl
    rw [oOpt_e, ld1_u, hC5.rd, rdo_e, cl, oOpt_e, fa_e, oOpt_e, show 0 + 12 = 12 from rfl, ld1_u, hA5.rd, rdo_e, mix_wide hwl, oOpt_e, oCv_nat (by omega), c60, oInt_remN (by omega), oInt_add ⟨by omega, by omega⟩]
    have hhi : lo ≤ lo + ((d % 60 : Nat) : Int) ∧ lo + ((d % 60 : Nat) : Int) ≤ 320 := by omega
    generalize lo + ((d % 60 : Nat) : Int) = hi at hhi ⊢
    rw [fa_e, oOpt_e, show 0 + 2 = 2 from rfl, st_int hC5 (by simp) (by omega), oRes_e]
    have hC6 : At (m5.put m2.next (some ⟨1, (rcC w lo 0).set 2 (.int .i64 hi), none⟩)) m2.next (rcC w lo hi) := Mem.rd_put_eq _ _ hC5.lt
    have hB6 : At (m5.put m2.next (some ⟨1, (rcC w lo 0).set 2 (.int .i64 hi), none⟩)) m1.next [.slice none 0 0, .int .i64 0, .int .i64 0] := (Mem.rd_put _ _ _ _ (by omega)).trans hB5
    have e6 : Gt m (m5.put m2.next (some ⟨1, (rcC w lo 0).set 2 (.int .i64 hi), none⟩)) := Mem.put_gt e5 _ (by omega)
    have hw6 : GN m3.next (m5.put m2.next (some ⟨1, (rcC w lo 0).set 2 (.int .i64 hi), none⟩)) w ((wl.take i).map (· % 51)) := hw5.keepL fun c h1 _ => Mem.rd_put _ _ _ _ (by omega)
    generalize m5.put m2.next (some ⟨1, (rcC w lo 0).set 2 (.int .i64 hi), none⟩) = m6 at hC6 hB6 e6 hw6 ⊢
    have hst : st1 3 L m6 (.pointer (some ⟨m1.next, 0, none⟩)) (rcp w lo hi) = some (Go.undef, m6.put m1.next (some ⟨1, rcC w lo hi, none⟩)) := by
      rw [st1_u, hB6.rd, cells_agg, stw_e (s := 3) (by omega) rfl (Nat.le_refl _) (by rw [eu]; rfl)]
      rfl
    rw [ldN_u, hC6.rd, rdn3, oOpt_e, hst, oRes_e, ldN_u, Mem.rd_put_eq _ _ hB6.lt, rdn3, oOpt_e]
    refine hk w _ _ lo hi (Mem.put_gt e6 _ (by omega)) (hw6.keepL fun c h1 _ => Mem.rd_put _ _ _ _ (by omega)).inn (by omega) (by omega) (fun x hx => ?_) hlo2 hhi.1 hhi.2
    obtain ⟨y, _, rfl⟩ := List.mem_map.1 hx
    have := Nat.mod_lt y (show 0 < 51 by omega)
    omega
end
end Go.Vit

/- Walks: the nearest blend by the reference. -/
namespace Go.Vit
open Go Go.Proofs
attribute [local irreducible] runT loopS
section
variable {lf n L : Nat} {m : Mem} {k : Value → Mem → Option Unit}
theorem smaller_sp {v u : Value} {a b : List Nat} (hlf : 1000000 ≤ lf) (hv : IN m v a) (hu : IN m u b) (hl : a.length < 1000000) (hab : a.length = b.length) (hk : k (.bool (decide (cmpL a b < 0))) m = some ()) : runT (tab lf) (n + 1) 83 [v, u] L m k = some () := by
  rw [r83]; dsimp only [S83, iofNat, inegSucc]
  try simp (disch := first | omega | with_unfolding_all exact id rfl | with_unfolding_all exact Nat.le_of_ble_eq_true rfl | (simp only [Jd, Je, Jr, Js, Jt, Nat.reduceAdd, allOne, oneCell, Bool.and_self, Jc]; first | done | omega)) only [↓Qa, ↓Qb, ↓Qc, Qd, Qe, Qf, Qg, Qh, Qi, Qj, Qk, Ql, Qm, Qn, Qo, Qp, Qq, Qr, Qs, Qt, Qu, Qv, Qw, Qx, Qy, ptrTo, Qz, QA, QB, QC, QD, QE, QF, QG, QH, QI, QJ, QK, QL, QM, QN, QO, QP, QQ, QR, QS, QT, QU, QV, QW, QX, QY, QZ, Ja, Jb, Jc, Jd, Je, Jf, Jg, Jh, Ji, Jj, Jk, Jl, Jm, Jn, Jo, Jp, Jq, Jr, Js, Jt, Nat.reduceAdd]
  refine loop_up a.length (fun i vs m' => vs = [.int .i64 (i : Int)] ∧ m' = m ∧ cmpL a b = cmpL (a.drop i) (b.drop i)) (by omega) ⟨rfl, rfl, rfl⟩ ?_
  rintro i vs m' hi ⟨rfl, rfl, hI⟩ self hself
  try simp (disch := first | omega | with_unfolding_all exact id rfl | with_unfolding_all exact Nat.le_of_ble_eq_true rfl | (simp only [Jd, Je, Jr, Js, Jt, Nat.reduceAdd, allOne, oneCell, Bool.and_self, Jc]; first | done | omega)) only [hv.ln, ↓Qa, ↓Qb, ↓Qc, Qd, Qe, Qf, Qg, Qh, Qi, Qj, Qk, Ql, Qm, Qn, Qo, Qp, Qq, Qr, Qs, Qt, Qu, Qv, Qw, Qx, Qy, ptrTo, Qz, QA, QB, QC, QD, QE, QF, QG, QH, QI, QJ, QK, QL, QM, QN, QO, QP, QQ, QR, QS, QT, QU, QV, QW, QX, QY, QZ, Ja, Jb, Jc, Jd, Je, Jf, Jg, Jh, Ji, Jj, Jk, Jl, Jm, Jn, Jo, Jp, Jq, Jr, Js, Jt, Nat.reduceAdd]
  refine oIf_dec (fun h => ?_) (fun h => ?_)
  · have hil : i < a.length := by omega
    have hil2 : i < b.length := by omega
    rw [List.drop_eq_getElem_cons hil, List.drop_eq_getElem_cons hil2] at hI
    have hI2 : cmpL a b = if a[i] < b[i] then -1 else if b[i] < a[i] then 1 else cmpL (a.drop (i + 1)) (b.drop (i + 1)) := hI
    try simp (disch := first | omega | with_unfolding_all exact id rfl | with_unfolding_all exact Nat.le_of_ble_eq_true rfl | (simp only [Jd, Je, Jr, Js, Jt, Nat.reduceAdd, allOne, oneCell, Bool.and_self, Jc]; first | done | omega)) only [hv.ia hil, hv.ld hil, hu.ia hil2, hu.ld hil2, ↓Qa, ↓Qb, ↓Qc, Qd, Qe, Qf, Qg, Qh, Qi, Qj, Qk, Ql, Qm, Qn, Qo, Qp, Qq, Qr, Qs, Qt, Qu, Qv, Qw, Qx, Qy, ptrTo, Qz, QA, QB, QC, QD, QE, QF, QG, QH, QI, QJ, QK, QL, QM, QN, QO, QP, QQ, QR, QS, QT, QU, QV, QW, QX, QY, QZ, Ja, Jb, Jc, Jd, Je, Jf, Jg, Jh, Ji, Jj, Jk, Jl, Jm, Jn, Jo, Jp, Jq, Jr, Js, Jt, Nat.reduceAdd]
    by_cases q0 : a[i] = b[i]
    · have d0 : decide ((a[i] : Int) = (b[i] : Int)) = true := decide_eq_true (by omega)
      rw [if_neg (by omega), if_neg (by omega)] at hI2
      try simp (disch := first | omega | with_unfolding_all exact id rfl | with_unfolding_all exact Nat.le_of_ble_eq_true rfl | (simp only [Jd, Je, Jr, Js, Jt, Nat.reduceAdd, allOne, oneCell, Bool.and_self, Jc]; first | done | omega)) only [d0, ↓Qa, ↓Qb, ↓Qc, Qd, Qe, Qf, Qg, Qh, Qi, Qj, Qk, Ql, Qm, Qn, Qo, Qp, Qq, Qr, Qs, Qt, Qu, Qv, Qw, Qx, Qy, ptrTo, Qz, QA, QB, QC, QD, QE, QF, QG, QH, QI, QJ, QK, QL, QM, QN, QO, QP, QQ, QR, QS, QT, QU, QV, QW, QX, QY, QZ, Ja, Jb, Jc, Jd, Je, Jf, Jg, Jh, Ji, Jj, Jk, Jl, Jm, Jn, Jo, Jp, Jq, Jr, Js, Jt, Nat.reduceAdd]
      rw [oInt_add ⟨by omega, by omega⟩]
      exact hself hil _ _ ⟨rfl, rfl, hI2⟩
    · have d0 : decide ((a[i] : Int) = (b[i] : Int)) = false := decide_eq_false (by omega)
      try simp (disch := first | omega | with_unfolding_all exact id rfl | with_unfolding_all exact Nat.le_of_ble_eq_true rfl | (simp only [Jd, Je, Jr, Js, Jt, Nat.reduceAdd, allOne, oneCell, Bool.and_self, Jc]; first | done | omega)) only [d0, ↓Qa, ↓Qb, ↓Qc, Qd, Qe, Qf, Qg, Qh, Qi, Qj, Qk, Ql, Qm, Qn, Qo, Qp, Qq, Qr, Qs, Qt, Qu, Qv, Qw, Qx, Qy, ptrTo, Qz, QA, QB, QC, QD, QE, QF, QG, QH, QI, QJ, QK, QL, QM, QN, QO, QP, QQ, QR, QS, QT, QU, QV, QW, QX, QY, QZ, Ja, Jb, Jc, Jd, Je, Jf, Jg, Jh, Ji, Jj, Jk, Jl, Jm, Jn, Jo, Jp, Jq, Jr, Js, Jt, Nat.reduceAdd]
      by_cases q1 : a[i] < b[i]
      · rw [if_pos q1] at hI2
        rw [hI2, show decide ((-1 : Int) < 0) = true from rfl] at hk
        rw [decide_eq_true (show (a[i] : Int) < (b[i] : Int) by omega)]
        exact hk
      · rw [if_neg q1, if_pos (by omega)] at hI2
        rw [hI2, show decide ((1 : Int) < 0) = false from rfl] at hk
        rw [decide_eq_false (show ¬ (a[i] : Int) < (b[i] : Int) by omega)]
        exact hk
  · rw [List.drop_eq_nil_of_le (by omega), show b.drop i = [] from List.drop_eq_nil_of_le (by omega)] at hI
    rw [hI, show decide (cmpL [] [] < 0) = false from rfl] at hk
    exact hk
theorem nearest39_sp {wv v : Value} {l b : List Int} {lo hi : Int} (hlf : 1000000 ≤ lf) (hL : L ≤ m.next) (hw : IL m wv l) (hv : IL m v b) (hb : b.length < 1000000)
    (hk : ∀ u m', Gt m m' → IN m' u (nrL l lo hi b) → k (.tuple ⟨[u, .int .i64 (nrE l lo hi b)]⟩) m' = some ()) :
    runT (tab lf) (n + 15) 39 [rcp wv lo hi, v] L m k = some () := by
  rw [r39]; dsimp only [S39, iofNat, inegSucc]
  rw [uc_e, uc_e, un0_e, abox_e, oRes_e, cells_agg]
  have g1 := Mem.gt_push m ⟨1, rcC wv lo hi, none⟩
  have hA : At (m.push ⟨1, rcC wv lo hi, none⟩) m.next (rcC wv lo hi) := At.push m _
  have n1 : (m.push ⟨1, rcC wv lo hi, none⟩).next = m.next + 1 := Mem.push_next _ _
  generalize m.push ⟨1, rcC wv lo hi, none⟩ = m1 at g1 hA n1 ⊢
  unfold ptrTo
  have c0 : (rcC wv lo hi)[0]? = some wv := rfl
  have c1 : (rcC wv lo hi)[0 + 1]? = some (.int .i64 lo) := rfl
  have c2 : (rcC wv lo hi)[0 + 2]? = some (.int .i64 hi) := rfl
  rw [ldN_u, hA.rd, rdn3, oOpt_e]
  refine blended78_sp hlf (hw.mono g1) (hv.mono g1) hb fun m2 e2 => ?_
  have G := g1.trans e2
  have n2 := e2.next
  have hA2 := hA.mono e2
  have hw2 := hw.mono G
  have hv2 := hv.mono G
  by_cases h : bldE l lo hi b = 0
  · have hE : nrE l lo hi b = if fitL (nni l) b.length lo hi = [] then 12 else 0 := if_pos h
    obtain ⟨ws, t, rfl, rfl, q1, q2, q3, q4, q5⟩ := bldE_ok h
    rw [nni_ci, ci_length] at hE
    have hs := q5.le
    have hw2 : IN m2 wv ws := hw2
    have hv2 : IN m2 v t := hv2
    rw [h]
    try simp (disch := first | omega | with_unfolding_all exact id rfl | with_unfolding_all exact Nat.le_of_ble_eq_true rfl | (simp only [Jd, Je, Jr, Js, Jt, Nat.reduceAdd, allOne, oneCell, Bool.and_self, Jc]; first | done | omega)) only [hA2.rd, c0, hw2.ln, hv2.ln, ↓Qa, ↓Qb, Qd, Qe, Qf, Qg, Qh, Qi, Qj, Qk, Ql, Qm, Qn, Qo, Qp, Qq, Qr, Qs, Qt, Qu, Qv, Qw, Qx, Qy, ptrTo, Qz, QA, QB, QC, QD, QE, QF, QG, QH, QI, QJ, QK, QL, QM, QN, QO, QP, QQ, QR, QS, QT, QU, QV, QW, QX, QY, QZ, Ja, Jb, Jc, Jd, Je, Jf, Jg, Jh, Ji, Jj, Jk, Jl, Jm, Jn, Jo, Jp, Jq, Jr, Js, Jt, Nat.reduceAdd]
    rw [show n + 14 = (n + 12 - ws.length) + ws.length + 2 by omega]
    refine round_sp hlf ws.length q2 hs (by omega) fun u m3 e3 hu => ?_
    rw [show (n + 12 - ws.length) + ws.length + 2 = n + 14 by omega]
    have n3 := e3.next
    have hrl := rnd_len q2 hs
    have hcl := chs_le (n := ws.length) (k := t.length) (by omega)
    have hrb := rnd_bl ws.length t.length hs
    have hfr := fitL_rnd (lo := lo) (hi := hi) q2 hs
    have huL := hu.ll
    generalize rnd ws.length t.length = R at hu hrl hrb huL hfr
    have hG3 := G.trans e3
    have hfin : ∀ (bv : Value) (m' : Mem), Gt m3 m' → IN m' bv (nearF t (R.filter (fitB ws lo hi))).1 → (oIf (.bool (!decide (R.filter (fitB ws lo hi) ≠ []))) (k (.tuple ⟨[.slice none 0 0, .int .i64 12]⟩) m') (k (.tuple ⟨[bv, .int .i64 0]⟩) m')) = some () := fun bv m' e4 hbv => by
      rw [← hfr] at hbv ⊢
      by_cases hf : fitL ws t.length lo hi = []
      · rw [if_pos hf] at hE
        have hN : nrL (ci ws) lo hi (ci t) = [] := if_neg (by rw [hE]; decide)
        rw [hE, hN] at hk
        rw [decide_eq_false (fun h => h hf)]
        exact hk _ _ (hG3.trans e4) (IL.nil _)
      · rw [if_neg hf] at hE
        have hN : nrL (ci ws) lo hi (ci t) = (nearF t (fitL ws t.length lo hi)).1 := by unfold nrL; rw [if_pos hE, nni_ci, nni_ci, ci_length]
        rw [hE, hN] at hk
        rw [decide_eq_true hf]
        exact hk _ _ (hG3.trans e4) hbv
    refine loop_up R.length (fun i vs m' => ∃ bv, vs = [bv, .bool (decide ((R.take i).filter (fitB ws lo hi) ≠ [])), .int .i64 (i : Int)] ∧ Gt m3 m' ∧ IN m' bv (nearF t ((R.take i).filter (fitB ws lo hi))).1) (by omega) ⟨_, rfl, Gt.refl _, IL.nil _⟩ ?_
    rintro i vs m4 hi' ⟨bv, rfl, e4, hbv⟩ self hself
    have n4 := e4.next
    have hu4 := huL.mono e4
    have hA4 := (hA2.mono e3).mono e4
    have hw4 := (hw2.mono e3).mono e4
    have hv4 := (hv2.mono e3).mono e4
    try simp (disch := first | omega | with_unfolding_all exact id rfl | with_unfolding_all exact Nat.le_of_ble_eq_true rfl | (simp only [Jd, Je, Jr, Js, Jt, Nat.reduceAdd, allOne, oneCell, Bool.and_self, Jc]; first | done | omega)) only [hu4.ln, ↓Qa, ↓Qb, Qd, Qe, Qf, Qg, Qh, Qi, Qj, Qk, Ql, Qm, Qn, Qo, Qp, Qq, Qr, Qs, Qt, Qu, Qv, Qw, Qx, Qy, ptrTo, Qz, QA, QB, QC, QD, QE, QF, QG, QH, QI, QJ, QK, QL, QM, QN, QO, QP, QQ, QR, QS, QT, QU, QV, QW, QX, QY, QZ, Ja, Jb, Jc, Jd, Je, Jf, Jg, Jh, Ji, Jj, Jk, Jl, Jm, Jn, Jo, Jp, Jq, Jr, Js, Jt, Nat.reduceAdd]
    refine oIf_dec (fun hh => ?_) (fun hh => ?_)
    · have hil : i < R.length := by omega
      obtain ⟨x, x1, x2⟩ := hu4.ld hil
      have hbl := hrb _ (List.getElem_mem hil)
      have hst : (R.take (i + 1)).filter (fitB ws lo hi) = (R.take i).filter (fitB ws lo hi) ++ if fitB ws lo hi R[i] = true then [R[i]] else [] := by
        rw [List.take_add_one, List.getElem?_eq_getElem hil, Option.toList_some, List.filter_append]
        congr 1
        by_cases hb : fitB ws lo hi R[i] = true <;> simp [hb]
      have hf6 : ∀ K : Value → Option Unit, oInt .add .i64 (.int .i64 (i : Int)) (.int .i64 1) K = K (.int .i64 ((i + 1 : Nat) : Int)) := fun K => by rw [oInt_add ⟨by omega, by omega⟩]; rfl
      rw [join_e, hA4.rd, rdn3, oOpt_e, hu4.ia hil, oOpt_e, x1, oOpt_e]
      refine weight79_sp hlf hw4 q3 q2 x2 hbl fun m5 e5 => ?_
      have n5 := e5.next
      have hA5 := hA4.mono e5
      have e35 := e4.trans e5
      have hu5 := hu4.mono e5
      have hv5 := hv4.mono e5
      have hbv5 := hbv.mono e5
      have hx5 := x2.mono e5
      try simp (disch := first | omega | with_unfolding_all exact id rfl | with_unfolding_all exact Nat.le_of_ble_eq_true rfl | (simp only [Jd, Je, Jr, Js, Jt, Nat.reduceAdd, allOne, oneCell, Bool.and_self, Jc]; first | done | omega)) only [hA5.rd, c1, c2, ↓Qa, ↓Qb, Qd, Qe, Qf, Qg, Qh, Qi, Qj, Qk, Ql, Qm, Qn, Qo, Qp, Qq, Qr, Qs, Qt, Qu, Qv, Qw, Qx, Qy, ptrTo, Qz, QA, QB, QC, QD, QE, QF, QG, QH, QI, QJ, QK, QL, QM, QN, QO, QP, QQ, QR, QS, QT, QU, QV, QW, QX, QY, QZ, Ja, Jb, Jc, Jd, Je, Jf, Jg, Jh, Ji, Jj, Jk, Jl, Jm, Jn, Jo, Jp, Jq, Jr, Js, Jt, Nat.reduceAdd]
      refine in_sp _ _ _ ?_
      cases hbB : fitB ws lo hi R[i] with
      | false =>
        have hb' : decide (lo ≤ (wgt ws R[i] : Int) ∧ (wgt ws R[i] : Int) ≤ hi) = false := hbB
        rw [hbB, if_neg (by decide), List.append_nil] at hst
        try simp (disch := first | omega | with_unfolding_all exact id rfl | with_unfolding_all exact Nat.le_of_ble_eq_true rfl | (simp only [Jd, Je, Jr, Js, Jt, Nat.reduceAdd, allOne, oneCell, Bool.and_self, Jc]; first | done | omega)) only [hb', hf6, ↓Qa, ↓Qb, Qd, Qe, Qf, Qg, Qh, Qi, Qj, Qk, Ql, Qm, Qn, Qo, Qp, Qq, Qr, Qs, Qt, Qu, Qv, Qw, Qx, Qy, ptrTo, Qz, QA, QB, QC, QD, QE, QF, QG, QH, QI, QJ, QK, QL, QM, QN, QO, QP, QQ, QR, QS, QT, QU, QV, QW, QX, QY, QZ, Ja, Jb, Jc, Jd, Je, Jf, Jg, Jh, Ji, Jj, Jk, Jl, Jm, Jn, Jo, Jp, Jq, Jr, Js, Jt, Nat.reduceAdd]
        exact hself hil _ _ ⟨bv, by rw [hst], e35, by rw [hst]; exact hbv5⟩
      | true =>
        have hb' : decide (lo ≤ (wgt ws R[i] : Int) ∧ (wgt ws R[i] : Int) ≤ hi) = true := hbB
        rw [hbB, if_pos rfl] at hst
        have hbl2 := hbl.len
        have hdl := (away_le hbl q5).1
        have hseen : ∀ c ∈ (R.take i).filter (fitB ws lo hi), Bl ws.length t.length c := fun c hc => hrb c (List.mem_of_mem_take (List.mem_filter.1 hc).1)
        obtain ⟨x5, x51, x52⟩ := hu5.ld hil
        generalize (R.take i).filter (fitB ws lo hi) = F at hst hbv hbv5 hseen
        have hsn := nearF_snoc t F R[i]
        rw [← hst] at hsn
        have d1 : decide ((R.take (i + 1)).filter (fitB ws lo hi) ≠ []) = true := by
          rw [hst]; exact decide_eq_true (by simp)
        rw [d1] at hself
        have hup : ∀ (m' : Mem) (x' : Value), Gt m3 m' → IN m' x' R[i] → nearS t (nearF t F) R[i] = (R[i], awayN R[i] t) → self [x', .bool true, .int .i64 ((i + 1 : Nat) : Int)] m' = some () := fun m' x' e hx' hS => by
          refine hself hil _ _ ⟨x', rfl, e, ?_⟩
          rw [hsn, hS]; exact hx'
        have hst2 : ∀ (m' : Mem), Gt m3 m' → IN m' bv (nearF t F).1 → nearS t (nearF t F) R[i] = nearF t F → self [bv, .bool true, .int .i64 ((i + 1 : Nat) : Int)] m' = some () := fun m' e hx' hS => by
          refine hself hil _ _ ⟨bv, rfl, e, ?_⟩
          rw [hsn, hS]; exact hx'
        try simp (disch := first | omega | with_unfolding_all exact id rfl | with_unfolding_all exact Nat.le_of_ble_eq_true rfl | (simp only [Jd, Je, Jr, Js, Jt, Nat.reduceAdd, allOne, oneCell, Bool.and_self, Jc]; first | done | omega)) only [hb', hu5.ia hil, x51, ↓Qa, ↓Qb, Qd, Qe, Qf, Qg, Qh, Qi, Qj, Qk, Ql, Qm, Qn, Qo, Qp, Qq, Qr, Qs, Qt, Qu, Qv, Qw, Qx, Qy, ptrTo, Qz, QA, QB, QC, QD, QE, QF, QG, QH, QI, QJ, QK, QL, QM, QN, QO, QP, QQ, QR, QS, QT, QU, QV, QW, QX, QY, QZ, Ja, Jb, Jc, Jd, Je, Jf, Jg, Jh, Ji, Jj, Jk, Jl, Jm, Jn, Jo, Jp, Jq, Jr, Js, Jt, Nat.reduceAdd]
        refine less_sp hlf (by omega) x52 hv5 (by omega) (by omega) fun w1 m6 e6 hw1 => ?_
        have n6 := e6.next
        have hl1 := hw1.ln
        rw [less_len] at hl1
        have hu6 := hu5.mono e6
        obtain ⟨x6, x61, x62⟩ := hu6.ld hil
        have e36 := e35.trans e6
        by_cases hF : F = []
        · have dF : decide (F ≠ []) = false := decide_eq_false (fun h => h hF)
          have hS : nearS t (nearF t F) R[i] = (R[i], awayN R[i] t) := by
            rw [hF, nearF_nil]
            exact if_pos (.inl (show awayN R[i] t < 11 by omega))
          have := hup m6 x6 e36 x62 hS
          rw [dF]
          try simp (disch := first | omega | with_unfolding_all exact id rfl | with_unfolding_all exact Nat.le_of_ble_eq_true rfl | (simp only [Jd, Je, Jr, Js, Jt, Nat.reduceAdd, allOne, oneCell, Bool.and_self, Jc]; first | done | omega)) only [hl1, hu6.ia hil, x61, hf6, ↓Qa, ↓Qb, Qd, Qe, Qf, Qg, Qh, Qi, Qj, Qk, Ql, Qm, Qn, Qo, Qp, Qq, Qr, Qs, Qt, Qu, Qv, Qw, Qx, Qy, ptrTo, Qz, QA, QB, QC, QD, QE, QF, QG, QH, QI, QJ, QK, QL, QM, QN, QO, QP, QQ, QR, QS, QT, QU, QV, QW, QX, QY, QZ, Ja, Jb, Jc, Jd, Je, Jf, Jg, Jh, Ji, Jj, Jk, Jl, Jm, Jn, Jo, Jp, Jq, Jr, Js, Jt, Nat.reduceAdd]
          repeat (rw [join_e]; try simp (disch := first | omega | with_unfolding_all exact id rfl | with_unfolding_all exact Nat.le_of_ble_eq_true rfl | (simp only [Jd, Je, Jr, Js, Jt, Nat.reduceAdd, allOne, oneCell, Bool.and_self, Jc]; first | done | omega)) only [hl1, hu6.ia hil, x61, hf6, ↓Qa, ↓Qb, Qd, Qe, Qf, Qg, Qh, Qi, Qj, Qk, Ql, Qm, Qn, Qo, Qp, Qq, Qr, Qs, Qt, Qu, Qv, Qw, Qx, Qy, ptrTo, Qz, QA, QB, QC, QD, QE, QF, QG, QH, QI, QJ, QK, QL, QM, QN, QO, QP, QQ, QR, QS, QT, QU, QV, QW, QX, QY, QZ, Ja, Jb, Jc, Jd, Je, Jf, Jg, Jh, Ji, Jj, Jk, Jl, Jm, Jn, Jo, Jp, Jq, Jr, Js, Jt, Nat.reduceAdd])
          try simp (disch := first | omega | with_unfolding_all exact id rfl | with_unfolding_all exact Nat.le_of_ble_eq_true rfl | (simp only [Jd, Je, Jr, Js, Jt, Nat.reduceAdd, allOne, oneCell, Bool.and_self, Jc]; first | done | omega)) only [hl1, hu6.ia hil, x61, hf6, ↓Qa, ↓Qb, Qd, Qe, Qf, Qg, Qh, Qi, Qj, Qk, Ql, Qm, Qn, Qo, Qp, Qq, Qr, Qs, Qt, Qu, Qv, Qw, Qx, Qy, ptrTo, Qz, QA, QB, QC, QD, QE, QF, QG, QH, QI, QJ, QK, QL, QM, QN, QO, QP, QQ, QR, QS, QT, QU, QV, QW, QX, QY, QZ, Ja, Jb, Jc, Jd, Je, Jf, Jg, Jh, Ji, Jj, Jk, Jl, Jm, Jn, Jo, Jp, Jq, Jr, Js, Jt, Nat.reduceAdd]
          exact this
        · have dF : decide (F ≠ []) = true := decide_eq_true hF
          obtain ⟨r1, r2, r3⟩ := nearF_min (t := t) (l := F) (fun c hc => by
            have h1 := (away_le (hseen c hc) q5).1
            omega) hF
          have hBl := (hseen _ r1).len
          have hbv6 := hbv5.mono e6
          rw [dF]
          try simp (disch := first | omega | with_unfolding_all exact id rfl | with_unfolding_all exact Nat.le_of_ble_eq_true rfl | (simp only [Jd, Je, Jr, Js, Jt, Nat.reduceAdd, allOne, oneCell, Bool.and_self, Jc]; first | done | omega)) only [hl1, ↓Qa, ↓Qb, Qd, Qe, Qf, Qg, Qh, Qi, Qj, Qk, Ql, Qm, Qn, Qo, Qp, Qq, Qr, Qs, Qt, Qu, Qv, Qw, Qx, Qy, ptrTo, Qz, QA, QB, QC, QD, QE, QF, QG, QH, QI, QJ, QK, QL, QM, QN, QO, QP, QQ, QR, QS, QT, QU, QV, QW, QX, QY, QZ, Ja, Jb, Jc, Jd, Je, Jf, Jg, Jh, Ji, Jj, Jk, Jl, Jm, Jn, Jo, Jp, Jq, Jr, Js, Jt, Nat.reduceAdd]
          repeat (rw [join_e]; try simp (disch := first | omega | with_unfolding_all exact id rfl | with_unfolding_all exact Nat.le_of_ble_eq_true rfl | (simp only [Jd, Je, Jr, Js, Jt, Nat.reduceAdd, allOne, oneCell, Bool.and_self, Jc]; first | done | omega)) only [hl1, ↓Qa, ↓Qb, Qd, Qe, Qf, Qg, Qh, Qi, Qj, Qk, Ql, Qm, Qn, Qo, Qp, Qq, Qr, Qs, Qt, Qu, Qv, Qw, Qx, Qy, ptrTo, Qz, QA, QB, QC, QD, QE, QF, QG, QH, QI, QJ, QK, QL, QM, QN, QO, QP, QQ, QR, QS, QT, QU, QV, QW, QX, QY, QZ, Ja, Jb, Jc, Jd, Je, Jf, Jg, Jh, Ji, Jj, Jk, Jl, Jm, Jn, Jo, Jp, Jq, Jr, Js, Jt, Nat.reduceAdd])
          refine less_sp hlf (by omega) hbv6 (hv5.mono e6) (by omega) (by omega) fun w2 m7 e7 hw2 => ?_
          have n7 := e7.next
          have hl2 := hw2.ln
          rw [less_len] at hl2
          have hu7 := hu6.mono e7
          have e37 := e36.trans e7
          by_cases p1 : awayN R[i] t < awayN (nearF t F).1 t
          · have d2 : decide ((awayN R[i] t : Int) < (awayN (nearF t F).1 t : Int)) = true := decide_eq_true (by omega)
            obtain ⟨x7, x71, x72⟩ := hu7.ld hil
            have := hup m7 x7 e37 x72 (if_pos (.inl (by omega)))
            try simp (disch := first | omega | with_unfolding_all exact id rfl | with_unfolding_all exact Nat.le_of_ble_eq_true rfl | (simp only [Jd, Je, Jr, Js, Jt, Nat.reduceAdd, allOne, oneCell, Bool.and_self, Jc]; first | done | omega)) only [hl2, d2, hu7.ia hil, x71, hf6, ↓Qa, ↓Qb, Qd, Qe, Qf, Qg, Qh, Qi, Qj, Qk, Ql, Qm, Qn, Qo, Qp, Qq, Qr, Qs, Qt, Qu, Qv, Qw, Qx, Qy, ptrTo, Qz, QA, QB, QC, QD, QE, QF, QG, QH, QI, QJ, QK, QL, QM, QN, QO, QP, QQ, QR, QS, QT, QU, QV, QW, QX, QY, QZ, Ja, Jb, Jc, Jd, Je, Jf, Jg, Jh, Ji, Jj, Jk, Jl, Jm, Jn, Jo, Jp, Jq, Jr, Js, Jt, Nat.reduceAdd]
            repeat (rw [join_e]; try simp (disch := first | omega | with_unfolding_all exact id rfl | with_unfolding_all exact Nat.le_of_ble_eq_true rfl | (simp only [Jd, Je, Jr, Js, Jt, Nat.reduceAdd, allOne, oneCell, Bool.and_self, Jc]; first | done | omega)) only [hl2, d2, hu7.ia hil, x71, hf6, ↓Qa, ↓Qb, Qd, Qe, Qf, Qg, Qh, Qi, Qj, Qk, Ql, Qm, Qn, Qo, Qp, Qq, Qr, Qs, Qt, Qu, Qv, Qw, Qx, Qy, ptrTo, Qz, QA, QB, QC, QD, QE, QF, QG, QH, QI, QJ, QK, QL, QM, QN, QO, QP, QQ, QR, QS, QT, QU, QV, QW, QX, QY, QZ, Ja, Jb, Jc, Jd, Je, Jf, Jg, Jh, Ji, Jj, Jk, Jl, Jm, Jn, Jo, Jp, Jq, Jr, Js, Jt, Nat.reduceAdd])
            try simp (disch := first | omega | with_unfolding_all exact id rfl | with_unfolding_all exact Nat.le_of_ble_eq_true rfl | (simp only [Jd, Je, Jr, Js, Jt, Nat.reduceAdd, allOne, oneCell, Bool.and_self, Jc]; first | done | omega)) only [hl2, d2, hu7.ia hil, x71, hf6, ↓Qa, ↓Qb, Qd, Qe, Qf, Qg, Qh, Qi, Qj, Qk, Ql, Qm, Qn, Qo, Qp, Qq, Qr, Qs, Qt, Qu, Qv, Qw, Qx, Qy, ptrTo, Qz, QA, QB, QC, QD, QE, QF, QG, QH, QI, QJ, QK, QL, QM, QN, QO, QP, QQ, QR, QS, QT, QU, QV, QW, QX, QY, QZ, Ja, Jb, Jc, Jd, Je, Jf, Jg, Jh, Ji, Jj, Jk, Jl, Jm, Jn, Jo, Jp, Jq, Jr, Js, Jt, Nat.reduceAdd]
            exact this
          · have d2 : decide ((awayN R[i] t : Int) < (awayN (nearF t F).1 t : Int)) = false := decide_eq_false (by omega)
            have hbv7 := hbv6.mono e7
            have hv7 := (hv5.mono e6).mono e7
            try simp (disch := first | omega | with_unfolding_all exact id rfl | with_unfolding_all exact Nat.le_of_ble_eq_true rfl | (simp only [Jd, Je, Jr, Js, Jt, Nat.reduceAdd, allOne, oneCell, Bool.and_self, Jc]; first | done | omega)) only [hl2, d2, ↓Qa, ↓Qb, Qd, Qe, Qf, Qg, Qh, Qi, Qj, Qk, Ql, Qm, Qn, Qo, Qp, Qq, Qr, Qs, Qt, Qu, Qv, Qw, Qx, Qy, ptrTo, Qz, QA, QB, QC, QD, QE, QF, QG, QH, QI, QJ, QK, QL, QM, QN, QO, QP, QQ, QR, QS, QT, QU, QV, QW, QX, QY, QZ, Ja, Jb, Jc, Jd, Je, Jf, Jg, Jh, Ji, Jj, Jk, Jl, Jm, Jn, Jo, Jp, Jq, Jr, Js, Jt, Nat.reduceAdd]
            repeat (rw [join_e]; try simp (disch := first | omega | with_unfolding_all exact id rfl | with_unfolding_all exact Nat.le_of_ble_eq_true rfl | (simp only [Jd, Je, Jr, Js, Jt, Nat.reduceAdd, allOne, oneCell, Bool.and_self, Jc]; first | done | omega)) only [hl2, d2, ↓Qa, ↓Qb, Qd, Qe, Qf, Qg, Qh, Qi, Qj, Qk, Ql, Qm, Qn, Qo, Qp, Qq, Qr, Qs, Qt, Qu, Qv, Qw, Qx, Qy, ptrTo, Qz, QA, QB, QC, QD, QE, QF, QG, QH, QI, QJ, QK, QL, QM, QN, QO, QP, QQ, QR, QS, QT, QU, QV, QW, QX, QY, QZ, Ja, Jb, Jc, Jd, Je, Jf, Jg, Jh, Ji, Jj, Jk, Jl, Jm, Jn, Jo, Jp, Jq, Jr, Js, Jt, Nat.reduceAdd])
            try simp (disch := first | omega | with_unfolding_all exact id rfl | with_unfolding_all exact Nat.le_of_ble_eq_true rfl | (simp only [Jd, Je, Jr, Js, Jt, Nat.reduceAdd, allOne, oneCell, Bool.and_self, Jc]; first | done | omega)) only [hl2, d2, ↓Qa, ↓Qb, Qd, Qe, Qf, Qg, Qh, Qi, Qj, Qk, Ql, Qm, Qn, Qo, Qp, Qq, Qr, Qs, Qt, Qu, Qv, Qw, Qx, Qy, ptrTo, Qz, QA, QB, QC, QD, QE, QF, QG, QH, QI, QJ, QK, QL, QM, QN, QO, QP, QQ, QR, QS, QT, QU, QV, QW, QX, QY, QZ, Ja, Jb, Jc, Jd, Je, Jf, Jg, Jh, Ji, Jj, Jk, Jl, Jm, Jn, Jo, Jp, Jq, Jr, Js, Jt, Nat.reduceAdd]
            refine less_sp hlf (by omega) hbv7 hv7 (by omega) (by omega) fun w3 m8 e8 hw3 => ?_
            have n8 := e8.next
            have hl3 := hw3.ln
            rw [less_len] at hl3
            have hu8 := hu7.mono e8
            have e38 := e37.trans e8
            have hbv8 := hbv7.mono e8
            obtain ⟨x8, x81, x82⟩ := hu8.ld hil
            by_cases p2 : awayN R[i] t = awayN (nearF t F).1 t
            · have d3 : decide ((awayN R[i] t : Int) = (awayN (nearF t F).1 t : Int)) = true := decide_eq_true (by omega)
              try simp (disch := first | omega | with_unfolding_all exact id rfl | with_unfolding_all exact Nat.le_of_ble_eq_true rfl | (simp only [Jd, Je, Jr, Js, Jt, Nat.reduceAdd, allOne, oneCell, Bool.and_self, Jc]; first | done | omega)) only [hl3, d3, hu8.ia hil, x81, ↓Qa, ↓Qb, Qd, Qe, Qf, Qg, Qh, Qi, Qj, Qk, Ql, Qm, Qn, Qo, Qp, Qq, Qr, Qs, Qt, Qu, Qv, Qw, Qx, Qy, ptrTo, Qz, QA, QB, QC, QD, QE, QF, QG, QH, QI, QJ, QK, QL, QM, QN, QO, QP, QQ, QR, QS, QT, QU, QV, QW, QX, QY, QZ, Ja, Jb, Jc, Jd, Je, Jf, Jg, Jh, Ji, Jj, Jk, Jl, Jm, Jn, Jo, Jp, Jq, Jr, Js, Jt, Nat.reduceAdd]
              repeat (rw [join_e]; try simp (disch := first | omega | with_unfolding_all exact id rfl | with_unfolding_all exact Nat.le_of_ble_eq_true rfl | (simp only [Jd, Je, Jr, Js, Jt, Nat.reduceAdd, allOne, oneCell, Bool.and_self, Jc]; first | done | omega)) only [hl3, d3, hu8.ia hil, x81, ↓Qa, ↓Qb, Qd, Qe, Qf, Qg, Qh, Qi, Qj, Qk, Ql, Qm, Qn, Qo, Qp, Qq, Qr, Qs, Qt, Qu, Qv, Qw, Qx, Qy, ptrTo, Qz, QA, QB, QC, QD, QE, QF, QG, QH, QI, QJ, QK, QL, QM, QN, QO, QP, QQ, QR, QS, QT, QU, QV, QW, QX, QY, QZ, Ja, Jb, Jc, Jd, Je, Jf, Jg, Jh, Ji, Jj, Jk, Jl, Jm, Jn, Jo, Jp, Jq, Jr, Js, Jt, Nat.reduceAdd])
              try simp (disch := first | omega | with_unfolding_all exact id rfl | with_unfolding_all exact Nat.le_of_ble_eq_true rfl | (simp only [Jd, Je, Jr, Js, Jt, Nat.reduceAdd, allOne, oneCell, Bool.and_self, Jc]; first | done | omega)) only [hl3, d3, hu8.ia hil, x81, ↓Qa, ↓Qb, Qd, Qe, Qf, Qg, Qh, Qi, Qj, Qk, Ql, Qm, Qn, Qo, Qp, Qq, Qr, Qs, Qt, Qu, Qv, Qw, Qx, Qy, ptrTo, Qz, QA, QB, QC, QD, QE, QF, QG, QH, QI, QJ, QK, QL, QM, QN, QO, QP, QQ, QR, QS, QT, QU, QV, QW, QX, QY, QZ, Ja, Jb, Jc, Jd, Je, Jf, Jg, Jh, Ji, Jj, Jk, Jl, Jm, Jn, Jo, Jp, Jq, Jr, Js, Jt, Nat.reduceAdd]
              refine smaller_sp hlf x82 hbv8 (by omega) (by omega) ?_
              by_cases p3 : cmpL R[i] (nearF t F).1 < 0
              · have := hup m8 x8 e38 x82 (if_pos (.inr ⟨by omega, p3⟩))
                try simp (disch := first | omega | with_unfolding_all exact id rfl | with_unfolding_all exact Nat.le_of_ble_eq_true rfl | (simp only [Jd, Je, Jr, Js, Jt, Nat.reduceAdd, allOne, oneCell, Bool.and_self, Jc]; first | done | omega)) only [decide_eq_true p3, hu8.ia hil, x81, hf6, ↓Qa, ↓Qb, Qd, Qe, Qf, Qg, Qh, Qi, Qj, Qk, Ql, Qm, Qn, Qo, Qp, Qq, Qr, Qs, Qt, Qu, Qv, Qw, Qx, Qy, ptrTo, Qz, QA, QB, QC, QD, QE, QF, QG, QH, QI, QJ, QK, QL, QM, QN, QO, QP, QQ, QR, QS, QT, QU, QV, QW, QX, QY, QZ, Ja, Jb, Jc, Jd, Je, Jf, Jg, Jh, Ji, Jj, Jk, Jl, Jm, Jn, Jo, Jp, Jq, Jr, Js, Jt, Nat.reduceAdd]
                repeat (rw [join_e]; try simp (disch := first | omega | with_unfolding_all exact id rfl | with_unfolding_all exact Nat.le_of_ble_eq_true rfl | (simp only [Jd, Je, Jr, Js, Jt, Nat.reduceAdd, allOne, oneCell, Bool.and_self, Jc]; first | done | omega)) only [decide_eq_true p3, hu8.ia hil, x81, hf6, ↓Qa, ↓Qb, Qd, Qe, Qf, Qg, Qh, Qi, Qj, Qk, Ql, Qm, Qn, Qo, Qp, Qq, Qr, Qs, Qt, Qu, Qv, Qw, Qx, Qy, ptrTo, Qz, QA, QB, QC, QD, QE, QF, QG, QH, QI, QJ, QK, QL, QM, QN, QO, QP, QQ, QR, QS, QT, QU, QV, QW, QX, QY, QZ, Ja, Jb, Jc, Jd, Je, Jf, Jg, Jh, Ji, Jj, Jk, Jl, Jm, Jn, Jo, Jp, Jq, Jr, Js, Jt, Nat.reduceAdd])
                try simp (disch := first | omega | with_unfolding_all exact id rfl | with_unfolding_all exact Nat.le_of_ble_eq_true rfl | (simp only [Jd, Je, Jr, Js, Jt, Nat.reduceAdd, allOne, oneCell, Bool.and_self, Jc]; first | done | omega)) only [decide_eq_true p3, hu8.ia hil, x81, hf6, ↓Qa, ↓Qb, Qd, Qe, Qf, Qg, Qh, Qi, Qj, Qk, Ql, Qm, Qn, Qo, Qp, Qq, Qr, Qs, Qt, Qu, Qv, Qw, Qx, Qy, ptrTo, Qz, QA, QB, QC, QD, QE, QF, QG, QH, QI, QJ, QK, QL, QM, QN, QO, QP, QQ, QR, QS, QT, QU, QV, QW, QX, QY, QZ, Ja, Jb, Jc, Jd, Je, Jf, Jg, Jh, Ji, Jj, Jk, Jl, Jm, Jn, Jo, Jp, Jq, Jr, Js, Jt, Nat.reduceAdd]
                exact this
              · have := hst2 m8 e38 hbv8 (if_neg (fun h => h.elim (fun h => by omega) fun h => p3 h.2))
                try simp (disch := first | omega | with_unfolding_all exact id rfl | with_unfolding_all exact Nat.le_of_ble_eq_true rfl | (simp only [Jd, Je, Jr, Js, Jt, Nat.reduceAdd, allOne, oneCell, Bool.and_self, Jc]; first | done | omega)) only [decide_eq_false p3, hf6, ↓Qa, ↓Qb, Qd, Qe, Qf, Qg, Qh, Qi, Qj, Qk, Ql, Qm, Qn, Qo, Qp, Qq, Qr, Qs, Qt, Qu, Qv, Qw, Qx, Qy, ptrTo, Qz, QA, QB, QC, QD, QE, QF, QG, QH, QI, QJ, QK, QL, QM, QN, QO, QP, QQ, QR, QS, QT, QU, QV, QW, QX, QY, QZ, Ja, Jb, Jc, Jd, Je, Jf, Jg, Jh, Ji, Jj, Jk, Jl, Jm, Jn, Jo, Jp, Jq, Jr, Js, Jt, Nat.reduceAdd]
                repeat (rw [join_e]; try simp (disch := first | omega | with_unfolding_all exact id rfl | with_unfolding_all exact Nat.le_of_ble_eq_true rfl | (simp only [Jd, Je, Jr, Js, Jt, Nat.reduceAdd, allOne, oneCell, Bool.and_self, Jc]; first | done | omega)) only [decide_eq_false p3, hf6, ↓Qa, ↓Qb, Qd, Qe, Qf, Qg, Qh, Qi, Qj, Qk, Ql, Qm, Qn, Qo, Qp, Qq, Qr, Qs, Qt, Qu, Qv, Qw, Qx, Qy, ptrTo, Qz, QA, QB, QC, QD, QE, QF, QG, QH, QI, QJ, QK, QL, QM, QN, QO, QP, QQ, QR, QS, QT, QU, QV, QW, QX, QY, QZ, Ja, Jb, Jc, Jd, Je, Jf, Jg, Jh, Ji, Jj, Jk, Jl, Jm, Jn, Jo, Jp, Jq, Jr, Js, Jt, Nat.reduceAdd])
                try simp (disch := first | omega | with_unfolding_all exact id rfl | with_unfolding_all exact Nat.le_of_ble_eq_true rfl | (simp only [Jd, Je, Jr, Js, Jt, Nat.reduceAdd, allOne, oneCell, Bool.and_self, Jc]; first | done | omega)) only [decide_eq_false p3, hf6, ↓Qa, ↓Qb, Qd, Qe, Qf, Qg, Qh, Qi, Qj, Qk, Ql, Qm, Qn, Qo, Qp, Qq, Qr, Qs, Qt, Qu, Qv, Qw, Qx, Qy, ptrTo, Qz, QA, QB, QC, QD, QE, QF, QG, QH, QI, QJ, QK, QL, QM, QN, QO, QP, QQ, QR, QS, QT, QU, QV, QW, QX, QY, QZ, Ja, Jb, Jc, Jd, Je, Jf, Jg, Jh, Ji, Jj, Jk, Jl, Jm, Jn, Jo, Jp, Jq, Jr, Js, Jt, Nat.reduceAdd]
                exact this
            · have d3 : decide ((awayN R[i] t : Int) = (awayN (nearF t F).1 t : Int)) = false := decide_eq_false (by omega)
              have := hst2 m8 e38 hbv8 (if_neg (fun h => h.elim (fun h => by omega) fun h => by omega))
              try simp (disch := first | omega | with_unfolding_all exact id rfl | with_unfolding_all exact Nat.le_of_ble_eq_true rfl | (simp only [Jd, Je, Jr, Js, Jt, Nat.reduceAdd, allOne, oneCell, Bool.and_self, Jc]; first | done | omega)) only [hl3, d3, hf6, ↓Qa, ↓Qb, Qd, Qe, Qf, Qg, Qh, Qi, Qj, Qk, Ql, Qm, Qn, Qo, Qp, Qq, Qr, Qs, Qt, Qu, Qv, Qw, Qx, Qy, ptrTo, Qz, QA, QB, QC, QD, QE, QF, QG, QH, QI, QJ, QK, QL, QM, QN, QO, QP, QQ, QR, QS, QT, QU, QV, QW, QX, QY, QZ, Ja, Jb, Jc, Jd, Je, Jf, Jg, Jh, Ji, Jj, Jk, Jl, Jm, Jn, Jo, Jp, Jq, Jr, Js, Jt, Nat.reduceAdd]
              repeat (rw [join_e]; try simp (disch := first | omega | with_unfolding_all exact id rfl | with_unfolding_all exact Nat.le_of_ble_eq_true rfl | (simp only [Jd, Je, Jr, Js, Jt, Nat.reduceAdd, allOne, oneCell, Bool.and_self, Jc]; first | done | omega)) only [hl3, d3, hf6, ↓Qa, ↓Qb, Qd, Qe, Qf, Qg, Qh, Qi, Qj, Qk, Ql, Qm, Qn, Qo, Qp, Qq, Qr, Qs, Qt, Qu, Qv, Qw, Qx, Qy, ptrTo, Qz, QA, QB, QC, QD, QE, QF, QG, QH, QI, QJ, QK, QL, QM, QN, QO, QP, QQ, QR, QS, QT, QU, QV, QW, QX, QY, QZ, Ja, Jb, Jc, Jd, Je, Jf, Jg, Jh, Ji, Jj, Jk, Jl, Jm, Jn, Jo, Jp, Jq, Jr, Js, Jt, Nat.reduceAdd])
              try simp (disch := first | omega | with_unfolding_all exact id rfl | with_unfolding_all exact Nat.le_of_ble_eq_true rfl | (simp only [Jd, Je, Jr, Js, Jt, Nat.reduceAdd, allOne, oneCell, Bool.and_self, Jc]; first | done | omega)) only [hl3, d3, hf6, ↓Qa, ↓Qb, Qd, Qe, Qf, Qg, Qh, Qi, Qj, Qk, Ql, Qm, Qn, Qo, Qp, Qq, Qr, Qs, Qt, Qu, Qv, Qw, Qx, Qy, ptrTo, Qz, QA, QB, QC, QD, QE, QF, QG, QH, QI, QJ, QK, QL, QM, QN, QO, QP, QQ, QR, QS, QT, QU, QV, QW, QX, QY, QZ, Ja, Jb, Jc, Jd, Je, Jf, Jg, Jh, Ji, Jj, Jk, Jl, Jm, Jn, Jo, Jp, Jq, Jr, Js, Jt, Nat.reduceAdd]
              exact this
    · have : i = R.length := by omega
      subst this
      rw [List.take_length] at hbv
      rw [List.take_length]
      have := hfin bv m4 e4 hbv
      exact this
  · have hE : nrE l lo hi b = bldE l lo hi b := if_neg h
    have hN : nrL l lo hi b = [] := if_neg (by rw [hE]; exact h)
    rw [hE, hN] at hk
    try simp (disch := first | omega | with_unfolding_all exact id rfl | with_unfolding_all exact Nat.le_of_ble_eq_true rfl | (simp only [Jd, Je, Jr, Js, Jt, Nat.reduceAdd, allOne, oneCell, Bool.and_self, Jc]; first | done | omega)) only [decide_eq_false h, ↓Qa, ↓Qb, Qd, Qe, Qf, Qg, Qh, Qi, Qj, Qk, Ql, Qm, Qn, Qo, Qp, Qq, Qr, Qs, Qt, Qu, Qv, Qw, Qx, Qy, ptrTo, Qz, QA, QB, QC, QD, QE, QF, QG, QH, QI, QJ, QK, QL, QM, QN, QO, QP, QQ, QR, QS, QT, QU, QV, QW, QX, QY, QZ, Ja, Jb, Jc, Jd, Je, Jf, Jg, Jh, Ji, Jj, Jk, Jl, Jm, Jn, Jo, Jp, Jq, Jr, Js, Jt, Nat.reduceAdd]
    exact hk _ _ G (IL.nil _)
end
end Go.Vit

/- Walks: what so many exchanges reach. -/
namespace Go.Vit
open Go Go.Proofs
attribute [local irreducible] runT loopS
theorem isort_nat (out : List Nat) : ∃ l : List Nat, isortI (ci out) = ci l ∧ l.Perm out ∧ l.Pairwise (· ≤ ·) := by
  have hp := isortI_perm (ci out)
  have hs := isortI_sorted (ci out)
  have hnn : ∀ x ∈ isortI (ci out), ∃ g : Nat, x = (g : Int) := fun x hx => by
    have := hp.mem_iff.1 hx
    simp only [ci, List.mem_map] at this
    obtain ⟨g, _, rfl⟩ := this
    exact ⟨g, rfl⟩
  have key : ∀ L : List Int, (∀ x ∈ L, ∃ g : Nat, x = (g : Int)) → ∃ l : List Nat, L = ci l := by
    intro L
    induction L with
    | nil => intro _; exact ⟨[], rfl⟩
    | cons x L ih =>
      intro h
      obtain ⟨g, rfl⟩ := h x (by simp)
      obtain ⟨l, rfl⟩ := ih fun y hy => h y (by simp [hy])
      exact ⟨g :: l, rfl⟩
  obtain ⟨l, hl⟩ := key _ hnn
  rw [hl] at hp hs
  refine ⟨l, hl, ?_, ?_⟩
  · have h0 := hp.map Int.toNat
    have h1 : (Int.toNat ∘ fun g : Nat => (g : Int)) = id := by funext g; rfl
    simpa [ci, h1] using h0
  · unfold ci at hs
    rw [List.pairwise_map] at hs
    exact hs.imp fun h => by omega
theorem GN.keepB {L : Nat} {m m' : Mem} {v : Value} {l : List Nat} (h : GN L m v l) (hk : ∀ c, bid v = some c → m'.rd c = m.rd c) : GN L m' v l := by
  rcases h with h | ⟨b, h1, h2, h3, h4⟩
  · exact .inl h
  · exact .inr ⟨b, h1, h2, (hk b (by rw [h2]; rfl)).trans h3, h4⟩
theorem min3_e (a b c : Nat) : abuiltin Try.prog .min #[3, 3, 3] [.int .i64 (a : Int), .int .i64 (b : Int), .int .i64 (c : Int)] = some (.int .i64 ((min (min a b) c : Nat) : Int)) := by
  show aleast true .i64 (a : Int) [.int .i64 (b : Int), .int .i64 (c : Int)] = _
  simp only [aleast, ilt_e]
  by_cases h : (b : Int) < (a : Int)
  · rw [decide_eq_true h]
    simp only []
    rw [Nat.min_eq_right (show b ≤ a by omega)]
    by_cases h2 : (c : Int) < (b : Int)
    · rw [decide_eq_true h2]; simp only []
      rw [mkI_e, Nat.min_eq_right (by omega)]
    · rw [decide_eq_false h2]; simp only []
      rw [mkI_e, Nat.min_eq_left (by omega)]
  · rw [decide_eq_false h]
    simp only []
    rw [Nat.min_eq_left (show a ≤ b by omega)]
    by_cases h2 : (c : Int) < (a : Int)
    · rw [decide_eq_true h2]; simp only []
      rw [mkI_e, Nat.min_eq_right (by omega)]
    · rw [decide_eq_false h2]; simp only []
      rw [mkI_e, Nat.min_eq_left (by omega)]
theorem minI_e (a b : Int) : abuiltin Try.prog .min #[3, 3] [.int .i64 a, .int .i64 b] = some (.int .i64 (min a b)) := by
  show aleast true .i64 a [.int .i64 b] = _
  simp only [aleast, ilt_e]
  by_cases h : b < a
  · rw [decide_eq_true h]; simp only []
    rw [mkI_e, Int.min_eq_right (by omega)]
  · rw [decide_eq_false h]; simp only []
    rw [mkI_e, Int.min_eq_left (by omega)]
theorem maxI_e (a b : Int) : abuiltin Try.prog .max #[3, 3] [.int .i64 a, .int .i64 b] = some (.int .i64 (max a b)) := by
  show aleast false .i64 a [.int .i64 b] = _
  simp only [aleast, ilt_e]
  by_cases h : a < b
  · rw [decide_eq_true h]; simp only []
    rw [mkI_e, Int.max_eq_right (by omega)]
  · rw [decide_eq_false h]; simp only []
    rw [mkI_e, Int.max_eq_left (by omega)]
def ownW (ws b : List Nat) (x : Nat) : List Nat := ((List.range x).filter fun y => decide (y ∈ b)).map (wOf ws)
def othW (ws b : List Nat) (x : Nat) : List Nat := ((List.range x).filter fun y => !decide (y ∈ b)).map (wOf ws)
theorem ownW_le (ws b : List Nat) (x : Nat) : (ownW ws b x).length ≤ x := by
  unfold ownW
  have := List.length_filter_le (fun y => decide (y ∈ b)) (List.range x)
  rw [List.length_range] at this
  rw [List.length_map]; exact this
theorem othW_le (ws b : List Nat) (x : Nat) : (othW ws b x).length ≤ x := by
  unfold othW
  have := List.length_filter_le (fun y => !decide (y ∈ b)) (List.range x)
  rw [List.length_range] at this
  rw [List.length_map]; exact this
theorem ownW_t {ws b : List Nat} {x : Nat} (h : x ∈ b) : ownW ws b (x + 1) = ownW ws b x ++ [wOf ws x] ∧ othW ws b (x + 1) = othW ws b x := by
  unfold ownW othW
  rw [List.range_succ, List.filter_append, List.filter_append]
  simp [h]
theorem ownW_f {ws b : List Nat} {x : Nat} (h : x ∉ b) : ownW ws b (x + 1) = ownW ws b x ∧ othW ws b (x + 1) = othW ws b x ++ [wOf ws x] := by
  unfold ownW othW
  rw [List.range_succ, List.filter_append, List.filter_append]
  simp [h]
theorem msum_bd (D : Nat → Int) (h : ∀ i, -50 ≤ D i) : ∀ i : Nat, -(50 * (i : Int)) ≤ msum D i ∧ msum D i ≤ 0
  | 0 => by simp [msum]
  | i + 1 => by
    have := msum_bd D h i
    have := h i
    unfold msum
    omega
section
variable {lf n L : Nat} {m : Mem} {k : Value → Mem → Option Unit}
theorem reach40_sp {wv v : Value} {l b : List Int} {lo hi j : Int} (hlf : 1000000 ≤ lf) (hL : L ≤ m.next) (hw : IL m wv l) (hv : IL m v b) (hb : b.length < 1000000)
    (hk0 : bldE l lo hi b = 0 → 0 ≤ j → j ≤ 10 → ∀ zl zh m', Gt m m' → IsLo (nni l) (nni b) l.length b.length j.toNat zl → IsHi (nni l) (nni b) l.length b.length j.toNat zh → k (.tuple ⟨[.int .i64 zl, .int .i64 zh, .int .i64 0]⟩) m' = some ())
    (hk1 : ∀ m', Gt m m' → bldE l lo hi b = 0 → ¬ (0 ≤ j ∧ j ≤ 10) → k (.tuple ⟨[.int .i64 0, .int .i64 0, .int .i64 1]⟩) m' = some ())
    (hk2 : ∀ m', Gt m m' → bldE l lo hi b ≠ 0 → k (.tuple ⟨[.int .i64 0, .int .i64 0, .int .i64 (bldE l lo hi b)]⟩) m' = some ()) :
    runT (tab lf) (n + 10) 40 [rcp wv lo hi, v, .int .i64 j] L m k = some () := by
  rw [r40]; dsimp only [S40, iofNat, inegSucc]
  rw [uc_e, uc_e, uc_e, un0_e, abox_e, oRes_e, cells_agg]
  have g1 := Mem.gt_push m ⟨1, rcC wv lo hi, none⟩
  have hA : At (m.push ⟨1, rcC wv lo hi, none⟩) m.next (rcC wv lo hi) := At.push m _
  have n1 : (m.push ⟨1, rcC wv lo hi, none⟩).next = m.next + 1 := Mem.push_next _ _
  generalize m.push ⟨1, rcC wv lo hi, none⟩ = m1 at g1 hA n1 ⊢
  unfold ptrTo
  have c0 : (rcC wv lo hi)[0]? = some wv := rfl
  rw [ldN_u, hA.rd, rdn3, oOpt_e]
  refine blended_sp hlf (hw.mono g1) (hv.mono g1) hb fun m2 e2 => ?_
  have G := g1.trans e2
  have n2 := e2.next
  have hA2 := hA.mono e2
  have hw2 := hw.mono G
  have hv2 := hv.mono G
  by_cases h : bldE l lo hi b = 0
  · have hk0 := hk0 h
    obtain ⟨ws, t, rfl, rfl, q1, q2, q3, q4, q5⟩ := bldE_ok h
    rw [nni_ci, nni_ci, ci_length, ci_length] at hk0
    have hs := q5.le
    have hw2 : IN m2 wv ws := hw2
    have hv2 : IN m2 v t := hv2
    rw [h]
    try simp (disch := first | omega | with_unfolding_all exact id rfl | with_unfolding_all exact Nat.le_of_ble_eq_true rfl | (simp only [Jd, Je, Jr, Js, Jt, Nat.reduceAdd, allOne, oneCell, Bool.and_self, Jc]; first | done | omega)) only [hA2.rd, c0, ↓Qa, ↓Qb, Qd, Qe, Qf, Qg, Qh, Qi, Qj, Qk, Ql, Qm, Qn, Qo, Qp, Qq, Qr, Qs, Qt, Qu, Qv, Qw, Qx, Qy, ptrTo, Qz, QA, QB, QC, QD, QE, QF, QG, QH, QI, QJ, QK, QL, QM, QN, QO, QP, QQ, QR, QS, QT, QU, QV, QW, QX, QY, QZ, Ja, Jb, Jc, Jd, Je, Jf, Jg, Jh, Ji, Jj, Jk, Jl, Jm, Jn, Jo, Jp, Jq, Jr, Js, Jt, Nat.reduceAdd]
    refine within_sp _ _ _ ?_
    by_cases hj : 0 ≤ j ∧ j ≤ 10
    · have hk0 := hk0 hj.1 hj.2
      obtain ⟨j, rfl⟩ : ∃ i : Nat, j = i := ⟨j.toNat, by omega⟩
      rw [Int.toNat_natCast] at hk0
      rw [decide_eq_true hj]
      try simp (disch := first | omega | with_unfolding_all exact id rfl | with_unfolding_all exact Nat.le_of_ble_eq_true rfl | (simp only [Jd, Je, Jr, Js, Jt, Nat.reduceAdd, allOne, oneCell, Bool.and_self, Jc]; first | done | omega)) only [hA2.rd, c0, hw2.ln, ↓Qa, ↓Qb, Qd, Qe, Qf, Qg, Qh, Qi, Qj, Qk, Ql, Qm, Qn, Qo, Qp, Qq, Qr, Qs, Qt, Qu, Qv, Qw, Qx, Qy, ptrTo, Qz, QA, QB, QC, QD, QE, QF, QG, QH, QI, QJ, QK, QL, QM, QN, QO, QP, QQ, QR, QS, QT, QU, QV, QW, QX, QY, QZ, Ja, Jb, Jc, Jd, Je, Jf, Jg, Jh, Ji, Jj, Jk, Jl, Jm, Jn, Jo, Jp, Jq, Jr, Js, Jt, Nat.reduceAdd]
      refine loop_up ws.length (fun x vs m' => ∃ w1 w2, vs = [w1, w2, .int .i64 (x : Int)] ∧ Gt m2 m' ∧ GN m2.next m' w1 (ownW ws t x) ∧ GN m2.next m' w2 (othW ws t x) ∧ Apt w1 w2) (by omega) ⟨_, _, rfl, Gt.refl _, GN.nil _ _, GN.nil _ _, Apt.nil _⟩ ?_
      rintro x vs m3 hx ⟨w1, w2, rfl, e3, hw1, hw2', hap⟩ self hself
      have n3 := e3.next
      have hw3 := hw2.mono e3
      have hv3 := hv2.mono e3
      try simp (disch := first | omega | with_unfolding_all exact id rfl | with_unfolding_all exact Nat.le_of_ble_eq_true rfl | (simp only [Jd, Je, Jr, Js, Jt, Nat.reduceAdd, allOne, oneCell, Bool.and_self, Jc]; first | done | omega)) only [↓Qa, ↓Qb, Qd, Qe, Qf, Qg, Qh, Qi, Qj, Qk, Ql, Qm, Qn, Qo, Qp, Qq, Qr, Qs, Qt, Qu, Qv, Qw, Qx, Qy, ptrTo, Qz, QA, QB, QC, QD, QE, QF, QG, QH, QI, QJ, QK, QL, QM, QN, QO, QP, QQ, QR, QS, QT, QU, QV, QW, QX, QY, QZ, Ja, Jb, Jc, Jd, Je, Jf, Jg, Jh, Ji, Jj, Jk, Jl, Jm, Jn, Jo, Jp, Jq, Jr, Js, Jt, Nat.reduceAdd]
      refine oIf_dec (fun h2 => ?_) (fun h2 => ?_)
      · have hxN : x < ws.length := by omega
        have hwx : wOf ws x = ws[x] := getD_at hxN
        have l1 := ownW_le ws t x
        have l2 := othW_le ws t x
        have hf6 : ∀ K : Value → Option Unit, oInt .add .i64 (.int .i64 (x : Int)) (.int .i64 1) K = K (.int .i64 ((x + 1 : Nat) : Int)) := fun K => by rw [oInt_add ⟨by omega, by omega⟩]; rfl
        rw [hw3.ia hxN, oOpt_e, hw3.ld hxN, oOpt_e]
        refine contains_sp hlf hv3 (by omega) ?_
        by_cases hxt : x ∈ t
        · obtain ⟨o1, o2⟩ := ownW_t (ws := ws) hxt
          obtain ⟨u1, m4, s1, s2, e4, s4, s5⟩ := GN.snoc2 (P := Try.prog) (t := 22) (L := L) (m0 := m2) ws[x] ael22 (by omega) hw1 (by omega) (by omega) e3 (Nat.le_refl _)
          obtain ⟨s6, s7⟩ := s5 w2 _ _ hw2' hap
          try simp (disch := first | omega | with_unfolding_all exact id rfl | with_unfolding_all exact Nat.le_of_ble_eq_true rfl | (simp only [Jd, Je, Jr, Js, Jt, Nat.reduceAdd, allOne, oneCell, Bool.and_self, Jc]; first | done | omega)) only [decide_eq_true hxt, bs22, s1, hf6, ↓Qa, ↓Qb, Qd, Qe, Qf, Qg, Qh, Qi, Qj, Qk, Ql, Qm, Qn, Qo, Qp, Qq, Qr, Qs, Qt, Qu, Qv, Qw, Qx, Qy, ptrTo, Qz, QA, QB, QC, QD, QE, QF, QG, QH, QI, QJ, QK, QL, QM, QN, QO, QP, QQ, QR, QS, QT, QU, QV, QW, QX, QY, QZ, Ja, Jb, Jc, Jd, Je, Jf, Jg, Jh, Ji, Jj, Jk, Jl, Jm, Jn, Jo, Jp, Jq, Jr, Js, Jt, Nat.reduceAdd]
          repeat (rw [join_e]; try simp (disch := first | omega | with_unfolding_all exact id rfl | with_unfolding_all exact Nat.le_of_ble_eq_true rfl | (simp only [Jd, Je, Jr, Js, Jt, Nat.reduceAdd, allOne, oneCell, Bool.and_self, Jc]; first | done | omega)) only [decide_eq_true hxt, bs22, s1, hf6, ↓Qa, ↓Qb, Qd, Qe, Qf, Qg, Qh, Qi, Qj, Qk, Ql, Qm, Qn, Qo, Qp, Qq, Qr, Qs, Qt, Qu, Qv, Qw, Qx, Qy, ptrTo, Qz, QA, QB, QC, QD, QE, QF, QG, QH, QI, QJ, QK, QL, QM, QN, QO, QP, QQ, QR, QS, QT, QU, QV, QW, QX, QY, QZ, Ja, Jb, Jc, Jd, Je, Jf, Jg, Jh, Ji, Jj, Jk, Jl, Jm, Jn, Jo, Jp, Jq, Jr, Js, Jt, Nat.reduceAdd])
          try simp (disch := first | omega | with_unfolding_all exact id rfl | with_unfolding_all exact Nat.le_of_ble_eq_true rfl | (simp only [Jd, Je, Jr, Js, Jt, Nat.reduceAdd, allOne, oneCell, Bool.and_self, Jc]; first | done | omega)) only [decide_eq_true hxt, bs22, s1, hf6, ↓Qa, ↓Qb, Qd, Qe, Qf, Qg, Qh, Qi, Qj, Qk, Ql, Qm, Qn, Qo, Qp, Qq, Qr, Qs, Qt, Qu, Qv, Qw, Qx, Qy, ptrTo, Qz, QA, QB, QC, QD, QE, QF, QG, QH, QI, QJ, QK, QL, QM, QN, QO, QP, QQ, QR, QS, QT, QU, QV, QW, QX, QY, QZ, Ja, Jb, Jc, Jd, Je, Jf, Jg, Jh, Ji, Jj, Jk, Jl, Jm, Jn, Jo, Jp, Jq, Jr, Js, Jt, Nat.reduceAdd]
          refine hself hxN _ _ ⟨u1, w2, rfl, e4, ?_, ?_, s7⟩
          · rw [o1, hwx]; exact s2.le n3
          · rw [o2]; exact s6
        · obtain ⟨o1, o2⟩ := ownW_f (ws := ws) hxt
          obtain ⟨u1, m4, s1, s2, e4, s4, s5⟩ := GN.snoc2 (P := Try.prog) (t := 22) (L := L) (m0 := m2) ws[x] ael22 (by omega) hw2' (by omega) (by omega) e3 (Nat.le_refl _)
          obtain ⟨s6, s7⟩ := s5 w1 _ _ hw1 hap.symm
          try simp (disch := first | omega | with_unfolding_all exact id rfl | with_unfolding_all exact Nat.le_of_ble_eq_true rfl | (simp only [Jd, Je, Jr, Js, Jt, Nat.reduceAdd, allOne, oneCell, Bool.and_self, Jc]; first | done | omega)) only [decide_eq_false hxt, bs22, s1, hf6, ↓Qa, ↓Qb, Qd, Qe, Qf, Qg, Qh, Qi, Qj, Qk, Ql, Qm, Qn, Qo, Qp, Qq, Qr, Qs, Qt, Qu, Qv, Qw, Qx, Qy, ptrTo, Qz, QA, QB, QC, QD, QE, QF, QG, QH, QI, QJ, QK, QL, QM, QN, QO, QP, QQ, QR, QS, QT, QU, QV, QW, QX, QY, QZ, Ja, Jb, Jc, Jd, Je, Jf, Jg, Jh, Ji, Jj, Jk, Jl, Jm, Jn, Jo, Jp, Jq, Jr, Js, Jt, Nat.reduceAdd]
          repeat (rw [join_e]; try simp (disch := first | omega | with_unfolding_all exact id rfl | with_unfolding_all exact Nat.le_of_ble_eq_true rfl | (simp only [Jd, Je, Jr, Js, Jt, Nat.reduceAdd, allOne, oneCell, Bool.and_self, Jc]; first | done | omega)) only [decide_eq_false hxt, bs22, s1, hf6, ↓Qa, ↓Qb, Qd, Qe, Qf, Qg, Qh, Qi, Qj, Qk, Ql, Qm, Qn, Qo, Qp, Qq, Qr, Qs, Qt, Qu, Qv, Qw, Qx, Qy, ptrTo, Qz, QA, QB, QC, QD, QE, QF, QG, QH, QI, QJ, QK, QL, QM, QN, QO, QP, QQ, QR, QS, QT, QU, QV, QW, QX, QY, QZ, Ja, Jb, Jc, Jd, Je, Jf, Jg, Jh, Ji, Jj, Jk, Jl, Jm, Jn, Jo, Jp, Jq, Jr, Js, Jt, Nat.reduceAdd])
          try simp (disch := first | omega | with_unfolding_all exact id rfl | with_unfolding_all exact Nat.le_of_ble_eq_true rfl | (simp only [Jd, Je, Jr, Js, Jt, Nat.reduceAdd, allOne, oneCell, Bool.and_self, Jc]; first | done | omega)) only [decide_eq_false hxt, bs22, s1, hf6, ↓Qa, ↓Qb, Qd, Qe, Qf, Qg, Qh, Qi, Qj, Qk, Ql, Qm, Qn, Qo, Qp, Qq, Qr, Qs, Qt, Qu, Qv, Qw, Qx, Qy, ptrTo, Qz, QA, QB, QC, QD, QE, QF, QG, QH, QI, QJ, QK, QL, QM, QN, QO, QP, QQ, QR, QS, QT, QU, QV, QW, QX, QY, QZ, Ja, Jb, Jc, Jd, Je, Jf, Jg, Jh, Ji, Jj, Jk, Jl, Jm, Jn, Jo, Jp, Jq, Jr, Js, Jt, Nat.reduceAdd]
          refine hself hxN _ _ ⟨w1, u1, rfl, e4, ?_, ?_, s7.symm⟩
          · rw [o1]; exact s6
          · rw [o2, hwx]; exact s2.le n3
      · have hxN : x = ws.length := by omega
        subst hxN
        clear hself h2
        have l1 := ownW_le ws t ws.length
        have l2 := othW_le ws t ws.length
        rw [r55]
        refine sort_sp hw1 (L := L) (by omega) e3 (Nat.le_refl _) (by rw [ci_length]; omega) fun m4 e4 h4 n4 k4 => ?_
        have hw2'' := hw2'.keepB (m' := m4) fun c hc => k4 c fun h => hap c h hc
        refine sort_sp hw2'' (L := L) (by omega) e4 (Nat.le_refl _) (by rw [ci_length]; omega) fun m5 e5 h5 n5 k5 => ?_
        obtain ⟨A, a1, a2, a3⟩ := isort_nat (ownW ws t ws.length)
        obtain ⟨O, o1, o2, o3⟩ := isort_nat (othW ws t ws.length)
        rw [a1] at h4
        rw [o1] at h5
        have h4 : GN m2.next m4 w1 A := h4
        have hO : GN m2.next m5 w2 O := h5
        have hAg := h4.keepB (m' := m5) fun c hc => k5 c fun h => hap c hc h
        have pA : A.Perm (t.map (wOf ws)) := by
          have := a2
          unfold ownW at this
          rwa [q5.eq] at this
        have pO : O.Perm ((oth ws.length t).map (wOf ws)) := o2
        have hlo := lo_is (j := j) q5 pA a3 pO o3
        have hhi := hi_is (j := j) q5 pA a3 pO o3
        have hAl : A.length = t.length := by rw [pA.length_eq, List.length_map]
        have hOl : O.length = ws.length - t.length := by rw [pO.length_eq, List.length_map, (oth_bl q5).len]
        have hA50 : ∀ x ∈ A, x ≤ 50 := fun x hx => by
          obtain ⟨y, _, rfl⟩ := List.mem_map.1 (pA.mem_iff.1 hx)
          exact getD_le q3 y
        have hO50 : ∀ x ∈ O, x ≤ 50 := fun x hx => by
          obtain ⟨y, _, rfl⟩ := List.mem_map.1 (pO.mem_iff.1 hx)
          exact getD_le q3 y
        have hbA := msum_bd (dLo A O t.length) fun i => by have := getD_le hA50 (t.length - 1 - i); unfold dLo; omega
        have hbO := msum_bd (dHi A O) fun i => by have := getD_le hO50 (O.length - 1 - i); unfold dHi; omega
        have hA5 := hA2.mono e5
        rw [hA5.rd, rdn3, oOpt_e]
        refine weight_sp hlf (hw2.mono e5) q3 q2 (hv2.mono e5) q5 fun m6 e6 => ?_
        have hAg6 := hAg.mono e6
        have hO6 := hO.mono e6
        have hmin := min3_e j A.length O.length
        rw [hAg6.ln, oOpt_e, hO6.ln, oOpt_e, hmin, oOpt_e]
        have hWb := wgt_le q3 t
        rw [hAl]
        refine loop_up (min (min j t.length) O.length) (fun i vs m' => vs = [.int .i64 ((wgt ws t : Int) + msum (dLo A O t.length) i), .int .i64 ((wgt ws t : Int) - msum (dHi A O) i), .int .i64 (i : Int)] ∧ m' = m6) (by omega) ⟨by simp [msum], rfl⟩ ?_
        rintro i vs m' hi' ⟨rfl, rfl⟩ self hself
        have b1 := hbA i
        have b2 := hbO i
        try simp (disch := first | omega | with_unfolding_all exact id rfl | with_unfolding_all exact Nat.le_of_ble_eq_true rfl | (simp only [Jd, Je, Jr, Js, Jt, Nat.reduceAdd, allOne, oneCell, Bool.and_self, Jc]; first | done | omega)) only [↓Qa, ↓Qb, ↓Qc, Qd, Qe, Qf, Qg, Qh, Qi, Qj, Qk, Ql, Qm, Qn, Qo, Qp, Qq, Qr, Qs, Qt, Qu, Qv, Qw, Qx, Qy, ptrTo, Qz, QA, QB, QC, QD, QE, QF, QG, QH, QI, QJ, QK, QL, QM, QN, QO, QP, QQ, QR, QS, QT, QU, QV, QW, QX, QY, QZ, Ja, Jb, Jc, Jd, Je, Jf, Jg, Jh, Ji, Jj, Jk, Jl, Jm, Jn, Jo, Jp, Jq, Jr, Js, Jt, Nat.reduceAdd]
        refine oIf_dec (fun h2 => ?_) (fun h2 => ?_)
        · have hiO : i < O.length := by omega
          have hiA : i < A.length := by omega
          have hiA2 : t.length - 1 - i < A.length := by omega
          have hiO2 : O.length - 1 - i < O.length := by omega
          have b3 := hbA (i + 1)
          have b4 := hbO (i + 1)
          have d1 : dLo A O t.length i = (O[i] : Int) - (A[t.length - 1 - i] : Int) := by unfold dLo; rw [getD_at hiO, getD_at hiA2]
          have d2 : dHi A O i = (A[i] : Int) - (O[O.length - 1 - i] : Int) := by unfold dHi; rw [getD_at hiA, getD_at hiO2]
          have m1 : msum (dLo A O t.length) (i + 1) = msum (dLo A O t.length) i + min 0 (dLo A O t.length i) := rfl
          have m2 : msum (dHi A O) (i + 1) = msum (dHi A O) i + min 0 (dHi A O i) := rfl
          have x1 := hA50 _ (List.getElem_mem hiA2)
          have x2 := hO50 _ (List.getElem_mem hiO)
          have x3 := hA50 _ (List.getElem_mem hiA)
          have x4 := hO50 _ (List.getElem_mem hiO2)
          rw [hO6.inn.ia hiO, oOpt_e, hO6.inn.ld hiO, oOpt_e, oInt_sub ⟨by omega, by omega⟩, oInt_sub ⟨by omega, by omega⟩, show (t.length : Int) - 1 - (i : Int) = ((t.length - 1 - i : Nat) : Int) by omega, hAg6.inn.ia hiA2, oOpt_e, hAg6.inn.ld hiA2, oOpt_e, oInt_sub ⟨by omega, by omega⟩, ← d1, minI_e, oOpt_e, oInt_add ⟨by omega, by omega⟩,
            oInt_sub ⟨by omega, by omega⟩, oInt_sub ⟨by omega, by omega⟩, show (O.length : Int) - 1 - (i : Int) = ((O.length - 1 - i : Nat) : Int) by omega, hO6.inn.ia hiO2, oOpt_e, hO6.inn.ld hiO2, oOpt_e, hAg6.inn.ia hiA, oOpt_e, hAg6.inn.ld hiA, oOpt_e, oInt_sub ⟨by omega, by omega⟩, maxI_e, oOpt_e, oInt_add ⟨by omega, by omega⟩, oInt_add ⟨by omega, by omega⟩]
          refine hself (by omega) _ _ ⟨?_, rfl⟩
          rw [m1, m2, show (wgt ws t : Int) + msum (dLo A O t.length) i + min 0 (dLo A O t.length i) = (wgt ws t : Int) + (msum (dLo A O t.length) i + min 0 (dLo A O t.length i)) by omega,
            show (wgt ws t : Int) - msum (dHi A O) i + max 0 ((O[O.length - 1 - i] : Int) - (A[i] : Int)) = (wgt ws t : Int) - (msum (dHi A O) i + min 0 (dHi A O i)) by omega]
          rfl
        · have : i = min (min j t.length) O.length := by omega
          subst this
          exact hk0 _ _ _ (G.trans (e5.trans e6)) hlo hhi
    · rw [decide_eq_false hj]
      try simp (disch := first | omega | with_unfolding_all exact id rfl | with_unfolding_all exact Nat.le_of_ble_eq_true rfl | (simp only [Jd, Je, Jr, Js, Jt, Nat.reduceAdd, allOne, oneCell, Bool.and_self, Jc]; first | done | omega)) only [↓Qa, ↓Qb, Qd, Qe, Qf, Qg, Qh, Qi, Qj, Qk, Ql, Qm, Qn, Qo, Qp, Qq, Qr, Qs, Qt, Qu, Qv, Qw, Qx, Qy, ptrTo, Qz, QA, QB, QC, QD, QE, QF, QG, QH, QI, QJ, QK, QL, QM, QN, QO, QP, QQ, QR, QS, QT, QU, QV, QW, QX, QY, QZ, Ja, Jb, Jc, Jd, Je, Jf, Jg, Jh, Ji, Jj, Jk, Jl, Jm, Jn, Jo, Jp, Jq, Jr, Js, Jt, Nat.reduceAdd]
      exact hk1 _ G h hj
  · try simp (disch := first | omega | with_unfolding_all exact id rfl | with_unfolding_all exact Nat.le_of_ble_eq_true rfl | (simp only [Jd, Je, Jr, Js, Jt, Nat.reduceAdd, allOne, oneCell, Bool.and_self, Jc]; first | done | omega)) only [decide_eq_false h, ↓Qa, ↓Qb, Qd, Qe, Qf, Qg, Qh, Qi, Qj, Qk, Ql, Qm, Qn, Qo, Qp, Qq, Qr, Qs, Qt, Qu, Qv, Qw, Qx, Qy, ptrTo, Qz, QA, QB, QC, QD, QE, QF, QG, QH, QI, QJ, QK, QL, QM, QN, QO, QP, QQ, QR, QS, QT, QU, QV, QW, QX, QY, QZ, Ja, Jb, Jc, Jd, Je, Jf, Jg, Jh, Ji, Jj, Jk, Jl, Jm, Jn, Jo, Jp, Jq, Jr, Js, Jt, Nat.reduceAdd]
    exact hk2 _ G h
end
end Go.Vit

/- Walks: what so many exchanges reach, by the reference. -/
namespace Go.Vit
open Go Go.Proofs
attribute [local irreducible] runT loopS
theorem take_mem_succ {α : Type} {R : List α} {i : Nat} (h : i < R.length) {c : α} : c ∈ R.take (i + 1) ↔ c ∈ R.take i ∨ c = R[i] := by
  rw [List.take_add_one, List.getElem?_eq_getElem h, Option.toList_some, List.mem_append, List.mem_singleton]
section
variable {lf n L : Nat} {m : Mem} {k : Value → Mem → Option Unit}
theorem reach41_sp {wv v : Value} {l b : List Int} {lo hi j : Int} (hlf : 1000000 ≤ lf) (hL : L ≤ m.next) (hw : IL m wv l) (hv : IL m v b) (hb : b.length < 1000000)
    (hk0 : bldE l lo hi b = 0 → 0 ≤ j → j ≤ 10 → ∀ zl zh m', Gt m m' → IsLo (nni l) (nni b) l.length b.length j.toNat zl → IsHi (nni l) (nni b) l.length b.length j.toNat zh → k (.tuple ⟨[.int .i64 zl, .int .i64 zh, .int .i64 0]⟩) m' = some ())
    (hk1 : ∀ m', Gt m m' → bldE l lo hi b = 0 → ¬ (0 ≤ j ∧ j ≤ 10) → k (.tuple ⟨[.int .i64 0, .int .i64 0, .int .i64 1]⟩) m' = some ())
    (hk2 : ∀ m', Gt m m' → bldE l lo hi b ≠ 0 → k (.tuple ⟨[.int .i64 0, .int .i64 0, .int .i64 (bldE l lo hi b)]⟩) m' = some ()) :
    runT (tab lf) (n + 15) 41 [rcp wv lo hi, v, .int .i64 j] L m k = some () := by
  rw [r41]; dsimp only [S41, iofNat, inegSucc]
  rw [uc_e, uc_e, uc_e, un0_e, abox_e, oRes_e, cells_agg]
  have g1 := Mem.gt_push m ⟨1, rcC wv lo hi, none⟩
  have hA : At (m.push ⟨1, rcC wv lo hi, none⟩) m.next (rcC wv lo hi) := At.push m _
  have n1 : (m.push ⟨1, rcC wv lo hi, none⟩).next = m.next + 1 := Mem.push_next _ _
  generalize m.push ⟨1, rcC wv lo hi, none⟩ = m1 at g1 hA n1 ⊢
  unfold ptrTo
  have c0 : (rcC wv lo hi)[0]? = some wv := rfl
  rw [ldN_u, hA.rd, rdn3, oOpt_e]
  refine blended78_sp hlf (hw.mono g1) (hv.mono g1) hb fun m2 e2 => ?_
  have G := g1.trans e2
  have n2 := e2.next
  have hA2 := hA.mono e2
  have hw2 := hw.mono G
  have hv2 := hv.mono G
  by_cases h : bldE l lo hi b = 0
  · have hk0 := hk0 h
    obtain ⟨ws, t, rfl, rfl, q1, q2, q3, q4, q5⟩ := bldE_ok h
    rw [nni_ci, nni_ci, ci_length, ci_length] at hk0
    have hs := q5.le
    have hw2 : IN m2 wv ws := hw2
    have hv2 : IN m2 v t := hv2
    rw [h]
    have d0 : decide ((0 : Int) = 0) = true := by decide
    have d1 : decide ((1 : Int) = 0) = false := by decide
    try simp (disch := first | omega | with_unfolding_all exact id rfl | with_unfolding_all exact Nat.le_of_ble_eq_true rfl | (simp only [Jd, Je, Jr, Js, Jt, Nat.reduceAdd, allOne, oneCell, Bool.and_self, Jc]; first | done | omega)) only [hA2.rd, c0, d0, ↓Qa, ↓Qb, Qd, Qe, Qf, Qg, Qh, Qi, Qj, Qk, Ql, Qm, Qn, Qo, Qp, Qq, Qr, Qs, Qt, Qu, Qv, Qw, Qx, Qy, ptrTo, Qz, QA, QB, QC, QD, QE, QF, QG, QH, QI, QJ, QK, QL, QM, QN, QO, QP, QQ, QR, QS, QT, QU, QV, QW, QX, QY, QZ, Ja, Jb, Jc, Jd, Je, Jf, Jg, Jh, Ji, Jj, Jk, Jl, Jm, Jn, Jo, Jp, Jq, Jr, Js, Jt, Nat.reduceAdd]
    refine in_sp _ _ _ ?_
    by_cases hj : 0 ≤ j ∧ j ≤ 10
    · have hk0 := hk0 hj.1 hj.2
      obtain ⟨j, rfl⟩ : ∃ i : Nat, j = i := ⟨j.toNat, by omega⟩
      rw [Int.toNat_natCast] at hk0
      rw [decide_eq_true hj]
      try simp (disch := first | omega | with_unfolding_all exact id rfl | with_unfolding_all exact Nat.le_of_ble_eq_true rfl | (simp only [Jd, Je, Jr, Js, Jt, Nat.reduceAdd, allOne, oneCell, Bool.and_self, Jc]; first | done | omega)) only [d0, d1, ↓Qa, ↓Qb, Qd, Qe, Qf, Qg, Qh, Qi, Qj, Qk, Ql, Qm, Qn, Qo, Qp, Qq, Qr, Qs, Qt, Qu, Qv, Qw, Qx, Qy, ptrTo, Qz, QA, QB, QC, QD, QE, QF, QG, QH, QI, QJ, QK, QL, QM, QN, QO, QP, QQ, QR, QS, QT, QU, QV, QW, QX, QY, QZ, Ja, Jb, Jc, Jd, Je, Jf, Jg, Jh, Ji, Jj, Jk, Jl, Jm, Jn, Jo, Jp, Jq, Jr, Js, Jt, Nat.reduceAdd]
      repeat (rw [join_e]; try simp (disch := first | omega | with_unfolding_all exact id rfl | with_unfolding_all exact Nat.le_of_ble_eq_true rfl | (simp only [Jd, Je, Jr, Js, Jt, Nat.reduceAdd, allOne, oneCell, Bool.and_self, Jc]; first | done | omega)) only [d0, d1, ↓Qa, ↓Qb, Qd, Qe, Qf, Qg, Qh, Qi, Qj, Qk, Ql, Qm, Qn, Qo, Qp, Qq, Qr, Qs, Qt, Qu, Qv, Qw, Qx, Qy, ptrTo, Qz, QA, QB, QC, QD, QE, QF, QG, QH, QI, QJ, QK, QL, QM, QN, QO, QP, QQ, QR, QS, QT, QU, QV, QW, QX, QY, QZ, Ja, Jb, Jc, Jd, Je, Jf, Jg, Jh, Ji, Jj, Jk, Jl, Jm, Jn, Jo, Jp, Jq, Jr, Js, Jt, Nat.reduceAdd])
      try simp (disch := first | omega | with_unfolding_all exact id rfl | with_unfolding_all exact Nat.le_of_ble_eq_true rfl | (simp only [Jd, Je, Jr, Js, Jt, Nat.reduceAdd, allOne, oneCell, Bool.and_self, Jc]; first | done | omega)) only [d0, d1, ↓Qa, ↓Qb, Qd, Qe, Qf, Qg, Qh, Qi, Qj, Qk, Ql, Qm, Qn, Qo, Qp, Qq, Qr, Qs, Qt, Qu, Qv, Qw, Qx, Qy, ptrTo, Qz, QA, QB, QC, QD, QE, QF, QG, QH, QI, QJ, QK, QL, QM, QN, QO, QP, QQ, QR, QS, QT, QU, QV, QW, QX, QY, QZ, Ja, Jb, Jc, Jd, Je, Jf, Jg, Jh, Ji, Jj, Jk, Jl, Jm, Jn, Jo, Jp, Jq, Jr, Js, Jt, Nat.reduceAdd]
      rw [hA2.rd, rdn3, oOpt_e]
      refine weight79_sp hlf hw2 q3 q2 hv2 q5 fun m3 e3 => ?_
      have hA3 := hA2.mono e3
      rw [hA3.rd, rdn3, oOpt_e]
      refine weight79_sp hlf (hw2.mono e3) q3 q2 (hv2.mono e3) q5 fun m4 e4 => ?_
      have E4 := e3.trans e4
      have n3 := e3.next
      have n4 := e4.next
      have hA4 := hA3.mono e4
      try simp (disch := first | omega | with_unfolding_all exact id rfl | with_unfolding_all exact Nat.le_of_ble_eq_true rfl | (simp only [Jd, Je, Jr, Js, Jt, Nat.reduceAdd, allOne, oneCell, Bool.and_self, Jc]; first | done | omega)) only [hA4.rd, c0, (hw2.mono E4).ln, (hv2.mono E4).ln, ↓Qa, ↓Qb, Qd, Qe, Qf, Qg, Qh, Qi, Qj, Qk, Ql, Qm, Qn, Qo, Qp, Qq, Qr, Qs, Qt, Qu, Qv, Qw, Qx, Qy, ptrTo, Qz, QA, QB, QC, QD, QE, QF, QG, QH, QI, QJ, QK, QL, QM, QN, QO, QP, QQ, QR, QS, QT, QU, QV, QW, QX, QY, QZ, Ja, Jb, Jc, Jd, Je, Jf, Jg, Jh, Ji, Jj, Jk, Jl, Jm, Jn, Jo, Jp, Jq, Jr, Js, Jt, Nat.reduceAdd]
      rw [show n + 14 = (n + 12 - ws.length) + ws.length + 2 by omega]
      refine round_sp hlf ws.length q2 hs (by omega) fun u m5 e5 hu => ?_
      rw [show (n + 12 - ws.length) + ws.length + 2 = n + 14 by omega]
      have n5 := e5.next
      have hrl := rnd_len q2 hs
      have hcl := chs_le (n := ws.length) (k := t.length) (by omega)
      have hrb := rnd_bl ws.length t.length hs
      have hall : ∀ c, Bl ws.length t.length c → c ∈ rnd ws.length t.length := fun c hc => bl_rnd _ _ _ hc
      have huL := hu.ll
      generalize rnd ws.length t.length = R at hu hrl hrb huL hall
      have E5 := E4.trans e5
      have haw : awayN t t = 0 := (away_zero q5 q5).2 rfl
      refine loop_up R.length (fun i vs m' => ∃ zl zh : Int, vs = [.int .i64 zl, .int .i64 zh, .int .i64 (i : Int)] ∧ Gt m5 m' ∧ ((∃ c, Bl ws.length t.length c ∧ awayN c t ≤ j ∧ (wgt ws c : Int) = zl) ∧ ∀ c ∈ R.take i, awayN c t ≤ j → zl ≤ (wgt ws c : Int)) ∧ ((∃ c, Bl ws.length t.length c ∧ awayN c t ≤ j ∧ (wgt ws c : Int) = zh) ∧ ∀ c ∈ R.take i, awayN c t ≤ j → (wgt ws c : Int) ≤ zh)) (by omega)
        ⟨_, _, rfl, Gt.refl _, ⟨⟨t, q5, by omega, rfl⟩, fun c hc => by simp at hc⟩, ⟨⟨t, q5, by omega, rfl⟩, fun c hc => by simp at hc⟩⟩ ?_
      rintro i vs m6 hi' ⟨zl, zh, rfl, e6, ⟨hl1, hl2⟩, hh1, hh2⟩ self hself
      have n6 := e6.next
      have hu6 := huL.mono e6
      have E6 := E5.trans e6
      have hv6 := hv2.mono E6
      try simp (disch := first | omega | with_unfolding_all exact id rfl | with_unfolding_all exact Nat.le_of_ble_eq_true rfl | (simp only [Jd, Je, Jr, Js, Jt, Nat.reduceAdd, allOne, oneCell, Bool.and_self, Jc]; first | done | omega)) only [hu6.ln, ↓Qa, ↓Qb, Qd, Qe, Qf, Qg, Qh, Qi, Qj, Qk, Ql, Qm, Qn, Qo, Qp, Qq, Qr, Qs, Qt, Qu, Qv, Qw, Qx, Qy, ptrTo, Qz, QA, QB, QC, QD, QE, QF, QG, QH, QI, QJ, QK, QL, QM, QN, QO, QP, QQ, QR, QS, QT, QU, QV, QW, QX, QY, QZ, Ja, Jb, Jc, Jd, Je, Jf, Jg, Jh, Ji, Jj, Jk, Jl, Jm, Jn, Jo, Jp, Jq, Jr, Js, Jt, Nat.reduceAdd]
      refine oIf_dec (fun hh => ?_) (fun hh => ?_)
      · have hil : i < R.length := by omega
        have hbl := hrb _ (List.getElem_mem hil)
        have hbl2 := hbl.len
        have hdl := (away_le hbl q5).1
        obtain ⟨x, x1, x2⟩ := hu6.ld hil
        have hf6 : ∀ K : Value → Option Unit, oInt .add .i64 (.int .i64 (i : Int)) (.int .i64 1) K = K (.int .i64 ((i + 1 : Nat) : Int)) := fun K => by rw [oInt_add ⟨by omega, by omega⟩]; rfl
        rw [hu6.ia hil, oOpt_e, x1, oOpt_e]
        refine less_sp hlf (by omega) x2 hv6 (by omega) (by omega) fun w1 m7 e7 hw1 => ?_
        have n7 := e7.next
        have hl := hw1.ln
        rw [less_len] at hl
        have hu7 := hu6.mono e7
        have E7 := E6.trans e7
        have hA7 := hA2.mono E7
        by_cases hd : awayN R[i] t ≤ j
        · have d2 : decide ((awayN R[i] t : Int) ≤ (j : Int)) = true := decide_eq_true (by omega)
          obtain ⟨y, y1, y2⟩ := hu7.ld hil
          try simp (disch := first | omega | with_unfolding_all exact id rfl | with_unfolding_all exact Nat.le_of_ble_eq_true rfl | (simp only [Jd, Je, Jr, Js, Jt, Nat.reduceAdd, allOne, oneCell, Bool.and_self, Jc]; first | done | omega)) only [hl, d2, ↓Qa, ↓Qb, Qd, Qe, Qf, Qg, Qh, Qi, Qj, Qk, Ql, Qm, Qn, Qo, Qp, Qq, Qr, Qs, Qt, Qu, Qv, Qw, Qx, Qy, ptrTo, Qz, QA, QB, QC, QD, QE, QF, QG, QH, QI, QJ, QK, QL, QM, QN, QO, QP, QQ, QR, QS, QT, QU, QV, QW, QX, QY, QZ, Ja, Jb, Jc, Jd, Je, Jf, Jg, Jh, Ji, Jj, Jk, Jl, Jm, Jn, Jo, Jp, Jq, Jr, Js, Jt, Nat.reduceAdd]
          rw [join_e]
          try simp (disch := first | omega | with_unfolding_all exact id rfl | with_unfolding_all exact Nat.le_of_ble_eq_true rfl | (simp only [Jd, Je, Jr, Js, Jt, Nat.reduceAdd, allOne, oneCell, Bool.and_self, Jc]; first | done | omega)) only [hl, d2, ↓Qa, ↓Qb, Qd, Qe, Qf, Qg, Qh, Qi, Qj, Qk, Ql, Qm, Qn, Qo, Qp, Qq, Qr, Qs, Qt, Qu, Qv, Qw, Qx, Qy, ptrTo, Qz, QA, QB, QC, QD, QE, QF, QG, QH, QI, QJ, QK, QL, QM, QN, QO, QP, QQ, QR, QS, QT, QU, QV, QW, QX, QY, QZ, Ja, Jb, Jc, Jd, Je, Jf, Jg, Jh, Ji, Jj, Jk, Jl, Jm, Jn, Jo, Jp, Jq, Jr, Js, Jt, Nat.reduceAdd]
          rw [hA7.rd, rdn3, oOpt_e, y1, oOpt_e]
          refine weight79_sp hlf (hw2.mono E7) q3 q2 y2 hbl fun m8 e8 => ?_
          have hu8 := hu7.mono e8
          have E8 := E7.trans e8
          have hA8 := hA2.mono E8
          obtain ⟨z, z1, z2⟩ := hu8.ld hil
          rw [minI_e, oOpt_e, hA8.rd, rdn3, oOpt_e, z1, oOpt_e]
          refine weight79_sp hlf (hw2.mono E8) q3 q2 z2 hbl fun m9 e9 => ?_
          rw [maxI_e, oOpt_e]
          try simp (disch := first | omega | with_unfolding_all exact id rfl | with_unfolding_all exact Nat.le_of_ble_eq_true rfl | (simp only [Jd, Je, Jr, Js, Jt, Nat.reduceAdd, allOne, oneCell, Bool.and_self, Jc]; first | done | omega)) only [hf6, ↓Qa, ↓Qb, Qd, Qe, Qf, Qg, Qh, Qi, Qj, Qk, Ql, Qm, Qn, Qo, Qp, Qq, Qr, Qs, Qt, Qu, Qv, Qw, Qx, Qy, ptrTo, Qz, QA, QB, QC, QD, QE, QF, QG, QH, QI, QJ, QK, QL, QM, QN, QO, QP, QQ, QR, QS, QT, QU, QV, QW, QX, QY, QZ, Ja, Jb, Jc, Jd, Je, Jf, Jg, Jh, Ji, Jj, Jk, Jl, Jm, Jn, Jo, Jp, Jq, Jr, Js, Jt, Nat.reduceAdd]
          refine hself hil _ _ ⟨_, _, rfl, ((e6.trans e7).trans e8).trans e9, ⟨?_, fun c hc hcd => ?_⟩, ?_, fun c hc hcd => ?_⟩
          · by_cases hz : zl ≤ (wgt ws R[i] : Int)
            · rw [Int.min_eq_left hz]; exact hl1
            · rw [Int.min_eq_right (by omega)]; exact ⟨_, hbl, hd, rfl⟩
          · rcases (take_mem_succ hil).1 hc with hc | rfl
            · have := hl2 c hc hcd; omega
            · omega
          · by_cases hz : (wgt ws R[i] : Int) ≤ zh
            · rw [Int.max_eq_left hz]; exact hh1
            · rw [Int.max_eq_right (by omega)]; exact ⟨_, hbl, hd, rfl⟩
          · rcases (take_mem_succ hil).1 hc with hc | rfl
            · have := hh2 c hc hcd; omega
            · omega
        · have d2 : decide ((awayN R[i] t : Int) ≤ (j : Int)) = false := decide_eq_false (by omega)
          try simp (disch := first | omega | with_unfolding_all exact id rfl | with_unfolding_all exact Nat.le_of_ble_eq_true rfl | (simp only [Jd, Je, Jr, Js, Jt, Nat.reduceAdd, allOne, oneCell, Bool.and_self, Jc]; first | done | omega)) only [hl, d2, hf6, ↓Qa, ↓Qb, Qd, Qe, Qf, Qg, Qh, Qi, Qj, Qk, Ql, Qm, Qn, Qo, Qp, Qq, Qr, Qs, Qt, Qu, Qv, Qw, Qx, Qy, ptrTo, Qz, QA, QB, QC, QD, QE, QF, QG, QH, QI, QJ, QK, QL, QM, QN, QO, QP, QQ, QR, QS, QT, QU, QV, QW, QX, QY, QZ, Ja, Jb, Jc, Jd, Je, Jf, Jg, Jh, Ji, Jj, Jk, Jl, Jm, Jn, Jo, Jp, Jq, Jr, Js, Jt, Nat.reduceAdd]
          repeat (rw [join_e]; try simp (disch := first | omega | with_unfolding_all exact id rfl | with_unfolding_all exact Nat.le_of_ble_eq_true rfl | (simp only [Jd, Je, Jr, Js, Jt, Nat.reduceAdd, allOne, oneCell, Bool.and_self, Jc]; first | done | omega)) only [hl, d2, hf6, ↓Qa, ↓Qb, Qd, Qe, Qf, Qg, Qh, Qi, Qj, Qk, Ql, Qm, Qn, Qo, Qp, Qq, Qr, Qs, Qt, Qu, Qv, Qw, Qx, Qy, ptrTo, Qz, QA, QB, QC, QD, QE, QF, QG, QH, QI, QJ, QK, QL, QM, QN, QO, QP, QQ, QR, QS, QT, QU, QV, QW, QX, QY, QZ, Ja, Jb, Jc, Jd, Je, Jf, Jg, Jh, Ji, Jj, Jk, Jl, Jm, Jn, Jo, Jp, Jq, Jr, Js, Jt, Nat.reduceAdd])
          try simp (disch := first | omega | with_unfolding_all exact id rfl | with_unfolding_all exact Nat.le_of_ble_eq_true rfl | (simp only [Jd, Je, Jr, Js, Jt, Nat.reduceAdd, allOne, oneCell, Bool.and_self, Jc]; first | done | omega)) only [hl, d2, hf6, ↓Qa, ↓Qb, Qd, Qe, Qf, Qg, Qh, Qi, Qj, Qk, Ql, Qm, Qn, Qo, Qp, Qq, Qr, Qs, Qt, Qu, Qv, Qw, Qx, Qy, ptrTo, Qz, QA, QB, QC, QD, QE, QF, QG, QH, QI, QJ, QK, QL, QM, QN, QO, QP, QQ, QR, QS, QT, QU, QV, QW, QX, QY, QZ, Ja, Jb, Jc, Jd, Je, Jf, Jg, Jh, Ji, Jj, Jk, Jl, Jm, Jn, Jo, Jp, Jq, Jr, Js, Jt, Nat.reduceAdd]
          refine hself hil _ _ ⟨_, _, rfl, e6.trans e7, ⟨hl1, fun c hc hcd => ?_⟩, hh1, fun c hc hcd => ?_⟩
          · rcases (take_mem_succ hil).1 hc with hc | rfl
            · exact hl2 c hc hcd
            · exact absurd hcd hd
          · rcases (take_mem_succ hil).1 hc with hc | rfl
            · exact hh2 c hc hcd
            · exact absurd hcd hd
      · have : i = R.length := by omega
        subst this
        rw [List.take_length] at hl2 hh2
        exact hk0 _ _ _ (G.trans E6) ⟨hl1, fun c hc => hl2 c (hall c hc)⟩ ⟨hh1, fun c hc => hh2 c (hall c hc)⟩
    · rw [decide_eq_false hj]
      try simp (disch := first | omega | with_unfolding_all exact id rfl | with_unfolding_all exact Nat.le_of_ble_eq_true rfl | (simp only [Jd, Je, Jr, Js, Jt, Nat.reduceAdd, allOne, oneCell, Bool.and_self, Jc]; first | done | omega)) only [d0, d1, ↓Qa, ↓Qb, Qd, Qe, Qf, Qg, Qh, Qi, Qj, Qk, Ql, Qm, Qn, Qo, Qp, Qq, Qr, Qs, Qt, Qu, Qv, Qw, Qx, Qy, ptrTo, Qz, QA, QB, QC, QD, QE, QF, QG, QH, QI, QJ, QK, QL, QM, QN, QO, QP, QQ, QR, QS, QT, QU, QV, QW, QX, QY, QZ, Ja, Jb, Jc, Jd, Je, Jf, Jg, Jh, Ji, Jj, Jk, Jl, Jm, Jn, Jo, Jp, Jq, Jr, Js, Jt, Nat.reduceAdd]
      repeat (rw [join_e]; try simp (disch := first | omega | with_unfolding_all exact id rfl | with_unfolding_all exact Nat.le_of_ble_eq_true rfl | (simp only [Jd, Je, Jr, Js, Jt, Nat.reduceAdd, allOne, oneCell, Bool.and_self, Jc]; first | done | omega)) only [d0, d1, ↓Qa, ↓Qb, Qd, Qe, Qf, Qg, Qh, Qi, Qj, Qk, Ql, Qm, Qn, Qo, Qp, Qq, Qr, Qs, Qt, Qu, Qv, Qw, Qx, Qy, ptrTo, Qz, QA, QB, QC, QD, QE, QF, QG, QH, QI, QJ, QK, QL, QM, QN, QO, QP, QQ, QR, QS, QT, QU, QV, QW, QX, QY, QZ, Ja, Jb, Jc, Jd, Je, Jf, Jg, Jh, Ji, Jj, Jk, Jl, Jm, Jn, Jo, Jp, Jq, Jr, Js, Jt, Nat.reduceAdd])
      try simp (disch := first | omega | with_unfolding_all exact id rfl | with_unfolding_all exact Nat.le_of_ble_eq_true rfl | (simp only [Jd, Je, Jr, Js, Jt, Nat.reduceAdd, allOne, oneCell, Bool.and_self, Jc]; first | done | omega)) only [d0, d1, ↓Qa, ↓Qb, Qd, Qe, Qf, Qg, Qh, Qi, Qj, Qk, Ql, Qm, Qn, Qo, Qp, Qq, Qr, Qs, Qt, Qu, Qv, Qw, Qx, Qy, ptrTo, Qz, QA, QB, QC, QD, QE, QF, QG, QH, QI, QJ, QK, QL, QM, QN, QO, QP, QQ, QR, QS, QT, QU, QV, QW, QX, QY, QZ, Ja, Jb, Jc, Jd, Je, Jf, Jg, Jh, Ji, Jj, Jk, Jl, Jm, Jn, Jo, Jp, Jq, Jr, Js, Jt, Nat.reduceAdd]
      exact hk1 _ G h hj
  · try simp (disch := first | omega | with_unfolding_all exact id rfl | with_unfolding_all exact Nat.le_of_ble_eq_true rfl | (simp only [Jd, Je, Jr, Js, Jt, Nat.reduceAdd, allOne, oneCell, Bool.and_self, Jc]; first | done | omega)) only [decide_eq_false h, ↓Qa, ↓Qb, Qd, Qe, Qf, Qg, Qh, Qi, Qj, Qk, Ql, Qm, Qn, Qo, Qp, Qq, Qr, Qs, Qt, Qu, Qv, Qw, Qx, Qy, ptrTo, Qz, QA, QB, QC, QD, QE, QF, QG, QH, QI, QJ, QK, QL, QM, QN, QO, QP, QQ, QR, QS, QT, QU, QV, QW, QX, QY, QZ, Ja, Jb, Jc, Jd, Je, Jf, Jg, Jh, Ji, Jj, Jk, Jl, Jm, Jn, Jo, Jp, Jq, Jr, Js, Jt, Nat.reduceAdd]
    repeat (rw [join_e]; try simp (disch := first | omega | with_unfolding_all exact id rfl | with_unfolding_all exact Nat.le_of_ble_eq_true rfl | (simp only [Jd, Je, Jr, Js, Jt, Nat.reduceAdd, allOne, oneCell, Bool.and_self, Jc]; first | done | omega)) only [decide_eq_false h, ↓Qa, ↓Qb, Qd, Qe, Qf, Qg, Qh, Qi, Qj, Qk, Ql, Qm, Qn, Qo, Qp, Qq, Qr, Qs, Qt, Qu, Qv, Qw, Qx, Qy, ptrTo, Qz, QA, QB, QC, QD, QE, QF, QG, QH, QI, QJ, QK, QL, QM, QN, QO, QP, QQ, QR, QS, QT, QU, QV, QW, QX, QY, QZ, Ja, Jb, Jc, Jd, Je, Jf, Jg, Jh, Ji, Jj, Jk, Jl, Jm, Jn, Jo, Jp, Jq, Jr, Js, Jt, Nat.reduceAdd])
    try simp (disch := first | omega | with_unfolding_all exact id rfl | with_unfolding_all exact Nat.le_of_ble_eq_true rfl | (simp only [Jd, Je, Jr, Js, Jt, Nat.reduceAdd, allOne, oneCell, Bool.and_self, Jc]; first | done | omega)) only [decide_eq_false h, ↓Qa, ↓Qb, Qd, Qe, Qf, Qg, Qh, Qi, Qj, Qk, Ql, Qm, Qn, Qo, Qp, Qq, Qr, Qs, Qt, Qu, Qv, Qw, Qx, Qy, ptrTo, Qz, QA, QB, QC, QD, QE, QF, QG, QH, QI, QJ, QK, QL, QM, QN, QO, QP, QQ, QR, QS, QT, QU, QV, QW, QX, QY, QZ, Ja, Jb, Jc, Jd, Je, Jf, Jg, Jh, Ji, Jj, Jk, Jl, Jm, Jn, Jo, Jp, Jq, Jr, Js, Jt, Nat.reduceAdd]
    exact hk2 _ G h
end
end Go.Vit

/- Walks: leaves get other numbers. -/
namespace Go.Vit
open Go Go.Proofs
attribute [local irreducible] runT loopS
theorem oSm_cell {m m' : Mem} {b o : Nat} {p : Option Addr} {i c : Nat} {kk : Option Unit} (h : m.rd b = some ⟨1, [.slice p i c], none⟩) (h' : m'.rd b = m.rd b) : oSm m m' (.pointer (some ⟨b, o, none⟩)) kk = kk := by
  rw [oSm_u, h', h, bEq_ss, veqL_cons, veq_slice, veqL_nil, Bool.and_self, oIf_t]
theorem azrow_rep : ∀ n : Nat, azrow [.int .i64 0] n = (ci (List.replicate n 0)).map (Value.int .i64)
  | 0 => rfl
  | n + 1 => by
    show Value.int .i64 0 :: azrow [.int .i64 0] n = _
    rw [azrow_rep n]; rfl
theorem ci_set (l : List Nat) (q x : Nat) : ((ci l).map (Value.int .i64)).set q (.int .i64 (x : Int)) = (ci (l.set q x)).map (Value.int .i64) := by
  unfold ci
  rw [List.map_set, List.map_set]
theorem wgt_of {ws b : List Nat} {lo hi : Int} {kk : Nat} (h1 : 1 ≤ ws.length) (h10 : ws.length ≤ 10) (hws : ∀ w ∈ ws, w ≤ 50) (hlh : lo ≤ hi) (hb : Bl ws.length kk b) : bldE (ci ws) lo hi (ci b) = 0 ∧ wgtX (ci ws) lo hi (ci b) = (wgt ws b : Int) := by
  have hz := bldE_z (lo := lo) (hi := hi) h1 h10 hws hlh hb
  refine ⟨hz, ?_⟩
  unfold wgtX
  rw [if_pos hz, nni_ci, nni_ci]
section
variable {lf n L : Nat} {m : Mem} {k : Value → Mem → Option Unit}
theorem ren_sp {to l : List Nat} {N kk tb : Nat} {v tv : Value} (hlf : 1000000 ≤ lf) (hL : L ≤ m.next) (hN : N ≤ 10) (hto : to.Perm (List.range N)) (hv : IN m v l) (hl : Bl N kk l) (ht : At m tb [tv]) (htv : IN m tv to)
    (hk : ∀ u m', Gt m m' → IN m' u (ren to N l) → k u m' = some ()) : runT (tab lf) (n + 2) 54 [v, .pointer (some ⟨tb, 0, none⟩)] L m k = some () := by
  rw [r54]; dsimp only [S54, iofNat, inegSucc]
  have hll := hl.len
  have hle := hl.le
  have htl := to_len hto
  try simp (disch := first | omega | with_unfolding_all exact id rfl | with_unfolding_all exact Nat.le_of_ble_eq_true rfl | (simp only [Jd, Je, Jr, Js, Jt, Nat.reduceAdd, allOne, oneCell, Bool.and_self, Jc]; first | done | omega)) only [hv.ln, ↓Qa, ↓Qb, ↓Qc, Qd, Qe, Qf, Qg, Qh, Qi, Qj, Qk, Ql, Qm, Qn, Qo, Qp, Qq, Qr, Qs, Qt, Qu, Qv, Qw, Qx, Qy, ptrTo, Qz, QA, QB, QC, QD, QE, QF, QG, QH, QI, QJ, QK, QL, QM, QN, QO, QP, QQ, QR, QS, QT, QU, QV, QW, QX, QY, QZ, Ja, Jb, Jc, Jd, Je, Jf, Jg, Jh, Ji, Jj, Jk, Jl, Jm, Jn, Jo, Jp, Jq, Jr, Js, Jt, Nat.reduceAdd]
  refine loop_up l.length (fun i vs m' => ∃ w, vs = [w, .int .i64 (i : Int)] ∧ Gt m m' ∧ GN m.next m' w ((l.take i).map (pi to))) (by omega) ⟨_, rfl, Gt.refl _, GN.nil _ _⟩ ?_
  rintro i vs m5 hi ⟨w, rfl, e5, hw⟩ self hself
  have n5 := e5.next
  have hv5 := hv.mono e5
  have ht5 := ht.mono e5
  have htv5 := htv.mono e5
  have ct : ([tv] : List Value)[0]? = some tv := rfl
  try simp (disch := first | omega | with_unfolding_all exact id rfl | with_unfolding_all exact Nat.le_of_ble_eq_true rfl | (simp only [Jd, Je, Jr, Js, Jt, Nat.reduceAdd, allOne, oneCell, Bool.and_self, Jc]; first | done | omega)) only [↓Qa, ↓Qb, ↓Qc, Qd, Qe, Qf, Qg, Qh, Qi, Qj, Qk, Ql, Qm, Qn, Qo, Qp, Qq, Qr, Qs, Qt, Qu, Qv, Qw, Qx, Qy, ptrTo, Qz, QA, QB, QC, QD, QE, QF, QG, QH, QI, QJ, QK, QL, QM, QN, QO, QP, QQ, QR, QS, QT, QU, QV, QW, QX, QY, QZ, Ja, Jb, Jc, Jd, Je, Jf, Jg, Jh, Ji, Jj, Jk, Jl, Jm, Jn, Jo, Jp, Jq, Jr, Js, Jt, Nat.reduceAdd]
  refine oIf_dec (fun h => ?_) (fun h => ?_)
  · have hil : i < l.length := by omega
    have hx := hl.lt _ (List.getElem_mem hil)
    have hxt : l[i] < to.length := by omega
    have hpi : pi to l[i] = to[l[i]] := getD_at hxt
    have hlen : ((l.take i).map (pi to)).length ≤ i := by rw [List.length_map, List.length_take]; omega
    obtain ⟨w2, m6, h8, h9, h10, h11⟩ := GN.snoc (P := Try.prog) (t := 22) (L := L) (m0 := m) to[l[i]] ael22 (by omega) hw (by omega) (by omega) e5 (Nat.le_refl _)
    rw [hv5.ia hil, oOpt_e, hv5.ld hil, oOpt_e, ht5.rd, rdo_e, ct, oOpt_e, htv5.ia hxt, oOpt_e, htv5.ld hxt, oOpt_e, bs22, oRes_e, h8, oRes_e, oInt_add ⟨by omega, by omega⟩]
    refine hself hil _ _ ⟨w2, rfl, h10, ?_⟩
    rw [List.take_add_one, List.getElem?_eq_getElem hil, Option.toList_some, List.map_append, List.map_cons, List.map_nil, hpi]
    exact h9.le n5
  · have : i = l.length := by omega
    subst this
    rw [List.take_length] at hw
    rw [r55]
    refine sort_sp hw (L := L) hL e5 (Nat.le_refl _) (by rw [ci_length, List.length_map]; omega) fun m6 e6 h6 _ _ => ?_
    have hs : isortI (ci (l.map (pi to))) = ci (ren to N l) := by
      rw [isort_nodup (n := N) (fun x hx => ?_) (map_pi_nodup hto hl.lt (asc_nodup hl.asc))]
      · unfold ren
        congr 1
        refine List.filter_congr fun x _ => ?_
        rw [Bool.eq_iff_iff, List.contains_iff_mem, decide_eq_true_eq]
      · obtain ⟨y, hy, rfl⟩ := List.mem_map.1 hx
        exact pi_lt hto (hl.lt y hy)
    rw [hs] at h6
    exact hk _ _ e6 h6.il
end
end Go.Vit

