/- Walks: the steps of a box, Step and Sum, both ways. -/
import Derived.Test.YtffomiamkiakcaaW2
set_option linter.unusedSimpArgs false
set_option linter.unusedVariables false
set_option maxRecDepth 20000
namespace Go.Vit
open Go Go.Proofs
attribute [local irreducible] runT loopS
theorem GL.opn {L : Nat} {m : Mem} {v : Value} {l : List Int} (h : GL L m v l) : Opn v := by
  rcases h with ⟨h, _, _⟩ | ⟨b, _, h, _⟩
  · exact .inl h
  · exact .inr ⟨b, 0, none, _, _, h, Nat.le_refl _, .inl rfl⟩
def maxX (l : List Int) (r : Bool) : Int := if chkS l = 0 then (stepX l r).foldl fMax 0 else 0
def sumX (l : List Int) (r : Bool) : Int := if chkS l = 0 then (stepX l r).foldl fAdd 0 else 0
section
variable {lf n L : Nat} {m : Mem} {k : Value → Mem → Option Unit}
theorem steps_sp {v : Value} {l : List Int} {r : Bool} (hlf : 1000000 ≤ lf) (hL : L ≤ m.next) (hv : IL m v l) (ho : Opn v) (h1 : 1 ≤ l.length) (h7 : l.length ≤ 7) (hl : ∀ x ∈ l, 0 ≤ x ∧ x ≤ 60)
    (hk : ∀ u m', Gt m m' → GL m.next m' u (stepX l r) → k u m' = some ()) : runT (tab lf) (n + 4) 93 [v, .bool r] L m k = some () := by
  rw [r93]; dsimp only [S93, iofNat, inegSucc]
  have body : ∀ (c : List Int) (x : Value) (X : Option Value) (m1 : Mem), X = some (.int .i64 (c.length : Int)) → Gt m m1 → IL m1 x c → c = ring l r →
      loopS (fun j17 l15 m16 => uc l15 fun t18 l19 => uc l19 fun t20 l21 => oOpt X fun t22 => oInt .lss .i64 t20 t22 fun t23 => oIf t23 (oInt .sub .i64 t20 (.int .i64 1) fun t24 => oOpt (ia 1 x t24) fun t25 => oOpt (ld1 m16 t25) fun t26 => oOpt (ia 1 x t20) fun t27 => oOpt (ld1 m16 t27) fun t28 =>
        runT (tab lf) (n + 3) 105 [t26, t28] L m16 fun t29 m30 => oRes (bs Try.prog m30 22 1 [(0, t29)]) fun t31 m32 => oRes (aappend Try.prog L m32 22 t18 t31) fun t33 m34 => oInt .add .i64 t20 (.int .i64 1) fun t35 => j17 [t33, t35] m34) (k t18 m16)) lf [.slice none 0 0, .int .i64 1] m1 = some () := by
    intro c x X m1 hX e1 hx hc
    subst hX
    have hcl := ring_len l r
    have hcm : ∀ y ∈ c, 0 ≤ y ∧ y ≤ 60 := fun y hy => hl y (ring_mem (hc ▸ hy))
    have hc1 : 1 ≤ c.length := by
      rw [hc]; unfold ring
      split
      · rw [List.length_append]; omega
      · exact h1
    rw [← hc] at hcl
    have hst : stepX l r = stepL c := by unfold stepX; rw [hc]
    rw [hst] at hk
    have n1 := e1.next
    have ht1 : stepL (c.take (1 + 0)) = [] := by
      rw [Nat.add_zero, List.take_add_one, List.getElem?_eq_getElem (by omega)]; rfl
    refine loop_up (c.length - 1) (fun i vs m' => ∃ u, vs = [u, .int .i64 ((1 + i : Nat) : Int)] ∧ Gt m1 m' ∧ GL m1.next m' u (stepL (c.take (1 + i)))) (by omega) ⟨_, rfl, Gt.refl _, by rw [ht1]; exact GL.nil _ _⟩ ?_
    rintro i vs m2 hi ⟨u, rfl, e2, hu⟩ self hself
    have n2 := e2.next
    have hx2 := hx.mono e2
    try simp (disch := first | omega | with_unfolding_all exact id rfl | with_unfolding_all exact Nat.le_of_ble_eq_true rfl | (simp only [Jd, Je, Jr, Js, Jt, Nat.reduceAdd, allOne, oneCell, Bool.and_self, Jc]; first | done | omega)) only [↓Qa, ↓Qb, ↓Qc, Qd, Qe, Qf, Qg, Qh, Qi, Qj, Qk, Ql, Qm, Qn, Qo, Qp, Qq, Qr, Qs, Qt, Qu, Qv, Qw, Qx, Qy, ptrTo, Qz, QA, QB, QC, QD, QE, QF, QG, QH, QI, QJ, QK, QL, QM, QN, QO, QP, QQ, QR, QS, QT, QU, QV, QW, QX, QY, QZ, Ja, Jb, Jc, Jd, Je, Jf, Jg, Jh, Ji, Jj, Jk, Jl, Jm, Jn, Jo, Jp, Jq, Jr, Js, Jt, Nat.reduceAdd]
    refine oIf_dec (fun h => ?_) (fun h => ?_)
    · have hic : 1 + i < c.length := by omega
      have hi1 : 1 + i - 1 < c.length := by omega
      rw [oInt_sub ⟨by omega, by omega⟩, show ((1 + i : Nat) : Int) - 1 = ((1 + i - 1 : Nat) : Int) by omega, hx2.ia hi1, oOpt_e, hx2.ld hi1, oOpt_e, hx2.ia hic, oOpt_e, hx2.ld hic, oOpt_e]
      refine apart_sp (hcm _ (List.getElem_mem _)) (hcm _ (List.getElem_mem _)) ?_
      have hsl := stepL_len (c.take (1 + i))
      rw [List.length_take] at hsl
      obtain ⟨u', m3, s1, s2, s3, s4, s5⟩ := GL.snocV (P := Try.prog) (L := L) (m0 := m1) (ab (c[1 + i - 1]'hi1) (c[1 + i]'hic)) ael22 (by omega) hu (by omega) (by omega) e2 (Nat.le_refl _)
      rw [bs22, oRes_e, s1, oRes_e, oInt_add ⟨by omega, by omega⟩, show ((1 + i : Nat) : Int) + 1 = ((1 + (i + 1) : Nat) : Int) by omega]
      refine hself (by omega) _ _ ⟨u', rfl, s3, ?_⟩
      rw [show 1 + (i + 1) = 1 + i + 1 by omega, stepL_take (by omega) hic]
      exact s2.le n2
    · rw [List.take_of_length_le (by omega)] at hu
      exact hk u m2 (e1.trans e2) (hu.le n1)
  cases r with
  | false =>
    try simp (disch := first | omega | with_unfolding_all exact id rfl | with_unfolding_all exact Nat.le_of_ble_eq_true rfl | (simp only [Jd, Je, Jr, Js, Jt, Nat.reduceAdd, allOne, oneCell, Bool.and_self, Jc]; first | done | omega)) only [↓Qa, ↓Qb, ↓Qc, Qd, Qe, Qf, Qg, Qh, Qi, Qj, Qk, Ql, Qm, Qn, Qo, Qp, Qq, Qr, Qs, Qt, Qu, Qv, Qw, Qx, Qy, ptrTo, Qz, QA, QB, QC, QD, QE, QF, QG, QH, QI, QJ, QK, QL, QM, QN, QO, QP, QQ, QR, QS, QT, QU, QV, QW, QX, QY, QZ, Ja, Jb, Jc, Jd, Je, Jf, Jg, Jh, Ji, Jj, Jk, Jl, Jm, Jn, Jo, Jp, Jq, Jr, Js, Jt, Nat.reduceAdd]
    exact body l v _ m hv.ln (Gt.refl _) hv (by unfold ring; simp)
  | true =>
    try simp (disch := first | omega | with_unfolding_all exact id rfl | with_unfolding_all exact Nat.le_of_ble_eq_true rfl | (simp only [Jd, Je, Jr, Js, Jt, Nat.reduceAdd, allOne, oneCell, Bool.and_self, Jc]; first | done | omega)) only [↓Qa, ↓Qb, ↓Qc, Qd, Qe, Qf, Qg, Qh, Qi, Qj, Qk, Ql, Qm, Qn, Qo, Qp, Qq, Qr, Qs, Qt, Qu, Qv, Qw, Qx, Qy, ptrTo, Qz, QA, QB, QC, QD, QE, QF, QG, QH, QI, QJ, QK, QL, QM, QN, QO, QP, QQ, QR, QS, QT, QU, QV, QW, QX, QY, QZ, Ja, Jb, Jc, Jd, Je, Jf, Jg, Jh, Ji, Jj, Jk, Jl, Jm, Jn, Jo, Jp, Jq, Jr, Js, Jt, Nat.reduceAdd]
    rw [hv.ln, oOpt_e, oInt_gtr]
    refine oIf_dec (fun h => ?_) (fun h => ?_)
    · have h1l : 1 < l.length := by omega
      obtain ⟨u, hsl, hou, hu⟩ := Opn.preI (P := Try.prog) u22 ts3 ho hv (k := 1) (by omega) (by omega)
      obtain ⟨pv, cv, ev⟩ := hv.ex
      obtain ⟨pu, cu, eu⟩ := hu.ex
      have hsl' : sl Try.prog 22 v none (some (.int .i64 1)) none = some u := hsl
      rw [hsl', oOpt_e]
      have hbs : bs Try.prog m 63 2 [(0, v), (1, u)] = some (slTo 2 m.next, m.push ⟨1, [v, u], none⟩) := by rw [ev, eu]; exact bs632 ..
      rw [hbs, oRes_e]
      have e1 := Mem.gt_push m ⟨1, [v, u], none⟩
      have q1 : (m.push ⟨1, [v, u], none⟩).rd m.next = some ⟨1, [v, u], none⟩ := Mem.rd_push _ _
      generalize m.push ⟨1, [v, u], none⟩ = m1 at e1 q1 ⊢
      have n1 := e1.next
      have htl : (l.take 1).length = 1 := by rw [List.length_take]; omega
      rw [r104]; dsimp only [S104, iofNat, inegSucc]
      try simp (disch := first | omega | with_unfolding_all exact id rfl | with_unfolding_all exact Nat.le_of_ble_eq_true rfl | (simp only [Jd, Je, Jr, Js, Jt, Nat.reduceAdd, allOne, oneCell, Bool.and_self, Jc]; first | done | omega)) only [↓Qa, ↓Qb, ↓Qc, Qd, Qe, Qf, Qg, Qh, Qi, Qj, Qk, Ql, Qm, Qn, Qo, Qp, Qq, Qr, Qs, Qt, Qu, Qv, Qw, Qx, Qy, ptrTo, Qz, QA, QB, QC, QD, QE, QF, QG, QH, QI, QJ, QK, QL, QM, QN, QO, QP, QQ, QR, QS, QT, QU, QV, QW, QX, QY, QZ, Ja, Jb, Jc, Jd, Je, Jf, Jg, Jh, Ji, Jj, Jk, Jl, Jm, Jn, Jo, Jp, Jq, Jr, Js, Jt, Nat.reduceAdd]
      refine concat_sp hlf (by omega) (hv.mono e1) (hu.mono e1) (by omega) (by omega) (by omega) q1 fun x m2 e2 hx => ?_
      exact body (l ++ l.take 1) x _ m2 hx.ln (e1.trans e2) hx (by unfold ring; rw [if_pos (by simpa using h1l)])
    · exact body l v _ m rfl (Gt.refl _) hv (by unfold ring; rw [if_neg (by simp; omega)])
theorem rsteps_sp {v : Value} {l : List Int} {r : Bool} (hlf : 1000000 ≤ lf) (hL : L ≤ m.next) (hv : IL m v l) (h1 : 1 ≤ l.length) (h7 : l.length ≤ 7) (hl : ∀ x ∈ l, 0 ≤ x ∧ x ≤ 60)
    (hk : ∀ u m', Gt m m' → GL m.next m' u (stepX l r) → k u m' = some ()) : runT (tab lf) (n + 1) 94 [v, .bool r] L m k = some () := by
  rw [r94]; dsimp only [S94, iofNat, inegSucc]
  try simp (disch := first | omega | with_unfolding_all exact id rfl | with_unfolding_all exact Nat.le_of_ble_eq_true rfl | (simp only [Jd, Je, Jr, Js, Jt, Nat.reduceAdd, allOne, oneCell, Bool.and_self, Jc]; first | done | omega)) only [↓Qa, ↓Qb, ↓Qc, Qd, Qe, Qf, Qg, Qh, Qi, Qj, Qk, Ql, Qm, Qn, Qo, Qp, Qq, Qr, Qs, Qt, Qu, Qv, Qw, Qx, Qy, ptrTo, Qz, QA, QB, QC, QD, QE, QF, QG, QH, QI, QJ, QK, QL, QM, QN, QO, QP, QQ, QR, QS, QT, QU, QV, QW, QX, QY, QZ, Ja, Jb, Jc, Jd, Je, Jf, Jg, Jh, Ji, Jj, Jk, Jl, Jm, Jn, Jo, Jp, Jq, Jr, Js, Jt, Nat.reduceAdd]
  have hmm : ∀ a b : Int, max a b - min a b = ab a b := fun a b => by unfold ab; omega
  refine loop_up (l.length - 1) (fun i vs m' => ∃ u, vs = [u, .int .i64 (i : Int)] ∧ Gt m m' ∧ GL m.next m' u (stepL (l.take (i + 1)))) (by omega) ⟨_, rfl, Gt.refl _, by rw [show stepL (l.take (0 + 1)) = [] by rw [List.take_add_one, List.getElem?_eq_getElem (by omega)]; rfl]; exact GL.nil _ _⟩ ?_
  rintro i vs m2 hi ⟨u, rfl, e2, hu⟩ self hself
  have n2 := e2.next
  have hv2 := hv.mono e2
  have hsl := stepL_len (l.take (i + 1))
  rw [List.length_take] at hsl
  rw [uc_e, uc_e, oInt_add ⟨by omega, by omega⟩, show (i : Int) + 1 = ((i + 1 : Nat) : Int) by omega, hv2.ln, oOpt_e, oInt_lss]
  refine oIf_dec (fun h => ?_) (fun h => ?_)
  · have hil : i < l.length := by omega
    have hil1 : i + 1 < l.length := by omega
    have b1 := hl _ (List.getElem_mem hil)
    have b2 := hl _ (List.getElem_mem hil1)
    rw [hv2.ia hil, oOpt_e, hv2.ld hil, oOpt_e, oInt_add ⟨by omega, by omega⟩, show (i : Int) + 1 = ((i + 1 : Nat) : Int) by omega, hv2.ia hil1, oOpt_e, hv2.ld hil1, oOpt_e, maxI_e, oOpt_e]
    rw [oOpt_e, hv2.ld hil, oOpt_e]
    rw [oInt_add ⟨by omega, by omega⟩, show (i : Int) + 1 = ((i + 1 : Nat) : Int) by omega, hv2.ia hil1, oOpt_e, hv2.ld hil1, oOpt_e, minI_e, oOpt_e, oInt_sub ⟨by omega, by omega⟩, hmm]
    obtain ⟨u', m3, s1, s2, s3, s4, s5⟩ := GL.snocV (P := Try.prog) (L := L) (m0 := m) (ab l[i] l[i + 1]) ael22 (by omega) hu (by omega) hL e2 (Nat.le_refl _)
    rw [bs22, oRes_e, s1, oRes_e]
    rw [oInt_add ⟨by omega, by omega⟩, show (i : Int) + 1 = ((i + 1 : Nat) : Int) by omega]
    refine hself (by omega) _ _ ⟨u', rfl, s3, ?_⟩
    rw [stepL_take (by omega) hil1]
    exact s2.le n2
  · rw [List.take_of_length_le (by omega)] at hu
    cases r with
    | false =>
      try simp (disch := first | omega | with_unfolding_all exact id rfl | with_unfolding_all exact Nat.le_of_ble_eq_true rfl | (simp only [Jd, Je, Jr, Js, Jt, Nat.reduceAdd, allOne, oneCell, Bool.and_self, Jc]; first | done | omega)) only [↓Qa, ↓Qb, ↓Qc, Qd, Qe, Qf, Qg, Qh, Qi, Qj, Qk, Ql, Qm, Qn, Qo, Qp, Qq, Qr, Qs, Qt, Qu, Qv, Qw, Qx, Qy, ptrTo, Qz, QA, QB, QC, QD, QE, QF, QG, QH, QI, QJ, QK, QL, QM, QN, QO, QP, QQ, QR, QS, QT, QU, QV, QW, QX, QY, QZ, Ja, Jb, Jc, Jd, Je, Jf, Jg, Jh, Ji, Jj, Jk, Jl, Jm, Jn, Jo, Jp, Jq, Jr, Js, Jt, Nat.reduceAdd]
      rw [stepX_flat (by simp)] at hk
      exact hk u m2 e2 hu
    | true =>
      try simp (disch := first | omega | with_unfolding_all exact id rfl | with_unfolding_all exact Nat.le_of_ble_eq_true rfl | (simp only [Jd, Je, Jr, Js, Jt, Nat.reduceAdd, allOne, oneCell, Bool.and_self, Jc]; first | done | omega)) only [hv2.ln, ↓Qa, ↓Qb, ↓Qc, Qd, Qe, Qf, Qg, Qh, Qi, Qj, Qk, Ql, Qm, Qn, Qo, Qp, Qq, Qr, Qs, Qt, Qu, Qv, Qw, Qx, Qy, ptrTo, Qz, QA, QB, QC, QD, QE, QF, QG, QH, QI, QJ, QK, QL, QM, QN, QO, QP, QQ, QR, QS, QT, QU, QV, QW, QX, QY, QZ, Ja, Jb, Jc, Jd, Je, Jf, Jg, Jh, Ji, Jj, Jk, Jl, Jm, Jn, Jo, Jp, Jq, Jr, Js, Jt, Nat.reduceAdd]
      refine oIf_dec (fun h2 => ?_) (fun h2 => ?_)
      · have h1l : 1 < l.length := by omega
        rw [stepX_round h1l] at hk
        have hz : 0 < l.length := by omega
        have hla : l.length - 1 < l.length := by omega
        have b1 := hl _ (List.getElem_mem hz)
        have b2 := hl _ (List.getElem_mem hla)
        have i0 : ia 1 v (.int .i64 0) = some (ep 1 v 0) := hv2.ia hz
        try simp (disch := first | omega | with_unfolding_all exact id rfl | with_unfolding_all exact Nat.le_of_ble_eq_true rfl | (simp only [Jd, Je, Jr, Js, Jt, Nat.reduceAdd, allOne, oneCell, Bool.and_self, Jc]; first | done | omega)) only [i0, hv2.ld hz, hv2.ln, ↓Qa, ↓Qb, ↓Qc, Qd, Qe, Qf, Qg, Qh, Qi, Qj, Qk, Ql, Qm, Qn, Qo, Qp, Qq, Qr, Qs, Qt, Qu, Qv, Qw, Qx, Qy, ptrTo, Qz, QA, QB, QC, QD, QE, QF, QG, QH, QI, QJ, QK, QL, QM, QN, QO, QP, QQ, QR, QS, QT, QU, QV, QW, QX, QY, QZ, Ja, Jb, Jc, Jd, Je, Jf, Jg, Jh, Ji, Jj, Jk, Jl, Jm, Jn, Jo, Jp, Jq, Jr, Js, Jt, Nat.reduceAdd]
        rw [oInt_sub ⟨by omega, by omega⟩, show (l.length : Int) - 1 = ((l.length - 1 : Nat) : Int) by omega]
        try simp (disch := first | omega | with_unfolding_all exact id rfl | with_unfolding_all exact Nat.le_of_ble_eq_true rfl | (simp only [Jd, Je, Jr, Js, Jt, Nat.reduceAdd, allOne, oneCell, Bool.and_self, Jc]; first | done | omega)) only [hv2.ia hla, hv2.ld hla, maxI_e, i0, hv2.ld hz, hv2.ln, ↓Qa, ↓Qb, ↓Qc, Qd, Qe, Qf, Qg, Qh, Qi, Qj, Qk, Ql, Qm, Qn, Qo, Qp, Qq, Qr, Qs, Qt, Qu, Qv, Qw, Qx, Qy, ptrTo, Qz, QA, QB, QC, QD, QE, QF, QG, QH, QI, QJ, QK, QL, QM, QN, QO, QP, QQ, QR, QS, QT, QU, QV, QW, QX, QY, QZ, Ja, Jb, Jc, Jd, Je, Jf, Jg, Jh, Ji, Jj, Jk, Jl, Jm, Jn, Jo, Jp, Jq, Jr, Js, Jt, Nat.reduceAdd]
        rw [oInt_sub ⟨by omega, by omega⟩, show (l.length : Int) - 1 = ((l.length - 1 : Nat) : Int) by omega]
        try simp (disch := first | omega | with_unfolding_all exact id rfl | with_unfolding_all exact Nat.le_of_ble_eq_true rfl | (simp only [Jd, Je, Jr, Js, Jt, Nat.reduceAdd, allOne, oneCell, Bool.and_self, Jc]; first | done | omega)) only [hv2.ia hla, hv2.ld hla, minI_e, ↓Qa, ↓Qb, ↓Qc, Qd, Qe, Qf, Qg, Qh, Qi, Qj, Qk, Ql, Qm, Qn, Qo, Qp, Qq, Qr, Qs, Qt, Qu, Qv, Qw, Qx, Qy, ptrTo, Qz, QA, QB, QC, QD, QE, QF, QG, QH, QI, QJ, QK, QL, QM, QN, QO, QP, QQ, QR, QS, QT, QU, QV, QW, QX, QY, QZ, Ja, Jb, Jc, Jd, Je, Jf, Jg, Jh, Ji, Jj, Jk, Jl, Jm, Jn, Jo, Jp, Jq, Jr, Js, Jt, Nat.reduceAdd]
        rw [oInt_sub ⟨by omega, by omega⟩, hmm, ab_comm]
        obtain ⟨u', m3, s1, s2, s3, s4, s5⟩ := GL.snocV (P := Try.prog) (L := L) (m0 := m) (ab (l[l.length - 1]'hla) (l[0]'hz)) ael22 (by omega) hu (by have := stepL_len l; omega) hL e2 (Nat.le_refl _)
        rw [bs22, oRes_e, s1, oRes_e]
        exact hk u' m3 s3 (s2.le n2)
      · rw [stepX_flat (by simp; omega)] at hk
        exact hk u m2 e2 hu
/-- What is asked about the steps. -/
theorem asked_sp {v : Value} {l : List Int} {r : Bool} {g : Nat} {f : Int → Int → Int} (hlf : 1000000 ≤ lf) (hg : Nat.blt g RB = true) (hL : L ≤ m.next) (hv : IL m v l) (ho : Opn v) (hl : l.length < 1000000)
    (hf : ∀ (L : Nat) (a b : Int) (m' : Mem) (k' : Value → Mem → Option Unit), 0 ≤ a ∧ a ≤ 1000 → 0 ≤ b ∧ b ≤ 60 → k' (.int .i64 (f a b)) m' = some () → runT (tab lf) (n + 4) g [.int .i64 a, .int .i64 b] L m' k' = some ())
    (hb : chkS l = 0 → ∀ i, 0 ≤ ((stepX l r).take i).foldl f 0 ∧ ((stepX l r).take i).foldl f 0 ≤ 1000)
    (hk : ∀ m', Gt m m' → k (.tuple ⟨[.int .i64 (if chkS l = 0 then (stepX l r).foldl f 0 else 0), .int .i64 (chkS l)]⟩) m' = some ()) :
    runT (tab lf) (n + 5) 59 [v, .bool r, .func (.func g) #[] #[]] L m k = some () := by
  rw [r59]; dsimp only [S59, iofNat, inegSucc]
  try simp (disch := first | omega | with_unfolding_all exact id rfl | with_unfolding_all exact Nat.le_of_ble_eq_true rfl | (simp only [Jd, Je, Jr, Js, Jt, Nat.reduceAdd, allOne, oneCell, Bool.and_self, Jc]; first | done | omega)) only [↓Qa, ↓Qb, ↓Qc, Qd, Qe, Qf, Qg, Qh, Qi, Qj, Qk, Ql, Qm, Qn, Qo, Qp, Qq, Qr, Qs, Qt, Qu, Qv, Qw, Qx, Qy, ptrTo, Qz, QA, QB, QC, QD, QE, QF, QG, QH, QI, QJ, QK, QL, QM, QN, QO, QP, QQ, QR, QS, QT, QU, QV, QW, QX, QY, QZ, Ja, Jb, Jc, Jd, Je, Jf, Jg, Jh, Ji, Jj, Jk, Jl, Jm, Jn, Jo, Jp, Jq, Jr, Js, Jt, Nat.reduceAdd]
  refine check_sp hlf hv hl ?_
  try simp (disch := first | omega | with_unfolding_all exact id rfl | with_unfolding_all exact Nat.le_of_ble_eq_true rfl | (simp only [Jd, Je, Jr, Js, Jt, Nat.reduceAdd, allOne, oneCell, Bool.and_self, Jc]; first | done | omega)) only [↓Qa, ↓Qb, ↓Qc, Qd, Qe, Qf, Qg, Qh, Qi, Qj, Qk, Ql, Qm, Qn, Qo, Qp, Qq, Qr, Qs, Qt, Qu, Qv, Qw, Qx, Qy, ptrTo, Qz, QA, QB, QC, QD, QE, QF, QG, QH, QI, QJ, QK, QL, QM, QN, QO, QP, QQ, QR, QS, QT, QU, QV, QW, QX, QY, QZ, Ja, Jb, Jc, Jd, Je, Jf, Jg, Jh, Ji, Jj, Jk, Jl, Jm, Jn, Jo, Jp, Jq, Jr, Js, Jt, Nat.reduceAdd]
  refine oIf_ndec (fun h => ?_) (fun h => ?_)
  · have := hk m (Gt.refl _)
    rw [if_neg h] at this
    exact this
  · have h0 : chkS l = 0 := h
    rw [h0, if_pos rfl] at hk
    obtain ⟨h1, h7, hle⟩ := chkS_ok h0
    refine steps_sp hlf hL hv ho h1 h7 hle fun u m1 e1 hu => ?_
    have hsl := stepX_len l r
    have hbd := stepX_bd (r := r) hle
    have hb' := hb h0
    generalize stepX l r = s at hu hsl hbd hb' hk
    try simp (disch := first | omega | with_unfolding_all exact id rfl | with_unfolding_all exact Nat.le_of_ble_eq_true rfl | (simp only [Jd, Je, Jr, Js, Jt, Nat.reduceAdd, allOne, oneCell, Bool.and_self, Jc]; first | done | omega)) only [hu.ln, ↓Qa, ↓Qb, ↓Qc, Qd, Qe, Qf, Qg, Qh, Qi, Qj, Qk, Ql, Qm, Qn, Qo, Qp, Qq, Qr, Qs, Qt, Qu, Qv, Qw, Qx, Qy, ptrTo, Qz, QA, QB, QC, QD, QE, QF, QG, QH, QI, QJ, QK, QL, QM, QN, QO, QP, QQ, QR, QS, QT, QU, QV, QW, QX, QY, QZ, Ja, Jb, Jc, Jd, Je, Jf, Jg, Jh, Ji, Jj, Jk, Jl, Jm, Jn, Jo, Jp, Jq, Jr, Js, Jt, Nat.reduceAdd]
    refine loop_up s.length (fun i vs m' => vs = [.int .i64 ((s.take i).foldl f 0), .int .i64 (i : Int)] ∧ m' = m1) (by omega) ⟨rfl, rfl⟩ ?_
    rintro i vs m2 hi ⟨rfl, rfl⟩ self hself
    try simp (disch := first | omega | with_unfolding_all exact id rfl | with_unfolding_all exact Nat.le_of_ble_eq_true rfl | (simp only [Jd, Je, Jr, Js, Jt, Nat.reduceAdd, allOne, oneCell, Bool.and_self, Jc]; first | done | omega)) only [↓Qa, ↓Qb, ↓Qc, Qd, Qe, Qf, Qg, Qh, Qi, Qj, Qk, Ql, Qm, Qn, Qo, Qp, Qq, Qr, Qs, Qt, Qu, Qv, Qw, Qx, Qy, ptrTo, Qz, QA, QB, QC, QD, QE, QF, QG, QH, QI, QJ, QK, QL, QM, QN, QO, QP, QQ, QR, QS, QT, QU, QV, QW, QX, QY, QZ, Ja, Jb, Jc, Jd, Je, Jf, Jg, Jh, Ji, Jj, Jk, Jl, Jm, Jn, Jo, Jp, Jq, Jr, Js, Jt, Nat.reduceAdd]
    refine oIf_dec (fun h2 => ?_) (fun h2 => ?_)
    · have his : i < s.length := by omega
      rw [hu.il.ia his, oOpt_e, hu.il.ld his, oOpt_e]
      try rw [oCallV_e _ _ _ _ _ _ _ hg]
      refine hf _ _ _ _ _ (hb' i) (hbd _ (List.getElem_mem his)) ?_
      rw [oInt_add ⟨by omega, by omega⟩]
      refine hself his _ _ ⟨?_, rfl⟩
      rw [foldl_take f 0 his]; rfl
    · rw [List.take_of_length_le (by omega)]
      exact hk _ e1
theorem step_sp {v : Value} {l : List Int} {r : Bool} (hlf : 1000000 ≤ lf) (hL : L ≤ m.next) (hv : IL m v l) (ho : Opn v) (hl : l.length < 1000000)
    (hk : ∀ m', Gt m m' → k (.tuple ⟨[.int .i64 (maxX l r), .int .i64 (chkS l)]⟩) m' = some ()) : runT (tab lf) (n + 6) 16 [v, .bool r] L m k = some () := by
  rw [r16]; dsimp only [S16, iofNat, inegSucc]
  try simp (disch := first | omega | with_unfolding_all exact id rfl | with_unfolding_all exact Nat.le_of_ble_eq_true rfl | (simp only [Jd, Je, Jr, Js, Jt, Nat.reduceAdd, allOne, oneCell, Bool.and_self, Jc]; first | done | omega)) only [↓Qa, ↓Qb, ↓Qc, Qd, Qe, Qf, Qg, Qh, Qi, Qj, Qk, Ql, Qm, Qn, Qo, Qp, Qq, Qr, Qs, Qt, Qu, Qv, Qw, Qx, Qy, ptrTo, Qz, QA, QB, QC, QD, QE, QF, QG, QH, QI, QJ, QK, QL, QM, QN, QO, QP, QQ, QR, QS, QT, QU, QV, QW, QX, QY, QZ, Ja, Jb, Jc, Jd, Je, Jf, Jg, Jh, Ji, Jj, Jk, Jl, Jm, Jn, Jo, Jp, Jq, Jr, Js, Jt, Nat.reduceAdd]
  refine asked_sp (f := fMax) hlf rfl hL hv ho hl (fun L a b m' k' ha hb hk' => ?_) (fun h0 i => ?_) fun m1 e1 => ?_
  · rw [r60]; dsimp only [S60, iofNat, inegSucc]
    rw [uc_e, uc_e, un0_e, maxI_e, oOpt_e]
    exact hk'
  · have := foldl_bd (stepX_bd (r := r) (chkS_ok h0).2.2) i
    omega
  · try simp (disch := first | omega | with_unfolding_all exact id rfl | with_unfolding_all exact Nat.le_of_ble_eq_true rfl | (simp only [Jd, Je, Jr, Js, Jt, Nat.reduceAdd, allOne, oneCell, Bool.and_self, Jc]; first | done | omega)) only [↓Qa, ↓Qb, ↓Qc, Qd, Qe, Qf, Qg, Qh, Qi, Qj, Qk, Ql, Qm, Qn, Qo, Qp, Qq, Qr, Qs, Qt, Qu, Qv, Qw, Qx, Qy, ptrTo, Qz, QA, QB, QC, QD, QE, QF, QG, QH, QI, QJ, QK, QL, QM, QN, QO, QP, QQ, QR, QS, QT, QU, QV, QW, QX, QY, QZ, Ja, Jb, Jc, Jd, Je, Jf, Jg, Jh, Ji, Jj, Jk, Jl, Jm, Jn, Jo, Jp, Jq, Jr, Js, Jt, Nat.reduceAdd]
    exact hk m1 e1
theorem sumS_sp {v : Value} {l : List Int} {r : Bool} (hlf : 1000000 ≤ lf) (hL : L ≤ m.next) (hv : IL m v l) (ho : Opn v) (hl : l.length < 1000000)
    (hk : ∀ m', Gt m m' → k (.tuple ⟨[.int .i64 (sumX l r), .int .i64 (chkS l)]⟩) m' = some ()) : runT (tab lf) (n + 6) 18 [v, .bool r] L m k = some () := by
  rw [r18]; dsimp only [S18, iofNat, inegSucc]
  try simp (disch := first | omega | with_unfolding_all exact id rfl | with_unfolding_all exact Nat.le_of_ble_eq_true rfl | (simp only [Jd, Je, Jr, Js, Jt, Nat.reduceAdd, allOne, oneCell, Bool.and_self, Jc]; first | done | omega)) only [↓Qa, ↓Qb, ↓Qc, Qd, Qe, Qf, Qg, Qh, Qi, Qj, Qk, Ql, Qm, Qn, Qo, Qp, Qq, Qr, Qs, Qt, Qu, Qv, Qw, Qx, Qy, ptrTo, Qz, QA, QB, QC, QD, QE, QF, QG, QH, QI, QJ, QK, QL, QM, QN, QO, QP, QQ, QR, QS, QT, QU, QV, QW, QX, QY, QZ, Ja, Jb, Jc, Jd, Je, Jf, Jg, Jh, Ji, Jj, Jk, Jl, Jm, Jn, Jo, Jp, Jq, Jr, Js, Jt, Nat.reduceAdd]
  refine asked_sp (f := fAdd) hlf rfl hL hv ho hl (fun L a b m' k' ha hb hk' => ?_) (fun h0 i => ?_) fun m1 e1 => ?_
  · rw [r62]; dsimp only [S62, iofNat, inegSucc]
    rw [uc_e, uc_e, un0_e, oInt_add ⟨by omega, by omega⟩]
    exact hk'
  · obtain ⟨g1, g2, g3⟩ := chkS_ok h0
    have h4 := foldl_bd (stepX_bd (r := r) g3)
    have h5 := stepX_len l r
    by_cases hi : i ≤ (stepX l r).length
    · have := h4 i; omega
    · have := h4 (stepX l r).length
      rw [List.take_of_length_le (Nat.le_refl _)] at this
      rw [List.take_of_length_le (by omega)]
      omega
  · try simp (disch := first | omega | with_unfolding_all exact id rfl | with_unfolding_all exact Nat.le_of_ble_eq_true rfl | (simp only [Jd, Je, Jr, Js, Jt, Nat.reduceAdd, allOne, oneCell, Bool.and_self, Jc]; first | done | omega)) only [↓Qa, ↓Qb, ↓Qc, Qd, Qe, Qf, Qg, Qh, Qi, Qj, Qk, Ql, Qm, Qn, Qo, Qp, Qq, Qr, Qs, Qt, Qu, Qv, Qw, Qx, Qy, ptrTo, Qz, QA, QB, QC, QD, QE, QF, QG, QH, QI, QJ, QK, QL, QM, QN, QO, QP, QQ, QR, QS, QT, QU, QV, QW, QX, QY, QZ, Ja, Jb, Jc, Jd, Je, Jf, Jg, Jh, Ji, Jj, Jk, Jl, Jm, Jn, Jo, Jp, Jq, Jr, Js, Jt, Nat.reduceAdd]
    exact hk m1 e1
theorem rmax_sp {v : Value} {l : List Int} {r : Bool} (hlf : 1000000 ≤ lf) (hL : L ≤ m.next) (hv : IL m v l) (h1 : 1 ≤ l.length) (h7 : l.length ≤ 7) (hl : ∀ x ∈ l, 0 ≤ x ∧ x ≤ 60)
    (hk : ∀ m', Gt m m' → k (.int .i64 ((stepX l r).foldl fMax 0)) m' = some ()) : runT (tab lf) (n + 2) 61 [v, .bool r] L m k = some () := by
  rw [r61]; dsimp only [S61, iofNat, inegSucc]
  try simp (disch := first | omega | with_unfolding_all exact id rfl | with_unfolding_all exact Nat.le_of_ble_eq_true rfl | (simp only [Jd, Je, Jr, Js, Jt, Nat.reduceAdd, allOne, oneCell, Bool.and_self, Jc]; first | done | omega)) only [↓Qa, ↓Qb, ↓Qc, Qd, Qe, Qf, Qg, Qh, Qi, Qj, Qk, Ql, Qm, Qn, Qo, Qp, Qq, Qr, Qs, Qt, Qu, Qv, Qw, Qx, Qy, ptrTo, Qz, QA, QB, QC, QD, QE, QF, QG, QH, QI, QJ, QK, QL, QM, QN, QO, QP, QQ, QR, QS, QT, QU, QV, QW, QX, QY, QZ, Ja, Jb, Jc, Jd, Je, Jf, Jg, Jh, Ji, Jj, Jk, Jl, Jm, Jn, Jo, Jp, Jq, Jr, Js, Jt, Nat.reduceAdd]
  refine rsteps_sp hlf hL hv h1 h7 hl fun u m1 e1 hu => ?_
  have hsl := stepX_len l r
  have hbd := stepX_bd (r := r) hl
  generalize stepX l r = s at hu hsl hbd hk
  refine loop_up s.length (fun i vs m' => vs = [.int .i64 ((s.take i).foldl fMax 0), .int .i64 (i : Int)] ∧ m' = m1) (by omega) ⟨rfl, rfl⟩ ?_
  rintro i vs m2 hi ⟨rfl, rfl⟩ self hself
  try simp (disch := first | omega | with_unfolding_all exact id rfl | with_unfolding_all exact Nat.le_of_ble_eq_true rfl | (simp only [Jd, Je, Jr, Js, Jt, Nat.reduceAdd, allOne, oneCell, Bool.and_self, Jc]; first | done | omega)) only [hu.ln, ↓Qa, ↓Qb, ↓Qc, Qd, Qe, Qf, Qg, Qh, Qi, Qj, Qk, Ql, Qm, Qn, Qo, Qp, Qq, Qr, Qs, Qt, Qu, Qv, Qw, Qx, Qy, ptrTo, Qz, QA, QB, QC, QD, QE, QF, QG, QH, QI, QJ, QK, QL, QM, QN, QO, QP, QQ, QR, QS, QT, QU, QV, QW, QX, QY, QZ, Ja, Jb, Jc, Jd, Je, Jf, Jg, Jh, Ji, Jj, Jk, Jl, Jm, Jn, Jo, Jp, Jq, Jr, Js, Jt, Nat.reduceAdd]
  refine oIf_dec (fun h2 => ?_) (fun h2 => ?_)
  · have his : i < s.length := by omega
    rw [hu.il.ia his, oOpt_e, hu.il.ld his, oOpt_e, maxI_e, oOpt_e, oInt_add ⟨by omega, by omega⟩]
    refine hself his _ _ ⟨?_, rfl⟩
    rw [foldl_take fMax 0 his]; rfl
  · rw [List.take_of_length_le (by omega)]
    exact hk _ e1
theorem rsum_sp {v : Value} {l : List Int} {r : Bool} (hlf : 1000000 ≤ lf) (hL : L ≤ m.next) (hv : IL m v l) (h1 : 1 ≤ l.length) (h7 : l.length ≤ 7) (hl : ∀ x ∈ l, 0 ≤ x ∧ x ≤ 60)
    (hk : ∀ m', Gt m m' → k (.int .i64 ((stepX l r).foldl fAdd 0)) m' = some ()) : runT (tab lf) (n + 2) 63 [v, .bool r] L m k = some () := by
  rw [r63]; dsimp only [S63, iofNat, inegSucc]
  try simp (disch := first | omega | with_unfolding_all exact id rfl | with_unfolding_all exact Nat.le_of_ble_eq_true rfl | (simp only [Jd, Je, Jr, Js, Jt, Nat.reduceAdd, allOne, oneCell, Bool.and_self, Jc]; first | done | omega)) only [↓Qa, ↓Qb, ↓Qc, Qd, Qe, Qf, Qg, Qh, Qi, Qj, Qk, Ql, Qm, Qn, Qo, Qp, Qq, Qr, Qs, Qt, Qu, Qv, Qw, Qx, Qy, ptrTo, Qz, QA, QB, QC, QD, QE, QF, QG, QH, QI, QJ, QK, QL, QM, QN, QO, QP, QQ, QR, QS, QT, QU, QV, QW, QX, QY, QZ, Ja, Jb, Jc, Jd, Je, Jf, Jg, Jh, Ji, Jj, Jk, Jl, Jm, Jn, Jo, Jp, Jq, Jr, Js, Jt, Nat.reduceAdd]
  refine rsteps_sp hlf hL hv h1 h7 hl fun u m1 e1 hu => ?_
  have hsl := stepX_len l r
  have hbd := stepX_bd (r := r) hl
  generalize stepX l r = s at hu hsl hbd hk
  refine loop_up s.length (fun i vs m' => vs = [.int .i64 ((s.take i).foldl fAdd 0), .int .i64 (i : Int)] ∧ m' = m1) (by omega) ⟨rfl, rfl⟩ ?_
  rintro i vs m2 hi ⟨rfl, rfl⟩ self hself
  try simp (disch := first | omega | with_unfolding_all exact id rfl | with_unfolding_all exact Nat.le_of_ble_eq_true rfl | (simp only [Jd, Je, Jr, Js, Jt, Nat.reduceAdd, allOne, oneCell, Bool.and_self, Jc]; first | done | omega)) only [hu.ln, ↓Qa, ↓Qb, ↓Qc, Qd, Qe, Qf, Qg, Qh, Qi, Qj, Qk, Ql, Qm, Qn, Qo, Qp, Qq, Qr, Qs, Qt, Qu, Qv, Qw, Qx, Qy, ptrTo, Qz, QA, QB, QC, QD, QE, QF, QG, QH, QI, QJ, QK, QL, QM, QN, QO, QP, QQ, QR, QS, QT, QU, QV, QW, QX, QY, QZ, Ja, Jb, Jc, Jd, Je, Jf, Jg, Jh, Ji, Jj, Jk, Jl, Jm, Jn, Jo, Jp, Jq, Jr, Js, Jt, Nat.reduceAdd]
  refine oIf_dec (fun h2 => ?_) (fun h2 => ?_)
  · have his : i < s.length := by omega
    have hb1 := foldl_bd hbd i
    have hb2 := hbd _ (List.getElem_mem his)
    rw [hu.il.ia his, oOpt_e, hu.il.ld his, oOpt_e, oInt_add ⟨by omega, by omega⟩, oInt_add ⟨by omega, by omega⟩]
    refine hself his _ _ ⟨?_, rfl⟩
    rw [foldl_take fAdd 0 his]; rfl
  · rw [List.take_of_length_le (by omega)]
    exact hk _ e1
theorem rstep_sp {v : Value} {l : List Int} {r : Bool} (hlf : 1000000 ≤ lf) (hL : L ≤ m.next) (hv : IL m v l) (hl : l.length < 1000000)
    (hk : ∀ m', Gt m m' → k (.tuple ⟨[.int .i64 (maxX l r), .int .i64 (chkS l)]⟩) m' = some ()) : runT (tab lf) (n + 3) 17 [v, .bool r] L m k = some () := by
  rw [r17]; dsimp only [S17, iofNat, inegSucc]
  try simp (disch := first | omega | with_unfolding_all exact id rfl | with_unfolding_all exact Nat.le_of_ble_eq_true rfl | (simp only [Jd, Je, Jr, Js, Jt, Nat.reduceAdd, allOne, oneCell, Bool.and_self, Jc]; first | done | omega)) only [↓Qa, ↓Qb, ↓Qc, Qd, Qe, Qf, Qg, Qh, Qi, Qj, Qk, Ql, Qm, Qn, Qo, Qp, Qq, Qr, Qs, Qt, Qu, Qv, Qw, Qx, Qy, ptrTo, Qz, QA, QB, QC, QD, QE, QF, QG, QH, QI, QJ, QK, QL, QM, QN, QO, QP, QQ, QR, QS, QT, QU, QV, QW, QX, QY, QZ, Ja, Jb, Jc, Jd, Je, Jf, Jg, Jh, Ji, Jj, Jk, Jl, Jm, Jn, Jo, Jp, Jq, Jr, Js, Jt, Nat.reduceAdd]
  refine rcheck_sp hlf hv hl ?_
  unfold maxX at hk
  try simp (disch := first | omega | with_unfolding_all exact id rfl | with_unfolding_all exact Nat.le_of_ble_eq_true rfl | (simp only [Jd, Je, Jr, Js, Jt, Nat.reduceAdd, allOne, oneCell, Bool.and_self, Jc]; first | done | omega)) only [↓Qa, ↓Qb, ↓Qc, Qd, Qe, Qf, Qg, Qh, Qi, Qj, Qk, Ql, Qm, Qn, Qo, Qp, Qq, Qr, Qs, Qt, Qu, Qv, Qw, Qx, Qy, ptrTo, Qz, QA, QB, QC, QD, QE, QF, QG, QH, QI, QJ, QK, QL, QM, QN, QO, QP, QQ, QR, QS, QT, QU, QV, QW, QX, QY, QZ, Ja, Jb, Jc, Jd, Je, Jf, Jg, Jh, Ji, Jj, Jk, Jl, Jm, Jn, Jo, Jp, Jq, Jr, Js, Jt, Nat.reduceAdd]
  refine oIf_ndec (fun h => ?_) (fun h => ?_)
  · have := hk m (Gt.refl _)
    rw [if_neg h] at this
    exact this
  · have h0 : chkS l = 0 := h
    rw [h0, if_pos rfl] at hk
    obtain ⟨h1, h7, hle⟩ := chkS_ok h0
    exact rmax_sp hlf hL hv h1 h7 hle hk
theorem rsumS_sp {v : Value} {l : List Int} {r : Bool} (hlf : 1000000 ≤ lf) (hL : L ≤ m.next) (hv : IL m v l) (hl : l.length < 1000000)
    (hk : ∀ m', Gt m m' → k (.tuple ⟨[.int .i64 (sumX l r), .int .i64 (chkS l)]⟩) m' = some ()) : runT (tab lf) (n + 3) 19 [v, .bool r] L m k = some () := by
  rw [r19]; dsimp only [S19, iofNat, inegSucc]
  try simp (disch := first | omega | with_unfolding_all exact id rfl | with_unfolding_all exact Nat.le_of_ble_eq_true rfl | (simp only [Jd, Je, Jr, Js, Jt, Nat.reduceAdd, allOne, oneCell, Bool.and_self, Jc]; first | done | omega)) only [↓Qa, ↓Qb, ↓Qc, Qd, Qe, Qf, Qg, Qh, Qi, Qj, Qk, Ql, Qm, Qn, Qo, Qp, Qq, Qr, Qs, Qt, Qu, Qv, Qw, Qx, Qy, ptrTo, Qz, QA, QB, QC, QD, QE, QF, QG, QH, QI, QJ, QK, QL, QM, QN, QO, QP, QQ, QR, QS, QT, QU, QV, QW, QX, QY, QZ, Ja, Jb, Jc, Jd, Je, Jf, Jg, Jh, Ji, Jj, Jk, Jl, Jm, Jn, Jo, Jp, Jq, Jr, Js, Jt, Nat.reduceAdd]
  refine rcheck_sp hlf hv hl ?_
  unfold sumX at hk
  try simp (disch := first | omega | with_unfolding_all exact id rfl | with_unfolding_all exact Nat.le_of_ble_eq_true rfl | (simp only [Jd, Je, Jr, Js, Jt, Nat.reduceAdd, allOne, oneCell, Bool.and_self, Jc]; first | done | omega)) only [↓Qa, ↓Qb, ↓Qc, Qd, Qe, Qf, Qg, Qh, Qi, Qj, Qk, Ql, Qm, Qn, Qo, Qp, Qq, Qr, Qs, Qt, Qu, Qv, Qw, Qx, Qy, ptrTo, Qz, QA, QB, QC, QD, QE, QF, QG, QH, QI, QJ, QK, QL, QM, QN, QO, QP, QQ, QR, QS, QT, QU, QV, QW, QX, QY, QZ, Ja, Jb, Jc, Jd, Je, Jf, Jg, Jh, Ji, Jj, Jk, Jl, Jm, Jn, Jo, Jp, Jq, Jr, Js, Jt, Nat.reduceAdd]
  refine oIf_ndec (fun h => ?_) (fun h => ?_)
  · have := hk m (Gt.refl _)
    rw [if_neg h] at this
    exact this
  · have h0 : chkS l = 0 := h
    rw [h0, if_pos rfl] at hk
    obtain ⟨h1, h7, hle⟩ := chkS_ok h0
    exact rsum_sp hlf hL hv h1 h7 hle hk
end
end Go.Vit
