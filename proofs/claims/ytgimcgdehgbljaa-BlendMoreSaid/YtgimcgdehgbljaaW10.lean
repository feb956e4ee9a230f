/- Walks: Next, both ways. -/
import Derived.Test.YtgimcgdehgbljaaW9
set_option linter.unusedSimpArgs false
set_option linter.unusedVariables false
set_option maxRecDepth 20000
namespace Go.Vit
open Go Go.Proofs
attribute [local irreducible] runT loopS
/-- The next one of a round of more than one: a blend, another one. -/
theorem nx_ok {a : Nat} {l : List Nat} (h10 : a ≤ 10) (hb : Bl a l.length l) (hc : chs a l.length ≠ 1) : ∃ i, i < chs a l.length ∧ numK l l.length = i ∧ nxK a l = nthK l.length ((i + 1) % chs a l.length) ∧ (i + 1) % chs a l.length < chs a l.length ∧
    Bl a l.length (nxK a l) ∧ (∃ o t, less l (nxK a l) = o :: t) ∧ ∃ o t, less (nxK a l) l = o :: t := by
  obtain ⟨i, hi, g1, g2, g3⟩ := bl_num h10 hb
  have hmod : (i + 1) % chs a l.length < chs a l.length := Nat.mod_lt _ (by omega)
  have hnx : nxK a l = nthK l.length ((i + 1) % chs a l.length) := by unfold nxK; rw [g2]; rfl
  have hbl := nth_bl h10 hb.le hmod
  rw [← hnx] at hbl
  have hne : l ≠ nxK a l := fun he => by
    have h5 := rnd_at h10 hb.le hmod
    rw [← h5.1, ← hnx, ← he, g2] at h5
    have h6 : i = (i + 1) % chs a l.length := Int.ofNat.inj h5.2
    by_cases h7 : i + 1 < chs a l.length
    · rw [Nat.mod_eq_of_lt h7] at h6; omega
    · rw [show i + 1 = chs a l.length by omega, Nat.mod_self] at h6; omega
  have hp : ∀ {x y : List Nat}, Bl a l.length x → Bl a l.length y → x ≠ y → ∃ o t, less x y = o :: t := fun {x y} hx hy hxy => by
    refine List.exists_cons_of_length_pos ?_
    rw [less_len]
    refine Nat.pos_of_ne_zero fun h => hxy ((away_zero hx hy).1 h)
  exact ⟨i, hi, g2, hnx, hmod, hbl, hp hb hbl hne, hp hbl hb (Ne.symm hne)⟩
section
variable {lf n L : Nat} {m : Mem} {k : Value → Mem → Option Unit}
theorem next23_sp {N : Int} {v : Value} {l : List Int} (hlf : 1000000 ≤ lf) (hL : L ≤ m.next) (hv : IL m v l) (ho : Opn v) (hl : l.length < 1000)
    (hk : ∀ u m', Gt m m' → IN m' u (nxtL N l) → k (.tuple ⟨[u, .int .i64 (nxtO N l), .int .i64 (nxtI N l), .int .i64 (nxtE N l)]⟩) m' = some ()) : runT (tab lf) (n + 15) 23 [.int .i64 N, v] L m k = some () := by
  rw [r23]; dsimp only [S23, iofNat, inegSucc]
  try simp (disch := first | omega | with_unfolding_all exact id rfl | with_unfolding_all exact Nat.le_of_ble_eq_true rfl | (simp only [Jd, Je, Jr, Js, Jt, Nat.reduceAdd, allOne, oneCell, Bool.and_self, Jc]; first | done | omega)) only [↓Qa, ↓Qb, ↓Qc, Qd, Qe, Qf, Qg, Qh, Qi, Qj, Qk, Ql, Qm, Qn, Qo, Qp, Qq, Qr, Qs, Qt, Qu, Qv, Qw, Qx, Qy, ptrTo, Qz, QA, QB, QC, QD, QE, QF, QG, QH, QI, QJ, QK, QL, QM, QN, QO, QP, QQ, QR, QS, QT, QU, QV, QW, QX, QY, QZ, Ja, Jb, Jc, Jd, Je, Jf, Jg, Jh, Ji, Jj, Jk, Jl, Jm, Jn, Jo, Jp, Jq, Jr, Js, Jt, Nat.reduceAdd]
  refine check_sp hlf hv (by omega) ?_
  by_cases h : chkB N l = 0
  · have hE : nxtE N l = if chs N.toNat l.length = 1 then 12 else 0 := if_pos h
    obtain ⟨a, l', rfl, h1, h10, rfl, hb⟩ := chkB_bl h
    have hle := hb.le
    have hcl := chs_le (n := a) (k := l'.length) (by omega)
    have hcp := chs_pos (n := a) (by omega) hle
    rw [ci_length, Int.toNat_natCast] at hE
    have hv : IN m v l' := hv
    rw [h]
    try simp (disch := first | omega | with_unfolding_all exact id rfl | with_unfolding_all exact Nat.le_of_ble_eq_true rfl | (simp only [Jd, Je, Jr, Js, Jt, Nat.reduceAdd, allOne, oneCell, Bool.and_self, Jc]; first | done | omega)) only [hv.ln, ↓Qa, ↓Qb, ↓Qc, Qd, Qe, Qf, Qg, Qh, Qi, Qj, Qk, Ql, Qm, Qn, Qo, Qp, Qq, Qr, Qs, Qt, Qu, Qv, Qw, Qx, Qy, ptrTo, Qz, QA, QB, QC, QD, QE, QF, QG, QH, QI, QJ, QK, QL, QM, QN, QO, QP, QQ, QR, QS, QT, QU, QV, QW, QX, QY, QZ, Ja, Jb, Jc, Jd, Je, Jf, Jg, Jh, Ji, Jj, Jk, Jl, Jm, Jn, Jo, Jp, Jq, Jr, Js, Jt, Nat.reduceAdd]
    refine choose_sp hlf (by omega) (by omega) ?_
    by_cases hc : chs a l'.length = 1
    · rw [if_pos hc] at hE
      have h12 : ¬ nxtE (a : Int) (ci l') = 0 := by rw [hE]; decide
      rw [show nxtO (a : Int) (ci l') = 0 from if_neg h12, show nxtI (a : Int) (ci l') = 0 from if_neg h12, show nxtL (a : Int) (ci l') = [] from if_neg h12, hE] at hk
      have d1 : decide ((chs a l'.length : Int) = 1) = true := decide_eq_true (by omega)
      try simp (disch := first | omega | with_unfolding_all exact id rfl | with_unfolding_all exact Nat.le_of_ble_eq_true rfl | (simp only [Jd, Je, Jr, Js, Jt, Nat.reduceAdd, allOne, oneCell, Bool.and_self, Jc]; first | done | omega)) only [d1, ↓Qa, ↓Qb, ↓Qc, Qd, Qe, Qf, Qg, Qh, Qi, Qj, Qk, Ql, Qm, Qn, Qo, Qp, Qq, Qr, Qs, Qt, Qu, Qv, Qw, Qx, Qy, ptrTo, Qz, QA, QB, QC, QD, QE, QF, QG, QH, QI, QJ, QK, QL, QM, QN, QO, QP, QQ, QR, QS, QT, QU, QV, QW, QX, QY, QZ, Ja, Jb, Jc, Jd, Je, Jf, Jg, Jh, Ji, Jj, Jk, Jl, Jm, Jn, Jo, Jp, Jq, Jr, Js, Jt, Nat.reduceAdd]
      exact hk _ _ (Gt.refl _) (IL.nil _)
    · rw [if_neg hc] at hE
      obtain ⟨i, hi, q1, q2, q3, q4, q5, q6⟩ := nx_ok h10 hb hc
      have hnl : nxtL (a : Int) (ci l') = nxK a l' := by unfold nxtL; rw [if_pos hE, nni_ci]; rfl
      have hno : nxtO (a : Int) (ci l') = misI l' (nxK a l') := by unfold nxtO; rw [if_pos hE, nni_ci, hnl]
      have hni : nxtI (a : Int) (ci l') = misI (nxK a l') l' := by unfold nxtI; rw [if_pos hE, nni_ci, hnl]
      rw [hnl, hno, hni, hE] at hk
      have d1 : decide ((chs a l'.length : Int) = 1) = false := decide_eq_false (by omega)
      try simp (disch := first | omega | with_unfolding_all exact id rfl | with_unfolding_all exact Nat.le_of_ble_eq_true rfl | (simp only [Jd, Je, Jr, Js, Jt, Nat.reduceAdd, allOne, oneCell, Bool.and_self, Jc]; first | done | omega)) only [d1, hv.ln, ↓Qa, ↓Qb, ↓Qc, Qd, Qe, Qf, Qg, Qh, Qi, Qj, Qk, Ql, Qm, Qn, Qo, Qp, Qq, Qr, Qs, Qt, Qu, Qv, Qw, Qx, Qy, ptrTo, Qz, QA, QB, QC, QD, QE, QF, QG, QH, QI, QJ, QK, QL, QM, QN, QO, QP, QQ, QR, QS, QT, QU, QV, QW, QX, QY, QZ, Ja, Jb, Jc, Jd, Je, Jf, Jg, Jh, Ji, Jj, Jk, Jl, Jm, Jn, Jo, Jp, Jq, Jr, Js, Jt, Nat.reduceAdd]
      rw [show n + 14 = (n + 12 - l'.length) + l'.length + 2 by omega]
      refine number_sp hlf l'.length (by omega) hv ho rfl (fun x hx => by have := hb.lt x hx; omega) ?_
      have f6 : ∀ K : Value → Option Unit, oInt .add .i64 (.int .i64 (i : Int)) (.int .i64 1) K = K (.int .i64 ((i + 1 : Nat) : Int)) := fun K => by rw [oInt_add ⟨by omega, by omega⟩]; rfl
      rw [q1, f6, oInt_remN (by omega)]
      refine nth_sp hlf hL h10 hle q3 fun u m1 e1 hu _ _ => ?_
      rw [← q2] at hu
      rw [show (n + 12 - l'.length) + l'.length + 2 = (n + 11) + 3 by omega]
      refine missing_sp hlf (hv.mono e1) hu (by omega) (by have := q4.len; omega) ?_
      refine missing_sp hlf hu (hv.mono e1) (by have := q4.len; omega) (by omega) ?_
      exact hk _ _ e1 hu
  · have hE : nxtE N l = chkB N l := if_neg h
    have hE' : ¬ nxtE N l = 0 := by rw [hE]; exact h
    rw [show nxtO N l = 0 from if_neg hE', show nxtI N l = 0 from if_neg hE', show nxtL N l = [] from if_neg hE', hE] at hk
    try simp (disch := first | omega | with_unfolding_all exact id rfl | with_unfolding_all exact Nat.le_of_ble_eq_true rfl | (simp only [Jd, Je, Jr, Js, Jt, Nat.reduceAdd, allOne, oneCell, Bool.and_self, Jc]; first | done | omega)) only [hv.ln, ↓Qa, ↓Qb, ↓Qc, Qd, Qe, Qf, Qg, Qh, Qi, Qj, Qk, Ql, Qm, Qn, Qo, Qp, Qq, Qr, Qs, Qt, Qu, Qv, Qw, Qx, Qy, ptrTo, Qz, QA, QB, QC, QD, QE, QF, QG, QH, QI, QJ, QK, QL, QM, QN, QO, QP, QQ, QR, QS, QT, QU, QV, QW, QX, QY, QZ, Ja, Jb, Jc, Jd, Je, Jf, Jg, Jh, Ji, Jj, Jk, Jl, Jm, Jn, Jo, Jp, Jq, Jr, Js, Jt, Nat.reduceAdd]
    refine choose_any hlf (by omega) fun z => ?_
    try simp (disch := first | omega | with_unfolding_all exact id rfl | with_unfolding_all exact Nat.le_of_ble_eq_true rfl | (simp only [Jd, Je, Jr, Js, Jt, Nat.reduceAdd, allOne, oneCell, Bool.and_self, Jc]; first | done | omega)) only [decide_eq_false h, ↓Qa, ↓Qb, ↓Qc, Qd, Qe, Qf, Qg, Qh, Qi, Qj, Qk, Ql, Qm, Qn, Qo, Qp, Qq, Qr, Qs, Qt, Qu, Qv, Qw, Qx, Qy, ptrTo, Qz, QA, QB, QC, QD, QE, QF, QG, QH, QI, QJ, QK, QL, QM, QN, QO, QP, QQ, QR, QS, QT, QU, QV, QW, QX, QY, QZ, Ja, Jb, Jc, Jd, Je, Jf, Jg, Jh, Ji, Jj, Jk, Jl, Jm, Jn, Jo, Jp, Jq, Jr, Js, Jt, Nat.reduceAdd]
    exact hk _ _ (Gt.refl _) (IL.nil _)
theorem next24_sp {N : Int} {v : Value} {l : List Int} (hlf : 1000000 ≤ lf) (hL : L ≤ m.next) (hv : IL m v l) (hl : l.length < 1000)
    (hk : ∀ u m', Gt m m' → IN m' u (nxtL N l) → k (.tuple ⟨[u, .int .i64 (nxtO N l), .int .i64 (nxtI N l), .int .i64 (nxtE N l)]⟩) m' = some ()) : runT (tab lf) (n + 15) 24 [.int .i64 N, v] L m k = some () := by
  rw [r24]; dsimp only [S24, iofNat, inegSucc]
  try simp (disch := first | omega | with_unfolding_all exact id rfl | with_unfolding_all exact Nat.le_of_ble_eq_true rfl | (simp only [Jd, Je, Jr, Js, Jt, Nat.reduceAdd, allOne, oneCell, Bool.and_self, Jc]; first | done | omega)) only [↓Qa, ↓Qb, ↓Qc, Qd, Qe, Qf, Qg, Qh, Qi, Qj, Qk, Ql, Qm, Qn, Qo, Qp, Qq, Qr, Qs, Qt, Qu, Qv, Qw, Qx, Qy, ptrTo, Qz, QA, QB, QC, QD, QE, QF, QG, QH, QI, QJ, QK, QL, QM, QN, QO, QP, QQ, QR, QS, QT, QU, QV, QW, QX, QY, QZ, Ja, Jb, Jc, Jd, Je, Jf, Jg, Jh, Ji, Jj, Jk, Jl, Jm, Jn, Jo, Jp, Jq, Jr, Js, Jt, Nat.reduceAdd]
  refine number19_sp hlf hL hv (by omega) fun m1 e1 => ?_
  have n1 := e1.next
  by_cases h : chkB N l = 0
  · have hE : nxtE N l = if chs N.toNat l.length = 1 then 12 else 0 := if_pos h
    have hnum : numX N l = numK (nni l) l.length := if_pos h
    obtain ⟨a, l', rfl, h1, h10, rfl, hb⟩ := chkB_bl h
    have hle := hb.le
    have hcl := chs_le (n := a) (k := l'.length) (by omega)
    have hcp := chs_pos (n := a) (by omega) hle
    rw [ci_length, Int.toNat_natCast] at hE
    rw [nni_ci, ci_length] at hnum
    have hv : IN m v l' := hv
    have hv1 := hv.mono e1
    rw [h, hnum]
    try simp (disch := first | omega | with_unfolding_all exact id rfl | with_unfolding_all exact Nat.le_of_ble_eq_true rfl | (simp only [Jd, Je, Jr, Js, Jt, Nat.reduceAdd, allOne, oneCell, Bool.and_self, Jc]; first | done | omega)) only [hv1.ln, ↓Qa, ↓Qb, ↓Qc, Qd, Qe, Qf, Qg, Qh, Qi, Qj, Qk, Ql, Qm, Qn, Qo, Qp, Qq, Qr, Qs, Qt, Qu, Qv, Qw, Qx, Qy, ptrTo, Qz, QA, QB, QC, QD, QE, QF, QG, QH, QI, QJ, QK, QL, QM, QN, QO, QP, QQ, QR, QS, QT, QU, QV, QW, QX, QY, QZ, Ja, Jb, Jc, Jd, Je, Jf, Jg, Jh, Ji, Jj, Jk, Jl, Jm, Jn, Jo, Jp, Jq, Jr, Js, Jt, Nat.reduceAdd]
    rw [show n + 14 = (n + 12 - a) + a + 2 by omega]
    refine round_sp hlf a h10 hle (by omega) fun u m2 e2 hu => ?_
    have n2 := e2.next
    have hv2 := hv1.mono e2
    have hrl := rnd_len h10 hle
    rw [show (n + 12 - a) + a + 2 = n + 14 by omega]
    by_cases hc : chs a l'.length = 1
    · rw [if_pos hc] at hE
      have h12 : ¬ nxtE (a : Int) (ci l') = 0 := by rw [hE]; decide
      rw [show nxtO (a : Int) (ci l') = 0 from if_neg h12, show nxtI (a : Int) (ci l') = 0 from if_neg h12, show nxtL (a : Int) (ci l') = [] from if_neg h12, hE] at hk
      have d1 : decide ((chs a l'.length : Int) = 1) = true := decide_eq_true (by omega)
      rw [hu.ln, hrl]
      try simp (disch := first | omega | with_unfolding_all exact id rfl | with_unfolding_all exact Nat.le_of_ble_eq_true rfl | (simp only [Jd, Je, Jr, Js, Jt, Nat.reduceAdd, allOne, oneCell, Bool.and_self, Jc]; first | done | omega)) only [d1, ↓Qa, ↓Qb, ↓Qc, Qd, Qe, Qf, Qg, Qh, Qi, Qj, Qk, Ql, Qm, Qn, Qo, Qp, Qq, Qr, Qs, Qt, Qu, Qv, Qw, Qx, Qy, ptrTo, Qz, QA, QB, QC, QD, QE, QF, QG, QH, QI, QJ, QK, QL, QM, QN, QO, QP, QQ, QR, QS, QT, QU, QV, QW, QX, QY, QZ, Ja, Jb, Jc, Jd, Je, Jf, Jg, Jh, Ji, Jj, Jk, Jl, Jm, Jn, Jo, Jp, Jq, Jr, Js, Jt, Nat.reduceAdd]
      exact hk _ _ (e1.trans e2) (IL.nil _)
    · rw [if_neg hc] at hE
      obtain ⟨i, hi, q1, q2, q3, q4, ⟨o, t, q5⟩, o', t', q6⟩ := nx_ok h10 hb hc
      have hnl : nxtL (a : Int) (ci l') = nxK a l' := by unfold nxtL; rw [if_pos hE, nni_ci]; rfl
      have hno : nxtO (a : Int) (ci l') = (o : Int) := by unfold nxtO; rw [if_pos hE, nni_ci, hnl]; unfold misI; rw [q5]; rfl
      have hni : nxtI (a : Int) (ci l') = (o' : Int) := by unfold nxtI; rw [if_pos hE, nni_ci, hnl]; unfold misI; rw [q6]; rfl
      rw [hnl, hno, hni, hE] at hk
      have d1 : decide ((chs a l'.length : Int) = 1) = false := decide_eq_false (by omega)
      have f6 : ∀ K : Value → Option Unit, oInt .add .i64 (.int .i64 (i : Int)) (.int .i64 1) K = K (.int .i64 ((i + 1 : Nat) : Int)) := fun K => by rw [oInt_add ⟨by omega, by omega⟩]; rfl
      rw [hu.ln, hrl, q1, oOpt_e, oInt_eql, d1, oIf_f, f6, oOpt_e, oInt_remN (by omega)]
      have hil : (i + 1) % chs a l'.length < (rnd a l'.length).length := by omega
      obtain ⟨x, x1, x2⟩ := hu.ll.ld hil
      rw [rnd_get h10 hle q3 hil, ← q2] at x2
      rw [hu.ll.ia hil, oOpt_e, x1, oOpt_e]
      have hxl := q4.len
      refine less_sp hlf (by omega) hv2 x2 (by omega) (by omega) fun w1 m6 e6 hw1 => ?_
      have n6 := e6.next
      rw [q5] at hw1
      obtain ⟨b1, hb1, rfl, hr1⟩ : ∃ b1, m2.next ≤ b1 ∧ w1 = .slice (some ⟨b1, 0, none⟩) (o :: t).length (o :: t).length ∧ m6.rd b1 = some ⟨1, (ci (o :: t)).map (Value.int .i64), none⟩ := by
        rcases hw1 with ⟨_, h, _⟩ | ⟨b1, h1, h2, h3, _⟩
        · rw [ci_length, List.length_cons] at h; omega
        · rw [ci_length] at h2; exact ⟨b1, h1, h2, h3⟩
      have hia : ia 1 (.slice (some ⟨b1, 0, none⟩) (o :: t).length (o :: t).length) (.int .i64 0) = some (.pointer (some ⟨b1, 0, none⟩)) :=
        ia_e (sz := 1) (i := 0) (show 0 < (o :: t).length by simp)
      have hld : ld1 m6 (.pointer (some ⟨b1, 0, none⟩)) = some (.int .i64 (o : Int)) := by rw [ld1_u, hr1]; rfl
      rw [hia, oOpt_e, hld, oOpt_e]
      refine less_sp hlf (by omega) (x2.mono e6) (hv2.mono e6) (by omega) (by omega) fun w2 m7 e7 hw2 => ?_
      rw [oSm_keep hr1 (e7.kept _ (Mem.rd_lt hr1))]
      rw [q6] at hw2
      have y3 : ia 1 w2 (.int .i64 0) = some (ep 1 w2 0) := hw2.inn.ia (i := 0) (by simp)
      have y4 : ld1 m7 (ep 1 w2 0) = some (.int .i64 (o' : Int)) := hw2.inn.ld (i := 0) (by simp)
      rw [y3, oOpt_e, y4, oOpt_e]
      exact hk _ _ (((e1.trans e2).trans e6).trans e7) ((x2.mono e6).mono e7)
  · have hE : nxtE N l = chkB N l := if_neg h
    have hE' : ¬ nxtE N l = 0 := by rw [hE]; exact h
    rw [show nxtO N l = 0 from if_neg hE', show nxtI N l = 0 from if_neg hE', show nxtL N l = [] from if_neg hE', hE] at hk
    try simp (disch := first | omega | with_unfolding_all exact id rfl | with_unfolding_all exact Nat.le_of_ble_eq_true rfl | (simp only [Jd, Je, Jr, Js, Jt, Nat.reduceAdd, allOne, oneCell, Bool.and_self, Jc]; first | done | omega)) only [decide_eq_false h, ↓Qa, ↓Qb, ↓Qc, Qd, Qe, Qf, Qg, Qh, Qi, Qj, Qk, Ql, Qm, Qn, Qo, Qp, Qq, Qr, Qs, Qt, Qu, Qv, Qw, Qx, Qy, ptrTo, Qz, QA, QB, QC, QD, QE, QF, QG, QH, QI, QJ, QK, QL, QM, QN, QO, QP, QQ, QR, QS, QT, QU, QV, QW, QX, QY, QZ, Ja, Jb, Jc, Jd, Je, Jf, Jg, Jh, Ji, Jj, Jk, Jl, Jm, Jn, Jo, Jp, Jq, Jr, Js, Jt, Nat.reduceAdd]
    exact hk _ _ e1 (IL.nil _)
end
end Go.Vit
