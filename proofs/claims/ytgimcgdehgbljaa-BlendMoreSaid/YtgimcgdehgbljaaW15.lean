/- Walks: the nearest blend that fits. -/
import Derived.Test.YtgimcgdehgbljaaW14
import Derived.Test.YtgimcgdehgbljaaP8
set_option linter.unusedSimpArgs false
set_option linter.unusedVariables false
set_option maxRecDepth 20000
namespace Go.Vit
open Go Go.Proofs
attribute [local irreducible] runT loopS
section
variable {lf n L : Nat} {m : Mem} {k : Value → Mem → Option Unit}
theorem nan_sp (a : Int) (hk : k (.bool false) m = some ()) : runT (tab lf) (n + 1) 104 [.int .i64 a] L m k = some () := by
  rw [r104]; dsimp only [S104, iofNat, inegSucc]
  have d1 : decide (a = a) = true := decide_eq_true rfl
  try simp (disch := first | omega | with_unfolding_all exact id rfl | with_unfolding_all exact Nat.le_of_ble_eq_true rfl | (simp only [Jd, Je, Jr, Js, Jt, Nat.reduceAdd, allOne, oneCell, Bool.and_self, Jc]; first | done | omega)) only [d1, ↓Qa, ↓Qb, ↓Qc, Qd, Qe, Qf, Qg, Qh, Qi, Qj, Qk, Ql, Qm, Qn, Qo, Qp, Qq, Qr, Qs, Qt, Qu, Qv, Qw, Qx, Qy, ptrTo, Qz, QA, QB, QC, QD, QE, QF, QG, QH, QI, QJ, QK, QL, QM, QN, QO, QP, QQ, QR, QS, QT, QU, QV, QW, QX, QY, QZ, Ja, Jb, Jc, Jd, Je, Jf, Jg, Jh, Ji, Jj, Jk, Jl, Jm, Jn, Jo, Jp, Jq, Jr, Js, Jt, Nat.reduceAdd]
  exact hk
theorem cmp_sp {a b : Int} (hk : k (.int .i64 (if a < b then -1 else if b < a then 1 else 0)) m = some ()) : runT (tab lf) (n + 2) 88 [.int .i64 a, .int .i64 b] L m k = some () := by
  rw [r88]; dsimp only [S88, iofNat, inegSucc]
  try simp (disch := first | omega | with_unfolding_all exact id rfl | with_unfolding_all exact Nat.le_of_ble_eq_true rfl | (simp only [Jd, Je, Jr, Js, Jt, Nat.reduceAdd, allOne, oneCell, Bool.and_self, Jc]; first | done | omega)) only [↓Qa, ↓Qb, ↓Qc, Qd, Qe, Qf, Qg, Qh, Qi, Qj, Qk, Ql, Qm, Qn, Qo, Qp, Qq, Qr, Qs, Qt, Qu, Qv, Qw, Qx, Qy, ptrTo, Qz, QA, QB, QC, QD, QE, QF, QG, QH, QI, QJ, QK, QL, QM, QN, QO, QP, QQ, QR, QS, QT, QU, QV, QW, QX, QY, QZ, Ja, Jb, Jc, Jd, Je, Jf, Jg, Jh, Ji, Jj, Jk, Jl, Jm, Jn, Jo, Jp, Jq, Jr, Js, Jt, Nat.reduceAdd]
  refine nan_sp a ?_
  refine nan_sp b ?_
  try simp (disch := first | omega | with_unfolding_all exact id rfl | with_unfolding_all exact Nat.le_of_ble_eq_true rfl | (simp only [Jd, Je, Jr, Js, Jt, Nat.reduceAdd, allOne, oneCell, Bool.and_self, Jc]; first | done | omega)) only [↓Qa, ↓Qb, ↓Qc, Qd, Qe, Qf, Qg, Qh, Qi, Qj, Qk, Ql, Qm, Qn, Qo, Qp, Qq, Qr, Qs, Qt, Qu, Qv, Qw, Qx, Qy, ptrTo, Qz, QA, QB, QC, QD, QE, QF, QG, QH, QI, QJ, QK, QL, QM, QN, QO, QP, QQ, QR, QS, QT, QU, QV, QW, QX, QY, QZ, Ja, Jb, Jc, Jd, Je, Jf, Jg, Jh, Ji, Jj, Jk, Jl, Jm, Jn, Jo, Jp, Jq, Jr, Js, Jt, Nat.reduceAdd]
  by_cases h1 : a < b
  · rw [if_pos h1] at hk
    try simp (disch := first | omega | with_unfolding_all exact id rfl | with_unfolding_all exact Nat.le_of_ble_eq_true rfl | (simp only [Jd, Je, Jr, Js, Jt, Nat.reduceAdd, allOne, oneCell, Bool.and_self, Jc]; first | done | omega)) only [decide_eq_true h1, ↓Qa, ↓Qb, ↓Qc, Qd, Qe, Qf, Qg, Qh, Qi, Qj, Qk, Ql, Qm, Qn, Qo, Qp, Qq, Qr, Qs, Qt, Qu, Qv, Qw, Qx, Qy, ptrTo, Qz, QA, QB, QC, QD, QE, QF, QG, QH, QI, QJ, QK, QL, QM, QN, QO, QP, QQ, QR, QS, QT, QU, QV, QW, QX, QY, QZ, Ja, Jb, Jc, Jd, Je, Jf, Jg, Jh, Ji, Jj, Jk, Jl, Jm, Jn, Jo, Jp, Jq, Jr, Js, Jt, Nat.reduceAdd]
    exact hk
  · rw [if_neg h1] at hk
    by_cases h2 : b < a
    · rw [if_pos h2] at hk
      try simp (disch := first | omega | with_unfolding_all exact id rfl | with_unfolding_all exact Nat.le_of_ble_eq_true rfl | (simp only [Jd, Je, Jr, Js, Jt, Nat.reduceAdd, allOne, oneCell, Bool.and_self, Jc]; first | done | omega)) only [decide_eq_false h1, decide_eq_true h2, ↓Qa, ↓Qb, ↓Qc, Qd, Qe, Qf, Qg, Qh, Qi, Qj, Qk, Ql, Qm, Qn, Qo, Qp, Qq, Qr, Qs, Qt, Qu, Qv, Qw, Qx, Qy, ptrTo, Qz, QA, QB, QC, QD, QE, QF, QG, QH, QI, QJ, QK, QL, QM, QN, QO, QP, QQ, QR, QS, QT, QU, QV, QW, QX, QY, QZ, Ja, Jb, Jc, Jd, Je, Jf, Jg, Jh, Ji, Jj, Jk, Jl, Jm, Jn, Jo, Jp, Jq, Jr, Js, Jt, Nat.reduceAdd]
      exact hk
    · rw [if_neg h2] at hk
      try simp (disch := first | omega | with_unfolding_all exact id rfl | with_unfolding_all exact Nat.le_of_ble_eq_true rfl | (simp only [Jd, Je, Jr, Js, Jt, Nat.reduceAdd, allOne, oneCell, Bool.and_self, Jc]; first | done | omega)) only [decide_eq_false h1, decide_eq_false h2, ↓Qa, ↓Qb, ↓Qc, Qd, Qe, Qf, Qg, Qh, Qi, Qj, Qk, Ql, Qm, Qn, Qo, Qp, Qq, Qr, Qs, Qt, Qu, Qv, Qw, Qx, Qy, ptrTo, Qz, QA, QB, QC, QD, QE, QF, QG, QH, QI, QJ, QK, QL, QM, QN, QO, QP, QQ, QR, QS, QT, QU, QV, QW, QX, QY, QZ, Ja, Jb, Jc, Jd, Je, Jf, Jg, Jh, Ji, Jj, Jk, Jl, Jm, Jn, Jo, Jp, Jq, Jr, Js, Jt, Nat.reduceAdd]
      exact hk
theorem compare_sp {v u : Value} {a b : List Nat} (hlf : 1000000 ≤ lf) (hv : IN m v a) (hu : IN m u b) (hl : a.length < 1000000) (hl2 : b.length < 1000000) (hk : k (.int .i64 (cmpL a b)) m = some ()) : runT (tab lf) (n + 3) 58 [v, u] L m k = some () := by
  rw [r58]; dsimp only [S58, iofNat, inegSucc]
  try simp (disch := first | omega | with_unfolding_all exact id rfl | with_unfolding_all exact Nat.le_of_ble_eq_true rfl | (simp only [Jd, Je, Jr, Js, Jt, Nat.reduceAdd, allOne, oneCell, Bool.and_self, Jc]; first | done | omega)) only [hv.ln, ↓Qa, ↓Qb, ↓Qc, Qd, Qe, Qf, Qg, Qh, Qi, Qj, Qk, Ql, Qm, Qn, Qo, Qp, Qq, Qr, Qs, Qt, Qu, Qv, Qw, Qx, Qy, ptrTo, Qz, QA, QB, QC, QD, QE, QF, QG, QH, QI, QJ, QK, QL, QM, QN, QO, QP, QQ, QR, QS, QT, QU, QV, QW, QX, QY, QZ, Ja, Jb, Jc, Jd, Je, Jf, Jg, Jh, Ji, Jj, Jk, Jl, Jm, Jn, Jo, Jp, Jq, Jr, Js, Jt, Nat.reduceAdd]
  refine loop_up a.length (fun i vs m' => vs = [.int .i64 (i : Int)] ∧ m' = m ∧ i ≤ b.length ∧ cmpL a b = cmpL (a.drop i) (b.drop i)) (by omega) ⟨rfl, rfl, Nat.zero_le _, rfl⟩ ?_
  rintro i vs m' hi ⟨rfl, rfl, hib, hI⟩ self hself
  try simp (disch := first | omega | with_unfolding_all exact id rfl | with_unfolding_all exact Nat.le_of_ble_eq_true rfl | (simp only [Jd, Je, Jr, Js, Jt, Nat.reduceAdd, allOne, oneCell, Bool.and_self, Jc]; first | done | omega)) only [↓Qa, ↓Qb, ↓Qc, Qd, Qe, Qf, Qg, Qh, Qi, Qj, Qk, Ql, Qm, Qn, Qo, Qp, Qq, Qr, Qs, Qt, Qu, Qv, Qw, Qx, Qy, ptrTo, Qz, QA, QB, QC, QD, QE, QF, QG, QH, QI, QJ, QK, QL, QM, QN, QO, QP, QQ, QR, QS, QT, QU, QV, QW, QX, QY, QZ, Ja, Jb, Jc, Jd, Je, Jf, Jg, Jh, Ji, Jj, Jk, Jl, Jm, Jn, Jo, Jp, Jq, Jr, Js, Jt, Nat.reduceAdd]
  refine oIf_dec (fun h => ?_) (fun h => ?_)
  · have hil : i < a.length := by omega
    rw [List.drop_eq_getElem_cons hil] at hI
    rw [hv.ia hil, oOpt_e, hv.ld hil, oOpt_e, hu.ln, oOpt_e, oInt_geq]
    refine oIf_dec (fun h1 => ?_) (fun h1 => ?_)
    · rw [show b.drop i = [] from List.drop_eq_nil_of_le (by omega)] at hI
      rw [hI] at hk
      exact hk
    · have hil2 : i < b.length := by omega
      rw [List.drop_eq_getElem_cons hil2] at hI
      have hI2 : cmpL a b = if a[i] < b[i] then -1 else if b[i] < a[i] then 1 else cmpL (a.drop (i + 1)) (b.drop (i + 1)) := hI
      rw [hu.ia hil2, oOpt_e, hu.ld hil2, oOpt_e]
      refine cmp_sp ?_
      by_cases q1 : a[i] < b[i]
      · rw [if_pos q1] at hI2
        rw [if_pos (show (a[i] : Int) < (b[i] : Int) by omega)]
        rw [hI2] at hk
        have d1 : decide ((-1 : Int) = 0) = false := by decide
        try simp (disch := first | omega | with_unfolding_all exact id rfl | with_unfolding_all exact Nat.le_of_ble_eq_true rfl | (simp only [Jd, Je, Jr, Js, Jt, Nat.reduceAdd, allOne, oneCell, Bool.and_self, Jc]; first | done | omega)) only [d1, ↓Qa, ↓Qb, ↓Qc, Qd, Qe, Qf, Qg, Qh, Qi, Qj, Qk, Ql, Qm, Qn, Qo, Qp, Qq, Qr, Qs, Qt, Qu, Qv, Qw, Qx, Qy, ptrTo, Qz, QA, QB, QC, QD, QE, QF, QG, QH, QI, QJ, QK, QL, QM, QN, QO, QP, QQ, QR, QS, QT, QU, QV, QW, QX, QY, QZ, Ja, Jb, Jc, Jd, Je, Jf, Jg, Jh, Ji, Jj, Jk, Jl, Jm, Jn, Jo, Jp, Jq, Jr, Js, Jt, Nat.reduceAdd]
        exact hk
      · rw [if_neg q1] at hI2
        rw [if_neg (show ¬ (a[i] : Int) < (b[i] : Int) by omega)]
        by_cases q2 : b[i] < a[i]
        · rw [if_pos q2] at hI2
          rw [if_pos (show (b[i] : Int) < (a[i] : Int) by omega)]
          rw [hI2] at hk
          have d1 : decide ((1 : Int) = 0) = false := by decide
          try simp (disch := first | omega | with_unfolding_all exact id rfl | with_unfolding_all exact Nat.le_of_ble_eq_true rfl | (simp only [Jd, Je, Jr, Js, Jt, Nat.reduceAdd, allOne, oneCell, Bool.and_self, Jc]; first | done | omega)) only [d1, ↓Qa, ↓Qb, ↓Qc, Qd, Qe, Qf, Qg, Qh, Qi, Qj, Qk, Ql, Qm, Qn, Qo, Qp, Qq, Qr, Qs, Qt, Qu, Qv, Qw, Qx, Qy, ptrTo, Qz, QA, QB, QC, QD, QE, QF, QG, QH, QI, QJ, QK, QL, QM, QN, QO, QP, QQ, QR, QS, QT, QU, QV, QW, QX, QY, QZ, Ja, Jb, Jc, Jd, Je, Jf, Jg, Jh, Ji, Jj, Jk, Jl, Jm, Jn, Jo, Jp, Jq, Jr, Js, Jt, Nat.reduceAdd]
          exact hk
        · rw [if_neg q2] at hI2
          rw [if_neg (show ¬ (b[i] : Int) < (a[i] : Int) by omega)]
          have d1 : decide ((0 : Int) = 0) = true := by decide
          try simp (disch := first | omega | with_unfolding_all exact id rfl | with_unfolding_all exact Nat.le_of_ble_eq_true rfl | (simp only [Jd, Je, Jr, Js, Jt, Nat.reduceAdd, allOne, oneCell, Bool.and_self, Jc]; first | done | omega)) only [d1, ↓Qa, ↓Qb, ↓Qc, Qd, Qe, Qf, Qg, Qh, Qi, Qj, Qk, Ql, Qm, Qn, Qo, Qp, Qq, Qr, Qs, Qt, Qu, Qv, Qw, Qx, Qy, ptrTo, Qz, QA, QB, QC, QD, QE, QF, QG, QH, QI, QJ, QK, QL, QM, QN, QO, QP, QQ, QR, QS, QT, QU, QV, QW, QX, QY, QZ, Ja, Jb, Jc, Jd, Je, Jf, Jg, Jh, Ji, Jj, Jk, Jl, Jm, Jn, Jo, Jp, Jq, Jr, Js, Jt, Nat.reduceAdd]
          rw [oInt_add ⟨by omega, by omega⟩]
          exact hself hil _ _ ⟨rfl, rfl, by omega, hI2⟩
  · have : i = a.length := by omega
    subst this
    rw [List.drop_eq_nil_of_le (Nat.le_refl _)] at hI
    try simp (disch := first | omega | with_unfolding_all exact id rfl | with_unfolding_all exact Nat.le_of_ble_eq_true rfl | (simp only [Jd, Je, Jr, Js, Jt, Nat.reduceAdd, allOne, oneCell, Bool.and_self, Jc]; first | done | omega)) only [hv.ln, hu.ln, ↓Qa, ↓Qb, ↓Qc, Qd, Qe, Qf, Qg, Qh, Qi, Qj, Qk, Ql, Qm, Qn, Qo, Qp, Qq, Qr, Qs, Qt, Qu, Qv, Qw, Qx, Qy, ptrTo, Qz, QA, QB, QC, QD, QE, QF, QG, QH, QI, QJ, QK, QL, QM, QN, QO, QP, QQ, QR, QS, QT, QU, QV, QW, QX, QY, QZ, Ja, Jb, Jc, Jd, Je, Jf, Jg, Jh, Ji, Jj, Jk, Jl, Jm, Jn, Jo, Jp, Jq, Jr, Js, Jt, Nat.reduceAdd]
    by_cases h2 : a.length < b.length
    · rw [List.drop_eq_getElem_cons h2] at hI
      have d1 : decide ((a.length : Int) < (b.length : Int)) = true := decide_eq_true (by omega)
      rw [hI] at hk
      try simp (disch := first | omega | with_unfolding_all exact id rfl | with_unfolding_all exact Nat.le_of_ble_eq_true rfl | (simp only [Jd, Je, Jr, Js, Jt, Nat.reduceAdd, allOne, oneCell, Bool.and_self, Jc]; first | done | omega)) only [d1, ↓Qa, ↓Qb, ↓Qc, Qd, Qe, Qf, Qg, Qh, Qi, Qj, Qk, Ql, Qm, Qn, Qo, Qp, Qq, Qr, Qs, Qt, Qu, Qv, Qw, Qx, Qy, ptrTo, Qz, QA, QB, QC, QD, QE, QF, QG, QH, QI, QJ, QK, QL, QM, QN, QO, QP, QQ, QR, QS, QT, QU, QV, QW, QX, QY, QZ, Ja, Jb, Jc, Jd, Je, Jf, Jg, Jh, Ji, Jj, Jk, Jl, Jm, Jn, Jo, Jp, Jq, Jr, Js, Jt, Nat.reduceAdd]
      exact hk
    · rw [List.drop_eq_nil_of_le (by omega)] at hI
      have d1 : decide ((a.length : Int) < (b.length : Int)) = false := decide_eq_false (by omega)
      rw [hI] at hk
      try simp (disch := first | omega | with_unfolding_all exact id rfl | with_unfolding_all exact Nat.le_of_ble_eq_true rfl | (simp only [Jd, Je, Jr, Js, Jt, Nat.reduceAdd, allOne, oneCell, Bool.and_self, Jc]; first | done | omega)) only [d1, ↓Qa, ↓Qb, ↓Qc, Qd, Qe, Qf, Qg, Qh, Qi, Qj, Qk, Ql, Qm, Qn, Qo, Qp, Qq, Qr, Qs, Qt, Qu, Qv, Qw, Qx, Qy, ptrTo, Qz, QA, QB, QC, QD, QE, QF, QG, QH, QI, QJ, QK, QL, QM, QN, QO, QP, QQ, QR, QS, QT, QU, QV, QW, QX, QY, QZ, Ja, Jb, Jc, Jd, Je, Jf, Jg, Jh, Ji, Jj, Jk, Jl, Jm, Jn, Jo, Jp, Jq, Jr, Js, Jt, Nat.reduceAdd]
      exact hk
/-- What the rounds hold: the best one, and how far it is. -/
def NrJ (X : Nat → Prop) (y fb bb tb : Nat) (t : List Nat) (seen : List (List Nat)) (m : Mem) : Prop :=
  Rdy 38 m y [.pointer (some ⟨fb, 0, none⟩), .pointer (some ⟨bb, 0, none⟩), .pointer (some ⟨tb, 0, none⟩)] ∧ m.rd fb = some ⟨1, [.int .i64 ((nearF t seen).2 : Int)], none⟩ ∧
    ∃ bv, m.rd bb = some ⟨1, [bv], none⟩ ∧ IN m bv (nearF t seen).1 ∧ ∀ c, bid bv = some c → ¬ X c
theorem round38_sp {X : Nat → Prop} {y fb bb tb : Nat} {u tv : Value} {b t : List Nat} {seen : List (List Nat)} {N kk : Nat} (hlf : 1000000 ≤ lf) (hLy : L ≤ y) (hLf : L ≤ fb) (hLb : L ≤ bb) (hX : ∀ c, X c ↔ c = y ∨ c = fb ∨ c = bb) (h1 : y ≠ fb) (h2 : y ≠ bb) (h3 : fb ≠ bb) (htX : ¬ X tb)
    (hj : NrJ X y fb bb tb t seen m) (htb : At m tb [tv]) (ht : IN m tv t) (htl : t.length < 100) (hu : IN m u b) (hub : ∀ c, bid u = some c → ¬ X c) (hbl : b.length < 100)
    (htv : 0 < t.length → ∀ c, bid tv = some c → ¬ X c) (hseen : ∀ x ∈ seen, x.length < 100)
    (hk : ∀ m', GtX X m m' → NrJ X y fb bb tb t (seen ++ [b]) m' → k (.bool true) m' = some ()) :
    oCallV (runT (tab lf) (n + 4)) (yv y) [u] L m k = some () := by
  obtain ⟨hr, hf, bv, hb1, hb2, hb3⟩ := hj
  rw [oCallV_y hr, rR38]
  dsimp only [R38, iofNat, inegSucc]
  have hylt := hr.lt
  have hflt := Mem.rd_lt hf
  have hblt := Mem.rd_lt hb1
  rw [uc_e, oYv_e hLy]
  show uc [.pointer (some ⟨fb, 0, none⟩), .pointer (some ⟨bb, 0, none⟩), .pointer (some ⟨tb, 0, none⟩), u] _ = _
  rw [uc_e, uc_e, uc_e, uc_e, un0_e, oBusy_e hr]
  generalize hcs : ([.pointer (some ⟨fb, 0, none⟩), .pointer (some ⟨bb, 0, none⟩), .pointer (some ⟨tb, 0, none⟩)] : List Value) = CS at hr ⊢
  have x1 : Bsy 38 (m.put y (some ⟨Nat.succ (Nat.succ (Nat.mul 2 38)), CS, some []⟩)) y CS := Mem.rd_put_eq _ _ hylt
  have g1 : GtX X m (m.put y (some ⟨Nat.succ (Nat.succ (Nat.mul 2 38)), CS, some []⟩)) := (GtX.refl m).put ((hX y).2 (.inl rfl)) _
  have k1 : ∀ c, c ≠ y → (m.put y (some ⟨Nat.succ (Nat.succ (Nat.mul 2 38)), CS, some []⟩)).rd c = m.rd c := fun c hc => Mem.rd_put _ _ _ _ (Ne.symm hc)
  have n1 : (m.put y (some ⟨Nat.succ (Nat.succ (Nat.mul 2 38)), CS, some []⟩)).next = m.next := rfl
  generalize m.put y (some ⟨Nat.succ (Nat.succ (Nat.mul 2 38)), CS, some []⟩) = m1 at x1 g1 k1 n1 ⊢
  have htb1 := htb.monoX g1 htX
  have ht1 := ht.monoX g1 htv
  have hu1 := hu.monoX g1 (fun _ => hub)
  have hf1 := (k1 fb (Ne.symm h1)).trans hf
  have hb11 := (k1 bb (Ne.symm h2)).trans hb1
  have hb21 := hb2.monoX g1 (fun _ => hb3)
  have ct : ([tv] : List Value)[0]? = some tv := rfl
  have cb : ([bv] : List Value)[0]? = some bv := rfl
  rw [ld1_u, htb1.rd, rdo_e, ct, oOpt_e]
  refine away_sp hlf hu1 ht1 (by omega) (by omega) ?_
  have hsn := nearF_snoc t seen b
  have hfl := nearF_le t seen
  have hal : awayN b t ≤ b.length := by
    have := List.length_filter_le (fun x => !decide (x ∈ t)) b
    exact this
  have hbest : (nearF t seen).1.length < 100 := by
    rcases (near_inv t seen ([], 11)).2.2 with h | ⟨h, _⟩
    · have : nearF t seen = ([], 11) := h
      rw [this]; decide
    · exact hseen _ h
  have hcf : ([.int .i64 ((nearF t seen).2 : Int)] : List Value)[0]? = some (.int .i64 ((nearF t seen).2 : Int)) := rfl
  -- the two ends
  have hno : nearS t (nearF t seen) b = nearF t seen → k (.bool true) (m1.put y (some ⟨Nat.succ (Nat.mul 2 38), CS, some []⟩)) = some () := fun hst => by
    rw [hst] at hsn
    refine hk _ (g1.put ((hX y).2 (.inl rfl)) _) ⟨?_, ?_, bv, ?_, ?_, hb3⟩
    · rw [hcs]; exact Mem.rd_put_eq _ _ (by omega)
    · rw [hsn]; exact (Mem.rd_put _ _ _ _ h1).trans hf1
    · exact (Mem.rd_put _ _ _ _ h2).trans hb11
    · rw [hsn]
      exact hb21.monoX ((GtX.refl m1).put ((hX y).2 (.inl rfl)) _) (fun _ => hb3)
  have hyes : nearS t (nearF t seen) b = (b, awayN b t) → (oRes (stw 1 L m1 bb 0 u.cells.toList (m1.rd bb)) fun t34 m35 => oRes (stw 1 L m35 fb 0 [.int .i64 (awayN b t : Int)] (m35.rd fb)) fun t36 m37 => oReady 38 y m37 fun m33 => k (.bool true) m33) = some () := fun hst => by
    rw [hst] at hsn
    obtain ⟨pu, cu, eu⟩ := hu1.ex
    have hst1 := st_set (L := L) (x := u) hb11 Nat.zero_lt_one hLb (by rw [eu]; rfl) (by rw [eu]; rfl)
    rw [st1_u] at hst1
    rw [hst1, oRes_e]
    have g2 := (GtX.refl m1).put ((hX bb).2 (.inr (.inr rfl))) (some ⟨1, [bv].set 0 u, none⟩)
    have y2 : (m1.put bb (some ⟨1, [bv].set 0 u, none⟩)).rd bb = some ⟨1, [u], none⟩ := Mem.rd_put_eq _ _ (by omega)
    have f2 : (m1.put bb (some ⟨1, [bv].set 0 u, none⟩)).rd fb = some ⟨1, [.int .i64 ((nearF t seen).2 : Int)], none⟩ := (Mem.rd_put _ _ _ _ (Ne.symm h3)).trans hf1
    have x2 : Bsy 38 (m1.put bb (some ⟨1, [bv].set 0 u, none⟩)) y CS := (Mem.rd_put _ _ _ _ (Ne.symm h2)).trans x1
    have n2 : (m1.put bb (some ⟨1, [bv].set 0 u, none⟩)).next = m1.next := rfl
    generalize m1.put bb (some ⟨1, [bv].set 0 u, none⟩) = m2 at g2 y2 f2 x2 n2 ⊢
    have hst2 : stw 1 L m2 fb 0 [.int .i64 (awayN b t : Int)] (m2.rd fb) = some (Go.undef, m2.put fb (some ⟨1, [Value.int .i64 ((nearF t seen).2 : Int)].set 0 (.int .i64 (awayN b t : Int)), none⟩)) := by
      have := st_int (x := (awayN b t : Int)) f2 Nat.zero_lt_one hLf
      rw [st1_u] at this
      exact this
    rw [hst2, oRes_e]
    have g3 := g2.put ((hX fb).2 (.inr (.inl rfl))) (some ⟨1, [Value.int .i64 ((nearF t seen).2 : Int)].set 0 (.int .i64 (awayN b t : Int)), none⟩)
    have f3 : (m2.put fb (some ⟨1, [Value.int .i64 ((nearF t seen).2 : Int)].set 0 (.int .i64 (awayN b t : Int)), none⟩)).rd fb = some ⟨1, [.int .i64 (awayN b t : Int)], none⟩ := Mem.rd_put_eq _ _ (by omega)
    have y3 : (m2.put fb (some ⟨1, [Value.int .i64 ((nearF t seen).2 : Int)].set 0 (.int .i64 (awayN b t : Int)), none⟩)).rd bb = some ⟨1, [u], none⟩ := (Mem.rd_put _ _ _ _ h3).trans y2
    have x3 : Bsy 38 (m2.put fb (some ⟨1, [Value.int .i64 ((nearF t seen).2 : Int)].set 0 (.int .i64 (awayN b t : Int)), none⟩)) y CS := (Mem.rd_put _ _ _ _ (Ne.symm h1)).trans x2
    have n3 : (m2.put fb (some ⟨1, [Value.int .i64 ((nearF t seen).2 : Int)].set 0 (.int .i64 (awayN b t : Int)), none⟩)).next = m2.next := rfl
    generalize m2.put fb (some ⟨1, [Value.int .i64 ((nearF t seen).2 : Int)].set 0 (.int .i64 (awayN b t : Int)), none⟩) = m3 at g3 f3 y3 x3 n3 ⊢
    rw [oReady_e x3]
    have g4 := g3.put ((hX y).2 (.inl rfl)) (some ⟨Nat.succ (Nat.mul 2 38), CS, some []⟩)
    refine hk _ (g1.trans g4) ⟨?_, ?_, u, ?_, ?_, hub⟩
    · rw [hcs]; exact Mem.rd_put_eq _ _ (by omega)
    · rw [hsn]; exact (Mem.rd_put _ _ _ _ h1).trans f3
    · exact (Mem.rd_put _ _ _ _ h2).trans y3
    · rw [hsn]
      exact hu1.monoX g4 (fun _ => hub)
  rw [ld1_u, hf1, rdo_e, hcf, oOpt_e, oInt_lss]
  by_cases q1 : awayN b t < (nearF t seen).2
  · have d1 : decide ((awayN b t : Int) < ((nearF t seen).2 : Int)) = true := decide_eq_true (by omega)
    rw [d1]
    have hst := hyes (if_pos (.inl q1))
    try simp (disch := first | omega | with_unfolding_all exact id rfl | with_unfolding_all exact Nat.le_of_ble_eq_true rfl | (simp only [Jd, Je, Jr, Js, Jt, Nat.reduceAdd, allOne, oneCell, Bool.and_self, Jc]; first | done | omega)) only [↓Qa, ↓Qb, Qd, Qe, Qf, Qg, Qh, Qi, Qj, Qk, Ql, Qm, Qn, Qo, Qp, Qq, Qr, Qs, Qt, Qu, Qv, Qw, Qx, Qy, ptrTo, Qz, QA, QB, QC, QD, QE, QF, QG, QH, QI, QJ, QK, QL, QM, QN, QO, QP, QQ, QR, QS, QT, QU, QV, QW, QX, QY, QZ, Ja, Jb, Jc, Jd, Je, Jf, Jg, Jh, Ji, Jj, Jk, Jl, Jm, Jn, Jo, Jp, Jq, Jr, Js, Jt, Nat.reduceAdd]
    repeat (rw [join_e]; try simp (disch := first | omega | with_unfolding_all exact id rfl | with_unfolding_all exact Nat.le_of_ble_eq_true rfl | (simp only [Jd, Je, Jr, Js, Jt, Nat.reduceAdd, allOne, oneCell, Bool.and_self, Jc]; first | done | omega)) only [↓Qa, ↓Qb, Qd, Qe, Qf, Qg, Qh, Qi, Qj, Qk, Ql, Qm, Qn, Qo, Qp, Qq, Qr, Qs, Qt, Qu, Qv, Qw, Qx, Qy, ptrTo, Qz, QA, QB, QC, QD, QE, QF, QG, QH, QI, QJ, QK, QL, QM, QN, QO, QP, QQ, QR, QS, QT, QU, QV, QW, QX, QY, QZ, Ja, Jb, Jc, Jd, Je, Jf, Jg, Jh, Ji, Jj, Jk, Jl, Jm, Jn, Jo, Jp, Jq, Jr, Js, Jt, Nat.reduceAdd])
    try simp (disch := first | omega | with_unfolding_all exact id rfl | with_unfolding_all exact Nat.le_of_ble_eq_true rfl | (simp only [Jd, Je, Jr, Js, Jt, Nat.reduceAdd, allOne, oneCell, Bool.and_self, Jc]; first | done | omega)) only [↓Qa, ↓Qb, Qd, Qe, Qf, Qg, Qh, Qi, Qj, Qk, Ql, Qm, Qn, Qo, Qp, Qq, Qr, Qs, Qt, Qu, Qv, Qw, Qx, Qy, ptrTo, Qz, QA, QB, QC, QD, QE, QF, QG, QH, QI, QJ, QK, QL, QM, QN, QO, QP, QQ, QR, QS, QT, QU, QV, QW, QX, QY, QZ, Ja, Jb, Jc, Jd, Je, Jf, Jg, Jh, Ji, Jj, Jk, Jl, Jm, Jn, Jo, Jp, Jq, Jr, Js, Jt, Nat.reduceAdd]
    exact hst
  · have d1 : decide ((awayN b t : Int) < ((nearF t seen).2 : Int)) = false := decide_eq_false (by omega)
    rw [d1]
    try simp (disch := first | omega | with_unfolding_all exact id rfl | with_unfolding_all exact Nat.le_of_ble_eq_true rfl | (simp only [Jd, Je, Jr, Js, Jt, Nat.reduceAdd, allOne, oneCell, Bool.and_self, Jc]; first | done | omega)) only [↓Qa, ↓Qb, Qd, Qe, Qf, Qg, Qh, Qi, Qj, Qk, Ql, Qm, Qn, Qo, Qp, Qq, Qr, Qs, Qt, Qu, Qv, Qw, Qx, Qy, ptrTo, Qz, QA, QB, QC, QD, QE, QF, QG, QH, QI, QJ, QK, QL, QM, QN, QO, QP, QQ, QR, QS, QT, QU, QV, QW, QX, QY, QZ, Ja, Jb, Jc, Jd, Je, Jf, Jg, Jh, Ji, Jj, Jk, Jl, Jm, Jn, Jo, Jp, Jq, Jr, Js, Jt, Nat.reduceAdd]
    rw [join_e]
    try simp (disch := first | omega | with_unfolding_all exact id rfl | with_unfolding_all exact Nat.le_of_ble_eq_true rfl | (simp only [Jd, Je, Jr, Js, Jt, Nat.reduceAdd, allOne, oneCell, Bool.and_self, Jc]; first | done | omega)) only [hf1, hcf, ↓Qa, ↓Qb, Qd, Qe, Qf, Qg, Qh, Qi, Qj, Qk, Ql, Qm, Qn, Qo, Qp, Qq, Qr, Qs, Qt, Qu, Qv, Qw, Qx, Qy, ptrTo, Qz, QA, QB, QC, QD, QE, QF, QG, QH, QI, QJ, QK, QL, QM, QN, QO, QP, QQ, QR, QS, QT, QU, QV, QW, QX, QY, QZ, Ja, Jb, Jc, Jd, Je, Jf, Jg, Jh, Ji, Jj, Jk, Jl, Jm, Jn, Jo, Jp, Jq, Jr, Js, Jt, Nat.reduceAdd]
    by_cases q2 : awayN b t = (nearF t seen).2
    · have d2 : decide ((awayN b t : Int) = ((nearF t seen).2 : Int)) = true := decide_eq_true (by omega)
      try simp (disch := first | omega | with_unfolding_all exact id rfl | with_unfolding_all exact Nat.le_of_ble_eq_true rfl | (simp only [Jd, Je, Jr, Js, Jt, Nat.reduceAdd, allOne, oneCell, Bool.and_self, Jc]; first | done | omega)) only [d2, ↓Qa, ↓Qb, Qd, Qe, Qf, Qg, Qh, Qi, Qj, Qk, Ql, Qm, Qn, Qo, Qp, Qq, Qr, Qs, Qt, Qu, Qv, Qw, Qx, Qy, ptrTo, Qz, QA, QB, QC, QD, QE, QF, QG, QH, QI, QJ, QK, QL, QM, QN, QO, QP, QQ, QR, QS, QT, QU, QV, QW, QX, QY, QZ, Ja, Jb, Jc, Jd, Je, Jf, Jg, Jh, Ji, Jj, Jk, Jl, Jm, Jn, Jo, Jp, Jq, Jr, Js, Jt, Nat.reduceAdd]
      repeat (rw [join_e]; try simp (disch := first | omega | with_unfolding_all exact id rfl | with_unfolding_all exact Nat.le_of_ble_eq_true rfl | (simp only [Jd, Je, Jr, Js, Jt, Nat.reduceAdd, allOne, oneCell, Bool.and_self, Jc]; first | done | omega)) only [d2, hb11, cb, ↓Qa, ↓Qb, Qd, Qe, Qf, Qg, Qh, Qi, Qj, Qk, Ql, Qm, Qn, Qo, Qp, Qq, Qr, Qs, Qt, Qu, Qv, Qw, Qx, Qy, ptrTo, Qz, QA, QB, QC, QD, QE, QF, QG, QH, QI, QJ, QK, QL, QM, QN, QO, QP, QQ, QR, QS, QT, QU, QV, QW, QX, QY, QZ, Ja, Jb, Jc, Jd, Je, Jf, Jg, Jh, Ji, Jj, Jk, Jl, Jm, Jn, Jo, Jp, Jq, Jr, Js, Jt, Nat.reduceAdd])
      refine compare_sp hlf hu1 hb21 (by omega) (by omega) ?_
      by_cases q3 : cmpL b (nearF t seen).1 < 0
      · have hst := hyes (if_pos (.inr ⟨q2, q3⟩))
        try simp (disch := first | omega | with_unfolding_all exact id rfl | with_unfolding_all exact Nat.le_of_ble_eq_true rfl | (simp only [Jd, Je, Jr, Js, Jt, Nat.reduceAdd, allOne, oneCell, Bool.and_self, Jc]; first | done | omega)) only [decide_eq_true q3, ↓Qa, ↓Qb, Qd, Qe, Qf, Qg, Qh, Qi, Qj, Qk, Ql, Qm, Qn, Qo, Qp, Qq, Qr, Qs, Qt, Qu, Qv, Qw, Qx, Qy, ptrTo, Qz, QA, QB, QC, QD, QE, QF, QG, QH, QI, QJ, QK, QL, QM, QN, QO, QP, QQ, QR, QS, QT, QU, QV, QW, QX, QY, QZ, Ja, Jb, Jc, Jd, Je, Jf, Jg, Jh, Ji, Jj, Jk, Jl, Jm, Jn, Jo, Jp, Jq, Jr, Js, Jt, Nat.reduceAdd]
        repeat (rw [join_e]; try simp (disch := first | omega | with_unfolding_all exact id rfl | with_unfolding_all exact Nat.le_of_ble_eq_true rfl | (simp only [Jd, Je, Jr, Js, Jt, Nat.reduceAdd, allOne, oneCell, Bool.and_self, Jc]; first | done | omega)) only [decide_eq_true q3, ↓Qa, ↓Qb, Qd, Qe, Qf, Qg, Qh, Qi, Qj, Qk, Ql, Qm, Qn, Qo, Qp, Qq, Qr, Qs, Qt, Qu, Qv, Qw, Qx, Qy, ptrTo, Qz, QA, QB, QC, QD, QE, QF, QG, QH, QI, QJ, QK, QL, QM, QN, QO, QP, QQ, QR, QS, QT, QU, QV, QW, QX, QY, QZ, Ja, Jb, Jc, Jd, Je, Jf, Jg, Jh, Ji, Jj, Jk, Jl, Jm, Jn, Jo, Jp, Jq, Jr, Js, Jt, Nat.reduceAdd])
        try simp (disch := first | omega | with_unfolding_all exact id rfl | with_unfolding_all exact Nat.le_of_ble_eq_true rfl | (simp only [Jd, Je, Jr, Js, Jt, Nat.reduceAdd, allOne, oneCell, Bool.and_self, Jc]; first | done | omega)) only [decide_eq_true q3, ↓Qa, ↓Qb, Qd, Qe, Qf, Qg, Qh, Qi, Qj, Qk, Ql, Qm, Qn, Qo, Qp, Qq, Qr, Qs, Qt, Qu, Qv, Qw, Qx, Qy, ptrTo, Qz, QA, QB, QC, QD, QE, QF, QG, QH, QI, QJ, QK, QL, QM, QN, QO, QP, QQ, QR, QS, QT, QU, QV, QW, QX, QY, QZ, Ja, Jb, Jc, Jd, Je, Jf, Jg, Jh, Ji, Jj, Jk, Jl, Jm, Jn, Jo, Jp, Jq, Jr, Js, Jt, Nat.reduceAdd]
        exact hst
      · have hst := hno (if_neg (fun h => h.elim q1 fun h => q3 h.2))
        try simp (disch := first | omega | with_unfolding_all exact id rfl | with_unfolding_all exact Nat.le_of_ble_eq_true rfl | (simp only [Jd, Je, Jr, Js, Jt, Nat.reduceAdd, allOne, oneCell, Bool.and_self, Jc]; first | done | omega)) only [decide_eq_false q3, ↓Qa, ↓Qb, Qd, Qe, Qf, Qg, Qh, Qi, Qj, Qk, Ql, Qm, Qn, Qo, Qp, Qq, Qr, Qs, Qt, Qu, Qv, Qw, Qx, Qy, ptrTo, Qz, QA, QB, QC, QD, QE, QF, QG, QH, QI, QJ, QK, QL, QM, QN, QO, QP, QQ, QR, QS, QT, QU, QV, QW, QX, QY, QZ, Ja, Jb, Jc, Jd, Je, Jf, Jg, Jh, Ji, Jj, Jk, Jl, Jm, Jn, Jo, Jp, Jq, Jr, Js, Jt, Nat.reduceAdd]
        repeat (rw [join_e]; try simp (disch := first | omega | with_unfolding_all exact id rfl | with_unfolding_all exact Nat.le_of_ble_eq_true rfl | (simp only [Jd, Je, Jr, Js, Jt, Nat.reduceAdd, allOne, oneCell, Bool.and_self, Jc]; first | done | omega)) only [decide_eq_false q3, ↓Qa, ↓Qb, Qd, Qe, Qf, Qg, Qh, Qi, Qj, Qk, Ql, Qm, Qn, Qo, Qp, Qq, Qr, Qs, Qt, Qu, Qv, Qw, Qx, Qy, ptrTo, Qz, QA, QB, QC, QD, QE, QF, QG, QH, QI, QJ, QK, QL, QM, QN, QO, QP, QQ, QR, QS, QT, QU, QV, QW, QX, QY, QZ, Ja, Jb, Jc, Jd, Je, Jf, Jg, Jh, Ji, Jj, Jk, Jl, Jm, Jn, Jo, Jp, Jq, Jr, Js, Jt, Nat.reduceAdd])
        try simp (disch := first | omega | with_unfolding_all exact id rfl | with_unfolding_all exact Nat.le_of_ble_eq_true rfl | (simp only [Jd, Je, Jr, Js, Jt, Nat.reduceAdd, allOne, oneCell, Bool.and_self, Jc]; first | done | omega)) only [decide_eq_false q3, ↓Qa, ↓Qb, Qd, Qe, Qf, Qg, Qh, Qi, Qj, Qk, Ql, Qm, Qn, Qo, Qp, Qq, Qr, Qs, Qt, Qu, Qv, Qw, Qx, Qy, ptrTo, Qz, QA, QB, QC, QD, QE, QF, QG, QH, QI, QJ, QK, QL, QM, QN, QO, QP, QQ, QR, QS, QT, QU, QV, QW, QX, QY, QZ, Ja, Jb, Jc, Jd, Je, Jf, Jg, Jh, Ji, Jj, Jk, Jl, Jm, Jn, Jo, Jp, Jq, Jr, Js, Jt, Nat.reduceAdd]
        rw [oReady_e x1]
        exact hst
    · have d2 : decide ((awayN b t : Int) = ((nearF t seen).2 : Int)) = false := decide_eq_false (by omega)
      have hst := hno (if_neg (fun h => h.elim q1 fun h => q2 h.1))
      try simp (disch := first | omega | with_unfolding_all exact id rfl | with_unfolding_all exact Nat.le_of_ble_eq_true rfl | (simp only [Jd, Je, Jr, Js, Jt, Nat.reduceAdd, allOne, oneCell, Bool.and_self, Jc]; first | done | omega)) only [d2, ↓Qa, ↓Qb, Qd, Qe, Qf, Qg, Qh, Qi, Qj, Qk, Ql, Qm, Qn, Qo, Qp, Qq, Qr, Qs, Qt, Qu, Qv, Qw, Qx, Qy, ptrTo, Qz, QA, QB, QC, QD, QE, QF, QG, QH, QI, QJ, QK, QL, QM, QN, QO, QP, QQ, QR, QS, QT, QU, QV, QW, QX, QY, QZ, Ja, Jb, Jc, Jd, Je, Jf, Jg, Jh, Ji, Jj, Jk, Jl, Jm, Jn, Jo, Jp, Jq, Jr, Js, Jt, Nat.reduceAdd]
      repeat (rw [join_e]; try simp (disch := first | omega | with_unfolding_all exact id rfl | with_unfolding_all exact Nat.le_of_ble_eq_true rfl | (simp only [Jd, Je, Jr, Js, Jt, Nat.reduceAdd, allOne, oneCell, Bool.and_self, Jc]; first | done | omega)) only [d2, ↓Qa, ↓Qb, Qd, Qe, Qf, Qg, Qh, Qi, Qj, Qk, Ql, Qm, Qn, Qo, Qp, Qq, Qr, Qs, Qt, Qu, Qv, Qw, Qx, Qy, ptrTo, Qz, QA, QB, QC, QD, QE, QF, QG, QH, QI, QJ, QK, QL, QM, QN, QO, QP, QQ, QR, QS, QT, QU, QV, QW, QX, QY, QZ, Ja, Jb, Jc, Jd, Je, Jf, Jg, Jh, Ji, Jj, Jk, Jl, Jm, Jn, Jo, Jp, Jq, Jr, Js, Jt, Nat.reduceAdd])
      try simp (disch := first | omega | with_unfolding_all exact id rfl | with_unfolding_all exact Nat.le_of_ble_eq_true rfl | (simp only [Jd, Je, Jr, Js, Jt, Nat.reduceAdd, allOne, oneCell, Bool.and_self, Jc]; first | done | omega)) only [d2, ↓Qa, ↓Qb, Qd, Qe, Qf, Qg, Qh, Qi, Qj, Qk, Ql, Qm, Qn, Qo, Qp, Qq, Qr, Qs, Qt, Qu, Qv, Qw, Qx, Qy, ptrTo, Qz, QA, QB, QC, QD, QE, QF, QG, QH, QI, QJ, QK, QL, QM, QN, QO, QP, QQ, QR, QS, QT, QU, QV, QW, QX, QY, QZ, Ja, Jb, Jc, Jd, Je, Jf, Jg, Jh, Ji, Jj, Jk, Jl, Jm, Jn, Jo, Jp, Jq, Jr, Js, Jt, Nat.reduceAdd]
      rw [oReady_e x1]
      exact hst
end
end Go.Vit
