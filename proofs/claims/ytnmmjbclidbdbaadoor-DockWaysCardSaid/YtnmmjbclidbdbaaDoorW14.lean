/- Walks: lists of wishes are counted. -/
import Derived.Test.YtnmmjbclidbdbaaDoorW13
set_option linter.unusedSimpArgs false
set_option linter.unusedVariables false
set_option maxRecDepth 20000
namespace Go.Vit
open Go Go.Proofs
attribute [local irreducible] runT loopS
theorem bu86 (N : Int) (b : Nat) : bu Tryd.prog 86 [(0, .int .i64 N), (1, .map (some b))] = some (.agg ⟨[.int .i64 N, .map (some b)]⟩) := by kernel_rfl
def cOk (b c : Int) : Prop := inI b 1 8 ∧ inI c 0 b
instance (b c : Int) : Decidable (cOk b c) := inferInstanceAs (Decidable (_ ∧ _))
def cX (b c : Int) : Int := if cOk b c then (cntW b.toNat c.toNat 0 : Int) else 0
def cE (b c : Int) : Int := if cOk b c then 0 else 1
section
variable {lf n L : Nat} {m : Mem} {k : Value → Mem → Option Unit}
theorem count_sp {b c : Int} (hlf : 1000000 ≤ lf) (hL : L ≤ m.next) (hk : ∀ m', Gt m m' → k (.tuple ⟨[.int .i64 (cX b c), .int .i64 (cE b c)]⟩) m' = some ()) :
    runT (tab lf) (n + 11) 33 [.int .i64 b, .int .i64 c] L m k = some () := by
  rw [r33]; dsimp only [S33, iofNat, inegSucc]
  unfold cX cE at hk
  try simp (disch := first | omega | with_unfolding_all exact id rfl | with_unfolding_all exact Nat.le_of_ble_eq_true rfl | (simp only [Jd, Je, Jr, Js, Jt, Nat.reduceAdd, allOne, oneCell, Bool.and_self, Jc]; first | done | omega)) only [↓Qa, ↓Qb, ↓Qc, Qd, Qe, Qf, Qg, Qh, Qi, Qj, Qk, Ql, Qm, Qn, Qo, Qp, Qq, Qr, Qs, Qt, Qu, Qv, Qw, Qx, Qy, ptrTo, Qz, QA, QB, QC, QD, QE, QF, QG, QH, QI, QJ, QK, QL, QM, QN, QO, QP, QQ, QR, QS, QT, QU, QV, QW, QX, QY, QZ, Ja, Jb, Jc, Jd, Je, Jf, Jg, Jh, Ji, Jj, Jk, Jl, Jm, Jn, Jo, Jp, Jq, Jr, Js, Jt, Nat.reduceAdd]
  refine within_sp b 1 8 ?_
  by_cases h1 : inI b 1 8
  · try simp (disch := first | omega | with_unfolding_all exact id rfl | with_unfolding_all exact Nat.le_of_ble_eq_true rfl | (simp only [Jd, Je, Jr, Js, Jt, Nat.reduceAdd, allOne, oneCell, Bool.and_self, Jc]; first | done | omega)) only [decide_eq_true h1, ↓Qa, ↓Qb, Qd, Qe, Qf, Qg, Qh, Qi, Qj, Qk, Ql, Qm, Qn, Qo, Qp, Qq, Qr, Qs, Qt, Qu, Qv, Qw, Qx, Qy, ptrTo, Qz, QA, QB, QC, QD, QE, QF, QG, QH, QI, QJ, QK, QL, QM, QN, QO, QP, QQ, QR, QS, QT, QU, QV, QW, QX, QY, QZ, Ja, Jb, Jc, Jd, Je, Jf, Jg, Jh, Ji, Jj, Jk, Jl, Jm, Jn, Jo, Jp, Jq, Jr, Js, Jt, Nat.reduceAdd]
    refine within_sp c 0 b ?_
    by_cases h2 : inI c 0 b
    · have hok : cOk b c := ⟨h1, h2⟩
      simp only [if_pos hok] at hk
      obtain ⟨N, rfl⟩ : ∃ N : Nat, b = N := ⟨b.toNat, by have := h1.1; omega⟩
      obtain ⟨j, rfl⟩ : ∃ j : Nat, c = j := ⟨c.toNat, by have := h2.1; omega⟩
      rw [Int.toNat_natCast, Int.toNat_natCast] at hk
      try simp (disch := first | omega | with_unfolding_all exact id rfl | with_unfolding_all exact Nat.le_of_ble_eq_true rfl | (simp only [Jd, Je, Jr, Js, Jt, Nat.reduceAdd, allOne, oneCell, Bool.and_self, Jc]; first | done | omega)) only [decide_eq_true h2, ↓Qa, ↓Qb, Qd, Qe, Qf, Qg, Qh, Qi, Qj, Qk, Ql, Qm, Qn, Qo, Qp, Qq, Qr, Qs, Qt, Qu, Qv, Qw, Qx, Qy, ptrTo, Qz, QA, QB, QC, QD, QE, QF, QG, QH, QI, QJ, QK, QL, QM, QN, QO, QP, QQ, QR, QS, QT, QU, QV, QW, QX, QY, QZ, Ja, Jb, Jc, Jd, Je, Jf, Jg, Jh, Ji, Jj, Jk, Jl, Jm, Jn, Jo, Jp, Jq, Jr, Js, Jt, Nat.reduceAdd]
      rw [amakeMap_e, oRes_e, bu86, oOpt_e]
      have e1 := Mem.gt_push m ⟨0, [], some []⟩
      have q1 : mOk N m.next (m.push ⟨0, [], some []⟩) := ⟨[], Mem.rd_push _ _⟩
      have hj8 : j ≤ 8 := by have := h1.2; have := h2.2; omega
      have hN8 : N ≤ 8 := by have := h1.2; omega
      rw [show n + 10 = (n + (8 - j)) + j + 2 by omega]
      refine count70_sp (N := N) (mb := m.next) hlf hN8 j (T := 0) (by omega) hj8 q1 hL fun m2 e2 _ => ?_
      exact hk m2 (GtX.gt e1 e2 fun c hc => by omega)
    · have hok : ¬ cOk b c := fun h => h2 h.2
      simp only [if_neg hok] at hk
      try simp (disch := first | omega | with_unfolding_all exact id rfl | with_unfolding_all exact Nat.le_of_ble_eq_true rfl | (simp only [Jd, Je, Jr, Js, Jt, Nat.reduceAdd, allOne, oneCell, Bool.and_self, Jc]; first | done | omega)) only [decide_eq_false h2, ↓Qa, ↓Qb, Qd, Qe, Qf, Qg, Qh, Qi, Qj, Qk, Ql, Qm, Qn, Qo, Qp, Qq, Qr, Qs, Qt, Qu, Qv, Qw, Qx, Qy, ptrTo, Qz, QA, QB, QC, QD, QE, QF, QG, QH, QI, QJ, QK, QL, QM, QN, QO, QP, QQ, QR, QS, QT, QU, QV, QW, QX, QY, QZ, Ja, Jb, Jc, Jd, Je, Jf, Jg, Jh, Ji, Jj, Jk, Jl, Jm, Jn, Jo, Jp, Jq, Jr, Js, Jt, Nat.reduceAdd]
      exact hk m (Gt.refl _)
  · have hok : ¬ cOk b c := fun h => h1 h.1
    simp only [if_neg hok] at hk
    try simp (disch := first | omega | with_unfolding_all exact id rfl | with_unfolding_all exact Nat.le_of_ble_eq_true rfl | (simp only [Jd, Je, Jr, Js, Jt, Nat.reduceAdd, allOne, oneCell, Bool.and_self, Jc]; first | done | omega)) only [decide_eq_false h1, ↓Qa, ↓Qb, Qd, Qe, Qf, Qg, Qh, Qi, Qj, Qk, Ql, Qm, Qn, Qo, Qp, Qq, Qr, Qs, Qt, Qu, Qv, Qw, Qx, Qy, ptrTo, Qz, QA, QB, QC, QD, QE, QF, QG, QH, QI, QJ, QK, QL, QM, QN, QO, QP, QQ, QR, QS, QT, QU, QV, QW, QX, QY, QZ, Ja, Jb, Jc, Jd, Je, Jf, Jg, Jh, Ji, Jj, Jk, Jl, Jm, Jn, Jo, Jp, Jq, Jr, Js, Jt, Nat.reduceAdd]
    exact hk m (Gt.refl _)
end
end Go.Vit
