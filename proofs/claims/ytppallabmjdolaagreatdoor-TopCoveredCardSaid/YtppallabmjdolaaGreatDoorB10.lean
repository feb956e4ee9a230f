/- Walks of the group Bond, numbered for this seat by a program: W8. -/
import Derived.Test.YtppallabmjdolaaGreatDoorB8
set_option linter.unusedSimpArgs false
set_option linter.unusedVariables false
namespace Go.Vit
open Go Go.Proofs
attribute [local irreducible] runT loopS
/-- Whether a number is a group. -/
def isGrp (h g : Int) : Prop := 0 ≤ g ∧ g ≤ 2 ^ h.toNat - 1
instance (h g : Int) : Decidable (isGrp h g) := by unfold isGrp; infer_instance
def errG (h : Int) (l : List Int) (g : Int) : Int := if chk h l = 0 then (if isGrp h g then 0 else 2) else chk h l
def lackX (h : Int) (l : List Int) (g : Int) : List Nat := if errG h l g = 0 then lack (nn l) g.toNat else []
def mayX (h : Int) (l : List Int) (g : Int) : Bool := if errG h l g = 0 then mayB (nn l) g.toNat else false
theorem errG_valid {h : Int} {l : List Int} {g : Int} (hc : errG h l g = 0) : chk h l = 0 ∧ isGrp h g := by
  unfold errG at hc
  split at hc
  · rename_i h1
    split at hc
    · rename_i h2; exact ⟨h1, h2⟩
    · cases hc
  · rename_i h1; exact absurd hc h1
section
variable {lf n L : Nat} {m : Mem} {k : Value → Mem → Option Unit}
theorem ruled_sp {h : Int} {v : Value} {l : List Int} (hlf : 1000000 ≤ lf) (hL : L ≤ m.next) (hv : IL m v l) (hk : ∀ m', Gt m m' → k (.tuple ⟨[Vit.hg h v, .int .i64 (chk h l)]⟩) m' = some ()) : runT (tabC lf) (n + 7) 56 [Vit.hg h v] L m k = some () := by
  rw [r56]
  dsimp only [S56, iofNat, inegSucc]
  obtain ⟨p, c, rfl⟩ := hv.ex
  try simp (disch := first | omega | with_unfolding_all exact id rfl | with_unfolding_all exact Nat.le_of_ble_eq_true rfl | (simp only [Jd, Je, Jr, Js, Jt, Nat.reduceAdd, allOne, oneCell, Bool.and_self, Jc]; first | done | omega)) only [bu92, bu94, ↓Qa, ↓Qb, ↓Qc, Qd, Qe, Qf, Qg, Qh, Qi, Qj, Qk, Ql, Qm, Qn, Qo, Qp, Qq, Qr, Qs, Qt, Qu, Qv, Qw, Qx, Qy, ptrTo, Qz, QA, QB, QC, QD, QE, QF, QG, QH, QI, QJ, QK, QL, QM, QN, QO, QP, QQ, QR, QS, QT, QU, QV, QW, QX, QY, QZ, Ja, Jb, Jc, Jd, Je, Jf, Jg, Jh, Ji, Jj, Jk, Jl, Jm, Jn, Jo, Jp, Jq, Jr, Js, Jt, Nat.reduceAdd]
  have e1 : Gt m ((((m.push ⟨1, [.int .i64 h, .slice p l.length c], none⟩).push ⟨1, [.int .i64 0, .slice none 0 0], none⟩).push ⟨1, [.int .i64 0, .slice none 0 0], none⟩).put (m.next + 1 + 1) (some ⟨1, [.int .i64 h, .slice p l.length c], none⟩)) :=
    Mem.put_gt (((Mem.gt_push _ _).trans (Mem.gt_push _ _)).trans (Mem.gt_push _ _)) _ (by omega)
  have hn1 : ((((m.push ⟨1, [.int .i64 h, .slice p l.length c], none⟩).push ⟨1, [.int .i64 0, .slice none 0 0], none⟩).push ⟨1, [.int .i64 0, .slice none 0 0], none⟩).put (m.next + 1 + 1) (some ⟨1, [.int .i64 h, .slice p l.length c], none⟩)).next = m.next + 1 + 1 + 1 := rfl
  have h1 : At ((((m.push ⟨1, [.int .i64 h, .slice p l.length c], none⟩).push ⟨1, [.int .i64 0, .slice none 0 0], none⟩).push ⟨1, [.int .i64 0, .slice none 0 0], none⟩).put (m.next + 1 + 1) (some ⟨1, [.int .i64 h, .slice p l.length c], none⟩)) (m.next + 1) [.int .i64 0, .slice none 0 0] := by
    unfold At
    try simp (disch := first | omega | with_unfolding_all exact id rfl | with_unfolding_all exact Nat.le_of_ble_eq_true rfl | (simp only [Jd, Je, Jr, Js, Jt, Nat.reduceAdd, allOne, oneCell, Bool.and_self, Jc]; first | done | omega)) only [↓Qa, ↓Qb, ↓Qc, Qd, Qe, Qf, Qg, Qh, Qi, Qj, Qk, Ql, Qm, Qn, Qo, Qp, Qq, Qr, Qs, Qt, Qu, Qv, Qw, Qx, Qy, ptrTo, Qz, QA, QB, QC, QD, QE, QF, QG, QH, QI, QJ, QK, QL, QM, QN, QO, QP, QQ, QR, QS, QT, QU, QV, QW, QX, QY, QZ, Ja, Jb, Jc, Jd, Je, Jf, Jg, Jh, Ji, Jj, Jk, Jl, Jm, Jn, Jo, Jp, Jq, Jr, Js, Jt, Nat.reduceAdd]
  have h0 : At ((((m.push ⟨1, [.int .i64 h, .slice p l.length c], none⟩).push ⟨1, [.int .i64 0, .slice none 0 0], none⟩).push ⟨1, [.int .i64 0, .slice none 0 0], none⟩).put (m.next + 1 + 1) (some ⟨1, [.int .i64 h, .slice p l.length c], none⟩)) (m.next + 1 + 1) [.int .i64 h, .slice p l.length c] := Mem.rd_put_eq _ _ (by simp only [Mem.push_next]; omega)
  generalize (((m.push ⟨1, [.int .i64 h, .slice p l.length c], none⟩).push ⟨1, [.int .i64 0, .slice none 0 0], none⟩).push ⟨1, [.int .i64 0, .slice none 0 0], none⟩).put (m.next + 1 + 1) (some ⟨1, [.int .i64 h, .slice p l.length c], none⟩) = m1 at e1 hn1 h1 h0 ⊢
  refine check_sp hlf (hv.mono e1) fun m2 e2 => ?_
  have h2 := h1.mono e2
  have e2n := e2.next
  have h02 := h0.mono e2
  try simp (disch := first | omega | with_unfolding_all exact id rfl | with_unfolding_all exact Nat.le_of_ble_eq_true rfl | (simp only [Jd, Je, Jr, Js, Jt, Nat.reduceAdd, allOne, oneCell, Bool.and_self, Jc]; first | done | omega)) only [h2.rd, h0.rd, h02.rd, ↓Qa, ↓Qb, ↓Qc, Qd, Qe, Qf, Qg, Qh, Qi, Qj, Qk, Ql, Qm, Qn, Qo, Qp, Qq, Qr, Qs, Qt, Qu, Qv, Qw, Qx, Qy, ptrTo, Qz, QA, QB, QC, QD, QE, QF, QG, QH, QI, QJ, QK, QL, QM, QN, QO, QP, QQ, QR, QS, QT, QU, QV, QW, QX, QY, QZ, Ja, Jb, Jc, Jd, Je, Jf, Jg, Jh, Ji, Jj, Jk, Jl, Jm, Jn, Jo, Jp, Jq, Jr, Js, Jt, Nat.reduceAdd]
  exact hk _ (Mem.put_gt (e1.trans e2) _ (by omega))
theorem planned_sp {h : Int} {v : Value} {l : List Int} (hlf : 1000000 ≤ lf) (hL : L ≤ m.next) (hv : IL m v l) (hk : ∀ m', Gt m m' → k (.tuple ⟨[Vit.hg h v, .int .i64 (chk h l)]⟩) m' = some ()) : runT (tabC lf) (n + 7) 71 [Vit.hg h v] L m k = some () := by
  rw [r71]
  dsimp only [S71, iofNat, inegSucc]
  obtain ⟨p, c, rfl⟩ := hv.ex
  try simp (disch := first | omega | with_unfolding_all exact id rfl | with_unfolding_all exact Nat.le_of_ble_eq_true rfl | (simp only [Jd, Je, Jr, Js, Jt, Nat.reduceAdd, allOne, oneCell, Bool.and_self, Jc]; first | done | omega)) only [bu92, bu99, ↓Qa, ↓Qb, ↓Qc, Qd, Qe, Qf, Qg, Qh, Qi, Qj, Qk, Ql, Qm, Qn, Qo, Qp, Qq, Qr, Qs, Qt, Qu, Qv, Qw, Qx, Qy, ptrTo, Qz, QA, QB, QC, QD, QE, QF, QG, QH, QI, QJ, QK, QL, QM, QN, QO, QP, QQ, QR, QS, QT, QU, QV, QW, QX, QY, QZ, Ja, Jb, Jc, Jd, Je, Jf, Jg, Jh, Ji, Jj, Jk, Jl, Jm, Jn, Jo, Jp, Jq, Jr, Js, Jt, Nat.reduceAdd]
  have e1 : Gt m ((((m.push ⟨1, [.int .i64 h, .slice p l.length c], none⟩).push ⟨1, [.int .i64 0, .slice none 0 0], none⟩).push ⟨1, [.int .i64 0, .slice none 0 0], none⟩).put (m.next + 1 + 1) (some ⟨1, [.int .i64 h, .slice p l.length c], none⟩)) :=
    Mem.put_gt (((Mem.gt_push _ _).trans (Mem.gt_push _ _)).trans (Mem.gt_push _ _)) _ (by omega)
  have hn1 : ((((m.push ⟨1, [.int .i64 h, .slice p l.length c], none⟩).push ⟨1, [.int .i64 0, .slice none 0 0], none⟩).push ⟨1, [.int .i64 0, .slice none 0 0], none⟩).put (m.next + 1 + 1) (some ⟨1, [.int .i64 h, .slice p l.length c], none⟩)).next = m.next + 1 + 1 + 1 := rfl
  have h1 : At ((((m.push ⟨1, [.int .i64 h, .slice p l.length c], none⟩).push ⟨1, [.int .i64 0, .slice none 0 0], none⟩).push ⟨1, [.int .i64 0, .slice none 0 0], none⟩).put (m.next + 1 + 1) (some ⟨1, [.int .i64 h, .slice p l.length c], none⟩)) (m.next + 1) [.int .i64 0, .slice none 0 0] := by
    unfold At
    try simp (disch := first | omega | with_unfolding_all exact id rfl | with_unfolding_all exact Nat.le_of_ble_eq_true rfl | (simp only [Jd, Je, Jr, Js, Jt, Nat.reduceAdd, allOne, oneCell, Bool.and_self, Jc]; first | done | omega)) only [↓Qa, ↓Qb, ↓Qc, Qd, Qe, Qf, Qg, Qh, Qi, Qj, Qk, Ql, Qm, Qn, Qo, Qp, Qq, Qr, Qs, Qt, Qu, Qv, Qw, Qx, Qy, ptrTo, Qz, QA, QB, QC, QD, QE, QF, QG, QH, QI, QJ, QK, QL, QM, QN, QO, QP, QQ, QR, QS, QT, QU, QV, QW, QX, QY, QZ, Ja, Jb, Jc, Jd, Je, Jf, Jg, Jh, Ji, Jj, Jk, Jl, Jm, Jn, Jo, Jp, Jq, Jr, Js, Jt, Nat.reduceAdd]
  have h0 : At ((((m.push ⟨1, [.int .i64 h, .slice p l.length c], none⟩).push ⟨1, [.int .i64 0, .slice none 0 0], none⟩).push ⟨1, [.int .i64 0, .slice none 0 0], none⟩).put (m.next + 1 + 1) (some ⟨1, [.int .i64 h, .slice p l.length c], none⟩)) (m.next + 1 + 1) [.int .i64 h, .slice p l.length c] := Mem.rd_put_eq _ _ (by simp only [Mem.push_next]; omega)
  generalize (((m.push ⟨1, [.int .i64 h, .slice p l.length c], none⟩).push ⟨1, [.int .i64 0, .slice none 0 0], none⟩).push ⟨1, [.int .i64 0, .slice none 0 0], none⟩).put (m.next + 1 + 1) (some ⟨1, [.int .i64 h, .slice p l.length c], none⟩) = m1 at e1 hn1 h1 h0 ⊢
  refine check_sp hlf (hv.mono e1) fun m2 e2 => ?_
  have h2 := h1.mono e2
  have e2n := e2.next
  have h02 := h0.mono e2
  try simp (disch := first | omega | with_unfolding_all exact id rfl | with_unfolding_all exact Nat.le_of_ble_eq_true rfl | (simp only [Jd, Je, Jr, Js, Jt, Nat.reduceAdd, allOne, oneCell, Bool.and_self, Jc]; first | done | omega)) only [h2.rd, h0.rd, h02.rd, ↓Qa, ↓Qb, ↓Qc, Qd, Qe, Qf, Qg, Qh, Qi, Qj, Qk, Ql, Qm, Qn, Qo, Qp, Qq, Qr, Qs, Qt, Qu, Qv, Qw, Qx, Qy, ptrTo, Qz, QA, QB, QC, QD, QE, QF, QG, QH, QI, QJ, QK, QL, QM, QN, QO, QP, QQ, QR, QS, QT, QU, QV, QW, QX, QY, QZ, Ja, Jb, Jc, Jd, Je, Jf, Jg, Jh, Ji, Jj, Jk, Jl, Jm, Jn, Jo, Jp, Jq, Jr, Js, Jt, Nat.reduceAdd]
  exact hk _ (Mem.put_gt (e1.trans e2) _ (by omega))
theorem may1_sp {h : Int} {v : Value} {l : List Int} {g : Int} (hlf : 1000000 ≤ lf) (hL : L ≤ m.next) (hv : IL m v l) (hk : ∀ m', Gt m m' → k (.tuple ⟨[.bool (mayX h l g), .int .i64 (errG h l g)]⟩) m' = some ()) : runT (tabC lf) (n + 8) 18 [Vit.hg h v, .int .i64 g] L m k = some () := by
  rw [r18]
  dsimp only [S18, iofNat, inegSucc]
  obtain ⟨p, c, rfl⟩ := hv.ex
  try simp (disch := first | omega | with_unfolding_all exact id rfl | with_unfolding_all exact Nat.le_of_ble_eq_true rfl | (simp only [Jd, Je, Jr, Js, Jt, Nat.reduceAdd, allOne, oneCell, Bool.and_self, Jc]; first | done | omega)) only [↓Qa, ↓Qb, ↓Qc, Qd, Qe, Qf, Qg, Qh, Qi, Qj, Qk, Ql, Qm, Qn, Qo, Qp, Qq, Qr, Qs, Qt, Qu, Qv, Qw, Qx, Qy, ptrTo, Qz, QA, QB, QC, QD, QE, QF, QG, QH, QI, QJ, QK, QL, QM, QN, QO, QP, QQ, QR, QS, QT, QU, QV, QW, QX, QY, QZ, Ja, Jb, Jc, Jd, Je, Jf, Jg, Jh, Ji, Jj, Jk, Jl, Jm, Jn, Jo, Jp, Jq, Jr, Js, Jt, Nat.reduceAdd]
  have g1 := Mem.gt_push m ⟨1, [.int .i64 h, .slice p l.length c], none⟩
  refine ruled_sp hlf (by have := g1.next; omega) (hv.mono g1) fun m2 e2 => ?_
  have g1n := g1.next
  have e2n := e2.next
  try simp (disch := first | omega | with_unfolding_all exact id rfl | with_unfolding_all exact Nat.le_of_ble_eq_true rfl | (simp only [Jd, Je, Jr, Js, Jt, Nat.reduceAdd, allOne, oneCell, Bool.and_self, Jc]; first | done | omega)) only [↓Qa, ↓Qb, ↓Qc, Qd, Qe, Qf, Qg, Qh, Qi, Qj, Qk, Ql, Qm, Qn, Qo, Qp, Qq, Qr, Qs, Qt, Qu, Qv, Qw, Qx, Qy, ptrTo, Qz, QA, QB, QC, QD, QE, QF, QG, QH, QI, QJ, QK, QL, QM, QN, QO, QP, QQ, QR, QS, QT, QU, QV, QW, QX, QY, QZ, Ja, Jb, Jc, Jd, Je, Jf, Jg, Jh, Ji, Jj, Jk, Jl, Jm, Jn, Jo, Jp, Jq, Jr, Js, Jt, Nat.reduceAdd]
  have e3 : Gt m ((m2.push ⟨1, [.int .i64 0, .slice none 0 0], none⟩).put m2.next (some ⟨1, [.int .i64 h, .slice p l.length c], none⟩)) := Mem.put_gt ((g1.trans e2).trans (Mem.gt_push _ _)) _ (by omega)
  have h3 : At ((m2.push ⟨1, [.int .i64 0, .slice none 0 0], none⟩).put m2.next (some ⟨1, [.int .i64 h, .slice p l.length c], none⟩)) m2.next [.int .i64 h, .slice p l.length c] := Mem.rd_put_eq _ _ (by rw [Mem.push_next]; omega)
  generalize (m2.push ⟨1, [.int .i64 0, .slice none 0 0], none⟩).put m2.next (some ⟨1, [.int .i64 h, .slice p l.length c], none⟩) = m3 at e3 h3 ⊢
  refine oIf_ndec (fun h4 => ?_) (fun h4 => ?_)
  · have := hk m3 e3
    simp only [mayX, errG, if_neg h4] at this
    exact this
  · obtain ⟨a, rfl, ha1, ha6, hci, hlen, hlt, hlt64⟩ := chk_valid h4
    have hp := pow_le64 ha6
    try simp (disch := first | omega | with_unfolding_all exact id rfl | with_unfolding_all exact Nat.le_of_ble_eq_true rfl | (simp only [Jd, Je, Jr, Js, Jt, Nat.reduceAdd, allOne, oneCell, Bool.and_self, Jc]; first | done | omega)) only [h3.rd, ↓Qa, ↓Qb, ↓Qc, Qd, Qe, Qf, Qg, Qh, Qi, Qj, Qk, Ql, Qm, Qn, Qo, Qp, Qq, Qr, Qs, Qt, Qu, Qv, Qw, Qx, Qy, ptrTo, Qz, QA, QB, QC, QD, QE, QF, QG, QH, QI, QJ, QK, QL, QM, QN, QO, QP, QQ, QR, QS, QT, QU, QV, QW, QX, QY, QZ, Ja, Jb, Jc, Jd, Je, Jf, Jg, Jh, Ji, Jj, Jk, Jl, Jm, Jn, Jo, Jp, Jq, Jr, Js, Jt, Nat.reduceAdd]
    refine has_sp _ g ha6 fun m4 e4 => ?_
    have hg0 : isGrp (a : Int) g ↔ (0 ≤ g ∧ g ≤ 2 ^ a - 1) := by unfold isGrp; rw [Int.toNat_natCast]
    have h4' := h3.mono e4
    by_cases h5 : 0 ≤ g ∧ g ≤ 2 ^ a - 1
    · have h6 : errG (a : Int) l g = 0 := by unfold errG; rw [if_pos h4, if_pos (hg0.2 h5)]
      obtain ⟨b, rfl⟩ : ∃ b : Nat, g = b := ⟨g.toNat, by omega⟩
      try simp (disch := first | omega | with_unfolding_all exact id rfl | with_unfolding_all exact Nat.le_of_ble_eq_true rfl | (simp only [Jd, Je, Jr, Js, Jt, Nat.reduceAdd, allOne, oneCell, Bool.and_self, Jc]; first | done | omega)) only [h5, and_self, h4'.rd, ↓Qa, ↓Qb, ↓Qc, Qd, Qe, Qf, Qg, Qh, Qi, Qj, Qk, Ql, Qm, Qn, Qo, Qp, Qq, Qr, Qs, Qt, Qu, Qv, Qw, Qx, Qy, ptrTo, Qz, QA, QB, QC, QD, QE, QF, QG, QH, QI, QJ, QK, QL, QM, QN, QO, QP, QQ, QR, QS, QT, QU, QV, QW, QX, QY, QZ, Ja, Jb, Jc, Jd, Je, Jf, Jg, Jh, Ji, Jj, Jk, Jl, Jm, Jn, Jo, Jp, Jq, Jr, Js, Jt, Nat.reduceAdd]
      have hin : IN m4 (.slice p l.length c) (nn l) := by unfold IN; rw [hci]; exact hv.mono (e3.trans e4)
      refine may_sp hlf hin (by rw [nn_length]; omega) hlt64 (by omega) fun m5 e5 => ?_
      have := hk m5 ((e3.trans e4).trans e5)
      rw [mayX, if_pos h6, h6, Int.toNat_natCast] at this
      exact this
    · have h6 : errG (a : Int) l g = 2 := by unfold errG; rw [if_pos h4, if_neg (fun hh => h5 (hg0.1 hh))]
      try simp (disch := first | omega | with_unfolding_all exact id rfl | with_unfolding_all exact Nat.le_of_ble_eq_true rfl | (simp only [Jd, Je, Jr, Js, Jt, Nat.reduceAdd, allOne, oneCell, Bool.and_self, Jc]; first | done | omega)) only [h5, ↓Qa, ↓Qb, ↓Qc, Qd, Qe, Qf, Qg, Qh, Qi, Qj, Qk, Ql, Qm, Qn, Qo, Qp, Qq, Qr, Qs, Qt, Qu, Qv, Qw, Qx, Qy, ptrTo, Qz, QA, QB, QC, QD, QE, QF, QG, QH, QI, QJ, QK, QL, QM, QN, QO, QP, QQ, QR, QS, QT, QU, QV, QW, QX, QY, QZ, Ja, Jb, Jc, Jd, Je, Jf, Jg, Jh, Ji, Jj, Jk, Jl, Jm, Jn, Jo, Jp, Jq, Jr, Js, Jt, Nat.reduceAdd]
      have := hk m4 (e3.trans e4)
      rw [mayX, h6, if_neg (by omega)] at this
      exact this
end
end Go.Vit
