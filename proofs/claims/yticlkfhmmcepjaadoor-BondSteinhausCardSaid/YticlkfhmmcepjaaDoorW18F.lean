/- Walks: where a rule and a plan differ. -/
import Derived.Test.YticlkfhmmcepjaaDoorP4
import Derived.Test.YticlkfhmmcepjaaDoorW13B
set_option linter.unusedSimpArgs false
set_option linter.unusedVariables false
set_option maxRecDepth 20000
namespace Go.Vit
open Go Go.Proofs
attribute [local irreducible] runT loopS
theorem fitV_bad {h h2 : Int} {l l2 : List Int} (hc : ¬ chk h l = 0) : fitV h l h2 l2 = (0, chk h l) := if_neg hc
theorem fitV_bad2 {h h2 : Int} {l l2 : List Int} (hc : chk h l = 0) (hc2 : ¬ chk h2 l2 = 0) : fitV h l h2 l2 = (0, chk h2 l2) := by
  unfold fitV; rw [if_pos hc, if_neg hc2]
theorem fitV_ne {h h2 : Int} {l l2 : List Int} (hc : chk h l = 0) (hc2 : chk h2 l2 = 0) (hn : ¬ h = h2) : fitV h l h2 l2 = (0, 5) := by
  unfold fitV; rw [if_pos hc, if_pos hc2, if_neg hn]
theorem fitV_at {a g : Nat} {l l2 : List Int} (hc : chk (a : Int) l = 0) (hc2 : chk (a : Int) l2 = 0) (hg : g < 2 ^ a) (hp : (mayB (nn l) g != openB (nn l2) g) = true) (hb : ∀ o, o < g → (mayB (nn l) o != openB (nn l2) o) = false) :
    fitV a l a l2 = ((g : Int), 0) := by
  unfold fitV fitL
  rw [if_pos hc, if_pos hc2, if_pos rfl, Int.toNat_natCast, find_at (p := fun g => mayB (nn l) g != openB (nn l2) g) hg hp hb]
theorem fitV_no {a : Nat} {l l2 : List Int} (hc : chk (a : Int) l = 0) (hc2 : chk (a : Int) l2 = 0) (hb : ∀ o, o < 2 ^ a → (mayB (nn l) o != openB (nn l2) o) = false) :
    fitV a l a l2 = (0, 13) := by
  unfold fitV fitL
  rw [if_pos hc, if_pos hc2, if_pos rfl, Int.toNat_natCast, find_no (p := fun g => mayB (nn l) g != openB (nn l2) g) hb]
theorem bne_dec (a b : Bool) : (!decide (a = b)) = (a != b) := by cases a <;> cases b <;> rfl
section
variable {lf n L : Nat} {m : Mem} {k : Value → Mem → Option Unit}
theorem fits1_sp {h h2 : Int} {v w : Value} {l l2 : List Int} (hlf : 1000000 ≤ lf) (hL : L ≤ m.next) (hv : IL m v l) (hw : IL m w l2)
    (hk : ∀ m', Gt m m' → k (.tuple ⟨[.int .i64 (fitV h l h2 l2).1, .int .i64 (fitV h l h2 l2).2]⟩) m' = some ()) : runT (tab lf) (n + 9) 18 [Vit.hg h v, Vit.hg h2 w] L m k = some () := by
  rw [r18]
  dsimp only [S18, iofNat, inegSucc]
  obtain ⟨p, c, rfl⟩ := hv.ex
  obtain ⟨q, c2, rfl⟩ := hw.ex
  try simp (disch := first | omega | with_unfolding_all exact id rfl | with_unfolding_all exact Nat.le_of_ble_eq_true rfl | (simp only [Jd, Je, Jr, Js, Jt, Nat.reduceAdd, allOne, oneCell, Bool.and_self, Jc]; first | done | omega)) only [↓Qa, ↓Qb, Qd, Qe, Qf, Qg, Qh, Qi, Qj, Qk, Ql, Qm, Qn, Qo, Qp, Qq, Qr, Qs, Qt, Qu, Qv, Qw, Qx, Qy, ptrTo, Qz, QA, QB, QC, QD, QE, QF, QG, QH, QI, QJ, QK, QL, QM, QN, QO, QP, QQ, QR, QS, QT, QU, QV, QW, QX, QY, QZ, Ja, Jb, Jc, Jd, Je, Jf, Jg, Jh, Ji, Jj, Jk, Jl, Jm, Jn, Jo, Jp, Jq, Jr, Js, Jt, Nat.reduceAdd]
  have g1 : Gt m ((m.push ⟨1, [.int .i64 h, .slice p l.length c], none⟩).push ⟨1, [.int .i64 h2, .slice q l2.length c2], none⟩) := (Mem.gt_push _ _).trans (Mem.gt_push _ _)
  have hb1 : At ((m.push ⟨1, [.int .i64 h, .slice p l.length c], none⟩).push ⟨1, [.int .i64 h2, .slice q l2.length c2], none⟩) (m.next + 1) [.int .i64 h2, .slice q l2.length c2] := Mem.rd_push (m.push ⟨1, [.int .i64 h, .slice p l.length c], none⟩) _
  generalize (m.push ⟨1, [.int .i64 h, .slice p l.length c], none⟩).push ⟨1, [.int .i64 h2, .slice q l2.length c2], none⟩ = m1 at g1 hb1 ⊢
  have g1n := g1.next
  refine ruled_sp hlf (by omega) (hv.mono g1) fun m2 e2 => ?_
  have e2n := e2.next
  have hb2 := hb1.mono e2
  have G2 := g1.trans e2
  have hl2 := hb2.lt
  try simp (disch := first | omega | with_unfolding_all exact id rfl | with_unfolding_all exact Nat.le_of_ble_eq_true rfl | (simp only [Jd, Je, Jr, Js, Jt, Nat.reduceAdd, allOne, oneCell, Bool.and_self, Jc]; first | done | omega)) only [↓Qa, ↓Qb, Qd, Qe, Qf, Qg, Qh, Qi, Qj, Qk, Ql, Qm, Qn, Qo, Qp, Qq, Qr, Qs, Qt, Qu, Qv, Qw, Qx, Qy, ptrTo, Qz, QA, QB, QC, QD, QE, QF, QG, QH, QI, QJ, QK, QL, QM, QN, QO, QP, QQ, QR, QS, QT, QU, QV, QW, QX, QY, QZ, Ja, Jb, Jc, Jd, Je, Jf, Jg, Jh, Ji, Jj, Jk, Jl, Jm, Jn, Jo, Jp, Jq, Jr, Js, Jt, Nat.reduceAdd]
  have e3 : Gt m2 ((m2.push ⟨1, [.int .i64 0, .slice none 0 0], none⟩).put m2.next (some ⟨1, [.int .i64 h, .slice p l.length c], none⟩)) := Mem.put_gt (Mem.gt_push _ _) _ (Nat.le_refl _)
  have h3 : At ((m2.push ⟨1, [.int .i64 0, .slice none 0 0], none⟩).put m2.next (some ⟨1, [.int .i64 h, .slice p l.length c], none⟩)) m2.next [.int .i64 h, .slice p l.length c] := Mem.rd_put_eq _ _ (by rw [Mem.push_next]; omega)
  generalize (m2.push ⟨1, [.int .i64 0, .slice none 0 0], none⟩).put m2.next (some ⟨1, [.int .i64 h, .slice p l.length c], none⟩) = m3 at e3 h3 ⊢
  have e3n := e3.next
  have G3 := G2.trans e3
  have hb3 := hb2.mono e3
  have h3l := h3.lt
  refine oIf_ndec (fun hc => ?_) (fun hc => ?_)
  · have := hk m3 G3
    rw [fitV_bad hc] at this
    exact this
  try simp (disch := first | omega | with_unfolding_all exact id rfl | with_unfolding_all exact Nat.le_of_ble_eq_true rfl | (simp only [Jd, Je, Jr, Js, Jt, Nat.reduceAdd, allOne, oneCell, Bool.and_self, Jc]; first | done | omega)) only [hb2.rd, hb3.rd, ↓Qa, ↓Qb, Qd, Qe, Qf, Qg, Qh, Qi, Qj, Qk, Ql, Qm, Qn, Qo, Qp, Qq, Qr, Qs, Qt, Qu, Qv, Qw, Qx, Qy, ptrTo, Qz, QA, QB, QC, QD, QE, QF, QG, QH, QI, QJ, QK, QL, QM, QN, QO, QP, QQ, QR, QS, QT, QU, QV, QW, QX, QY, QZ, Ja, Jb, Jc, Jd, Je, Jf, Jg, Jh, Ji, Jj, Jk, Jl, Jm, Jn, Jo, Jp, Jq, Jr, Js, Jt, Nat.reduceAdd]
  refine planned_sp hlf (by omega) (hw.mono G3) fun m4 e4 => ?_
  have e4n := e4.next
  have h4 := h3.mono e4
  have G4 := G3.trans e4
  try simp (disch := first | omega | with_unfolding_all exact id rfl | with_unfolding_all exact Nat.le_of_ble_eq_true rfl | (simp only [Jd, Je, Jr, Js, Jt, Nat.reduceAdd, allOne, oneCell, Bool.and_self, Jc]; first | done | omega)) only [↓Qa, ↓Qb, Qd, Qe, Qf, Qg, Qh, Qi, Qj, Qk, Ql, Qm, Qn, Qo, Qp, Qq, Qr, Qs, Qt, Qu, Qv, Qw, Qx, Qy, ptrTo, Qz, QA, QB, QC, QD, QE, QF, QG, QH, QI, QJ, QK, QL, QM, QN, QO, QP, QQ, QR, QS, QT, QU, QV, QW, QX, QY, QZ, Ja, Jb, Jc, Jd, Je, Jf, Jg, Jh, Ji, Jj, Jk, Jl, Jm, Jn, Jo, Jp, Jq, Jr, Js, Jt, Nat.reduceAdd]
  have e5 : Gt m4 ((m4.push ⟨1, [.int .i64 0, .slice none 0 0], none⟩).put m4.next (some ⟨1, [.int .i64 h2, .slice q l2.length c2], none⟩)) := Mem.put_gt (Mem.gt_push _ _) _ (Nat.le_refl _)
  have h5 : At ((m4.push ⟨1, [.int .i64 0, .slice none 0 0], none⟩).put m4.next (some ⟨1, [.int .i64 h2, .slice q l2.length c2], none⟩)) m4.next [.int .i64 h2, .slice q l2.length c2] := Mem.rd_put_eq _ _ (by rw [Mem.push_next]; omega)
  generalize (m4.push ⟨1, [.int .i64 0, .slice none 0 0], none⟩).put m4.next (some ⟨1, [.int .i64 h2, .slice q l2.length c2], none⟩) = m5 at e5 h5 ⊢
  have e5n := e5.next
  have G5 := G4.trans e5
  have h45 := h4.mono e5
  refine oIf_ndec (fun hc2 => ?_) (fun hc2 => ?_)
  · have := hk m5 G5
    rw [fitV_bad2 hc hc2] at this
    exact this
  try simp (disch := first | omega | with_unfolding_all exact id rfl | with_unfolding_all exact Nat.le_of_ble_eq_true rfl | (simp only [Jd, Je, Jr, Js, Jt, Nat.reduceAdd, allOne, oneCell, Bool.and_self, Jc]; first | done | omega)) only [h4.rd, h45.rd, h5.rd, ↓Qa, ↓Qb, Qd, Qe, Qf, Qg, Qh, Qi, Qj, Qk, Ql, Qm, Qn, Qo, Qp, Qq, Qr, Qs, Qt, Qu, Qv, Qw, Qx, Qy, ptrTo, Qz, QA, QB, QC, QD, QE, QF, QG, QH, QI, QJ, QK, QL, QM, QN, QO, QP, QQ, QR, QS, QT, QU, QV, QW, QX, QY, QZ, Ja, Jb, Jc, Jd, Je, Jf, Jg, Jh, Ji, Jj, Jk, Jl, Jm, Jn, Jo, Jp, Jq, Jr, Js, Jt, Nat.reduceAdd]
  refine oIf_ndec (fun hne => ?_) (fun hne => ?_)
  · have := hk m5 G5
    rw [fitV_ne hc hc2 hne] at this
    exact this
  obtain ⟨a, rfl, ha1, ha6, hci, hlen, hlt, hlt64⟩ := chk_valid hc
  subst hne
  obtain ⟨a', haa, _, _, hci2, hlen2, hlt2, hlt642⟩ := chk_valid hc2
  have hp := pow_le64 ha6
  try simp (disch := first | omega | with_unfolding_all exact id rfl | with_unfolding_all exact Nat.le_of_ble_eq_true rfl | (simp only [Jd, Je, Jr, Js, Jt, Nat.reduceAdd, allOne, oneCell, Bool.and_self, Jc]; first | done | omega)) only [h4.rd, h45.rd, h5.rd, ↓Qa, ↓Qb, Qd, Qe, Qf, Qg, Qh, Qi, Qj, Qk, Ql, Qm, Qn, Qo, Qp, Qq, Qr, Qs, Qt, Qu, Qv, Qw, Qx, Qy, ptrTo, Qz, QA, QB, QC, QD, QE, QF, QG, QH, QI, QJ, QK, QL, QM, QN, QO, QP, QQ, QR, QS, QT, QU, QV, QW, QX, QY, QZ, Ja, Jb, Jc, Jd, Je, Jf, Jg, Jh, Ji, Jj, Jk, Jl, Jm, Jn, Jo, Jp, Jq, Jr, Js, Jt, Nat.reduceAdd]
  refine all_sp _ ha6 fun m6 e6 => ?_
  have e6n := e6.next
  have h46 := h45.mono e6
  have h56 := h5.mono e6
  have G6 := G5.trans e6
  have hin : IN m6 (.slice p l.length c) (nn l) := by unfold IN; rw [hci]; exact hv.mono G6
  have hin2 : IN m6 (.slice q l2.length c2) (nn l2) := by unfold IN; rw [hci2]; exact hw.mono G6
  have hadd : ∀ K : Value → Option Unit, oInt .add .i64 (.int .i64 (2 ^ a - 1)) (.int .i64 1) K = K (.int .i64 ((2 ^ a : Nat) : Int)) := fun K => by
    rw [oInt_add ⟨by omega, by omega⟩, show (2 : Int) ^ a - 1 + 1 = ((2 ^ a : Nat) : Int) by omega]
  rw [hadd]
  refine loop_up (2 ^ a) (fun g vs m' => vs = [.int .i64 (g : Int)] ∧ Gt m6 m' ∧ ∀ o, o < g → (mayB (nn l) o != openB (nn l2) o) = false) (by omega) ⟨rfl, Gt.refl _, fun o ho => by omega⟩ ?_
  rintro g vs m7 hg ⟨rfl, e7, hb⟩ self hself
  have e7n := e7.next
  have h47 := h46.mono e7
  have h57 := h56.mono e7
  try simp (disch := first | omega | with_unfolding_all exact id rfl | with_unfolding_all exact Nat.le_of_ble_eq_true rfl | (simp only [Jd, Je, Jr, Js, Jt, Nat.reduceAdd, allOne, oneCell, Bool.and_self, Jc]; first | done | omega)) only [↓Qa, ↓Qb, Qd, Qe, Qf, Qg, Qh, Qi, Qj, Qk, Ql, Qm, Qn, Qo, Qp, Qq, Qr, Qs, Qt, Qu, Qv, Qw, Qx, Qy, ptrTo, Qz, QA, QB, QC, QD, QE, QF, QG, QH, QI, QJ, QK, QL, QM, QN, QO, QP, QQ, QR, QS, QT, QU, QV, QW, QX, QY, QZ, Ja, Jb, Jc, Jd, Je, Jf, Jg, Jh, Ji, Jj, Jk, Jl, Jm, Jn, Jo, Jp, Jq, Jr, Js, Jt, Nat.reduceAdd]
  refine oIf_dec (fun hlt3 => ?_) (fun hlt3 => ?_)
  · have hg2 : g < 2 ^ a := by omega
    try simp (disch := first | omega | with_unfolding_all exact id rfl | with_unfolding_all exact Nat.le_of_ble_eq_true rfl | (simp only [Jd, Je, Jr, Js, Jt, Nat.reduceAdd, allOne, oneCell, Bool.and_self, Jc]; first | done | omega)) only [h47.rd, ↓Qa, ↓Qb, Qd, Qe, Qf, Qg, Qh, Qi, Qj, Qk, Ql, Qm, Qn, Qo, Qp, Qq, Qr, Qs, Qt, Qu, Qv, Qw, Qx, Qy, ptrTo, Qz, QA, QB, QC, QD, QE, QF, QG, QH, QI, QJ, QK, QL, QM, QN, QO, QP, QQ, QR, QS, QT, QU, QV, QW, QX, QY, QZ, Ja, Jb, Jc, Jd, Je, Jf, Jg, Jh, Ji, Jj, Jk, Jl, Jm, Jn, Jo, Jp, Jq, Jr, Js, Jt, Nat.reduceAdd]
    refine may_sp hlf (hin.mono e7) (by rw [nn_length]; omega) hlt64 (by omega) fun m8 e8 => ?_
    have e8n := e8.next
    have h58 := h57.mono e8
    try simp (disch := first | omega | with_unfolding_all exact id rfl | with_unfolding_all exact Nat.le_of_ble_eq_true rfl | (simp only [Jd, Je, Jr, Js, Jt, Nat.reduceAdd, allOne, oneCell, Bool.and_self, Jc]; first | done | omega)) only [h58.rd, ↓Qa, ↓Qb, Qd, Qe, Qf, Qg, Qh, Qi, Qj, Qk, Ql, Qm, Qn, Qo, Qp, Qq, Qr, Qs, Qt, Qu, Qv, Qw, Qx, Qy, ptrTo, Qz, QA, QB, QC, QD, QE, QF, QG, QH, QI, QJ, QK, QL, QM, QN, QO, QP, QQ, QR, QS, QT, QU, QV, QW, QX, QY, QZ, Ja, Jb, Jc, Jd, Je, Jf, Jg, Jh, Ji, Jj, Jk, Jl, Jm, Jn, Jo, Jp, Jq, Jr, Js, Jt, Nat.reduceAdd]
    refine lacks_sp hlf (by omega) ((hin2.mono e7).mono e8) (by rw [nn_length]; omega) hlt642 (by omega) fun u m9 e9 hu => ?_
    try simp (disch := first | omega | with_unfolding_all exact id rfl | with_unfolding_all exact Nat.le_of_ble_eq_true rfl | (simp only [Jd, Je, Jr, Js, Jt, Nat.reduceAdd, allOne, oneCell, Bool.and_self, Jc]; first | done | omega)) only [hu.ln, openB_eq, bneq4, bne_dec, ↓Qa, ↓Qb, Qd, Qe, Qf, Qg, Qh, Qi, Qj, Qk, Ql, Qm, Qn, Qo, Qp, Qq, Qr, Qs, Qt, Qu, Qv, Qw, Qx, Qy, ptrTo, Qz, QA, QB, QC, QD, QE, QF, QG, QH, QI, QJ, QK, QL, QM, QN, QO, QP, QQ, QR, QS, QT, QU, QV, QW, QX, QY, QZ, Ja, Jb, Jc, Jd, Je, Jf, Jg, Jh, Ji, Jj, Jk, Jl, Jm, Jn, Jo, Jp, Jq, Jr, Js, Jt, Nat.reduceAdd]
    refine oIf_bool (fun h6 => ?_) (fun h6 => ?_)
    · have := hk m9 ((((G6.trans e7).trans e8).trans e9))
      rw [fitV_at hc hc2 hg2 h6 hb] at this
      exact this
    · rw [oInt_add ⟨by omega, by omega⟩]
      refine hself hg2 _ _ ⟨rfl, (e7.trans e8).trans e9, fun o ho => ?_⟩
      by_cases hog : o = g
      · subst hog; exact h6
      · exact hb o (by omega)
  · have hge : g = 2 ^ a := by omega
    subst hge
    have := hk m7 (G6.trans e7)
    rw [fitV_no hc hc2 hb] at this
    exact this
end
end Go.Vit
