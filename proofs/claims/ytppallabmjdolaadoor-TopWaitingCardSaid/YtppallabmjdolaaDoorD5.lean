/- Walks of the group Dock, numbered for this seat by a program: W7. -/
import Derived.Test.YtppallabmjdolaaDoorD3
import Derived.Test.YtppallabmjdolaaDoorCoreD
set_option linter.unusedSimpArgs false
set_option linter.unusedVariables false
set_option maxRecDepth 20000
namespace Go.Vit
open Go Go.Proofs
attribute [local irreducible] runT loopS
section
variable {lf n L : Nat} {m : Mem} {k : Value → Mem → Option Unit}
/-- A round of slices.AppendSeq: one number more. -/
theorem round84_sp {m0 : Mem} {y q : Nat} {u : Value} {l : List Int} {x : Int} (hL : L ≤ q) (hqy : q < y) (e : Gt m0 m) (hm0 : m0.next ≤ q) (hr : Rdy 106 m y [.pointer (some ⟨q, 0, none⟩)]) (hq : m.rd q = some ⟨1, [u], none⟩) (hu : GL (y + 1) m u l) (hl : l.length < 1000)
    (hk : ∀ u' m', Gt m0 m' → Rdy 106 m' y [.pointer (some ⟨q, 0, none⟩)] → m'.rd q = some ⟨1, [u'], none⟩ → GL (y + 1) m' u' (l ++ [x]) → k (.bool true) m' = some ()) :
    runT (tab lf) (n + 1) (Nat.add RB 106) [yv y, .pointer (some ⟨q, 0, none⟩), .int .i64 x] L m k = some () := by
  rw [rR106]; dsimp only [R106, iofNat, inegSucc]
  have hyl := hr.lt
  rw [uc_e, oYv_e (by omega)]
  try simp (disch := first | omega | with_unfolding_all exact id rfl | with_unfolding_all exact Nat.le_of_ble_eq_true rfl | (simp only [Jd, Je, Jr, Js, Jt, Nat.reduceAdd, allOne, oneCell, Bool.and_self, Jc]; first | done | omega)) only [↓Qa, ↓Qb, ↓Qc, Qd, Qe, Qf, Qg, Qh, Qi, Qj, Qk, Ql, Qm, Qn, Qo, Qp, Qq, Qr, Qs, Qt, Qu, Qv, Qw, Qx, Qy, ptrTo, Qz, QA, QB, QC, QD, QE, QF, QG, QH, QI, QJ, QK, QL, QM, QN, QO, QP, QQ, QR, QS, QT, QU, QV, QW, QX, QY, QZ, Ja, Jb, Jc, Jd, Je, Jf, Jg, Jh, Ji, Jj, Jk, Jl, Jm, Jn, Jo, Jp, Jq, Jr, Js, Jt, Nat.reduceAdd]
  rw [oBusy_e hr]
  have b1 : Bsy 106 (m.put y (some ⟨Nat.succ (Nat.succ (Nat.mul 2 106)), [.pointer (some ⟨q, 0, none⟩)], some []⟩)) y [.pointer (some ⟨q, 0, none⟩)] := Mem.rd_put_eq _ _ hyl
  have e1 : Gt m0 (m.put y (some ⟨Nat.succ (Nat.succ (Nat.mul 2 106)), [.pointer (some ⟨q, 0, none⟩)], some []⟩)) := Mem.put_gt e _ (by omega)
  have q1 : (m.put y (some ⟨Nat.succ (Nat.succ (Nat.mul 2 106)), [.pointer (some ⟨q, 0, none⟩)], some []⟩)).rd q = some ⟨1, [u], none⟩ := (Mem.rd_put _ _ _ _ (by omega)).trans hq
  have u1 : GL (y + 1) (m.put y (some ⟨Nat.succ (Nat.succ (Nat.mul 2 106)), [.pointer (some ⟨q, 0, none⟩)], some []⟩)) u l := hu.keep fun c hc hc2 => Mem.rd_put _ _ _ _ (by omega)
  have n1 : (m.put y (some ⟨Nat.succ (Nat.succ (Nat.mul 2 106)), [.pointer (some ⟨q, 0, none⟩)], some []⟩)).next = m.next := rfl
  generalize m.put y (some ⟨Nat.succ (Nat.succ (Nat.mul 2 106)), [.pointer (some ⟨q, 0, none⟩)], some []⟩) = m1 at b1 e1 q1 u1 n1 ⊢
  have hby := b1.lt
  obtain ⟨u', m2, h1, h2, h3, h4, h5⟩ := GL.snocV (P := Tryd.prog) (L := L) (m0 := m0) x ael22 (by omega) u1 (by omega) (by omega) e1 (by omega)
  have hun : ∀ c, c < y + 1 → bid u ≠ some c := fun c hc h => by
    have := u1.fr c h; omega
  obtain ⟨p, cc, hux⟩ := u1.il.ex
  obtain ⟨p', cc', hux'⟩ := h2.il.ex
  have q2 : m2.rd q = some ⟨1, [u], none⟩ := (h5 q (by omega) (hun q (by omega))).trans q1
  have b2 : Bsy 106 m2 y [.pointer (some ⟨q, 0, none⟩)] := (h5 y (by omega) (hun y (by omega))).trans b1
  have hc1 : rdo (some ⟨1, [u], none⟩) 0 = some u := rfl
  rw [q1, hc1, oOpt_e, bs22, oRes_e, h1, oRes_e, q2]
  have hst : stw 1 L m2 q 0 u'.cells.toList (some ⟨1, [u], none⟩) = some (Go.undef, m2.put q (some ⟨1, [u'], none⟩)) := by
    rw [hux']
    exact stw_e hL rfl (Nat.le_refl _) rfl
  rw [hst, oRes_e]
  have b3 : Bsy 106 (m2.put q (some ⟨1, [u'], none⟩)) y [.pointer (some ⟨q, 0, none⟩)] := (Mem.rd_put _ _ _ _ (by omega)).trans b2
  rw [oReady_e b3]
  have hyn := b2.lt
  refine hk u' _ (Mem.put_gt (Mem.put_gt h3 _ (by omega)) _ (by omega)) (Mem.rd_put_eq _ _ (by rw [Mem.put_next']; omega)) ?_ ?_
  · rw [Mem.rd_put _ _ _ _ (by omega)]; exact Mem.rd_put_eq _ _ (by omega)
  · exact ((h2.le (by omega)).keep fun c hc hc2 => Mem.rd_put _ _ _ _ (by omega)).keep fun c hc hc2 => Mem.rd_put _ _ _ _ (by omega)
theorem sorted_sp {b : Nat} {v : Value} {l : List Int} (hlf : 1000000 ≤ lf) (hL : L ≤ m.next) (hb : m.rd b = some ⟨1, [v], none⟩) (hv : IL m v l) (hl : l.length < 100)
    (hk : ∀ u m', Gt m m' → GL m.next m' u (isortI l) → k u m' = some ()) : runT (tab lf) (n + 5) 55 [.func (.func 83) #[] ⟨[.pointer (some ⟨b, 0, none⟩)]⟩] L m k = some () := by
  rw [r55]; dsimp only [S55, iofNat, inegSucc]
  try simp (disch := first | omega | with_unfolding_all exact id rfl | with_unfolding_all exact Nat.le_of_ble_eq_true rfl | (simp only [Jd, Je, Jr, Js, Jt, Nat.reduceAdd, allOne, oneCell, Bool.and_self, Jc]; first | done | omega)) only [↓Qa, ↓Qb, ↓Qc, Qd, Qe, Qf, Qg, Qh, Qi, Qj, Qk, Ql, Qm, Qn, Qo, Qp, Qq, Qr, Qs, Qt, Qu, Qv, Qw, Qx, Qy, ptrTo, Qz, QA, QB, QC, QD, QE, QF, QG, QH, QI, QJ, QK, QL, QM, QN, QO, QP, QQ, QR, QS, QT, QU, QV, QW, QX, QY, QZ, Ja, Jb, Jc, Jd, Je, Jf, Jg, Jh, Ji, Jj, Jk, Jl, Jm, Jn, Jo, Jp, Jq, Jr, Js, Jt, Nat.reduceAdd]
  rw [r82]; dsimp only [S82, iofNat, inegSucc]
  try simp (disch := first | omega | with_unfolding_all exact id rfl | with_unfolding_all exact Nat.le_of_ble_eq_true rfl | (simp only [Jd, Je, Jr, Js, Jt, Nat.reduceAdd, allOne, oneCell, Bool.and_self, Jc]; first | done | omega)) only [↓Qa, ↓Qb, ↓Qc, Qd, Qe, Qf, Qg, Qh, Qi, Qj, Qk, Ql, Qm, Qn, Qo, Qp, Qq, Qr, Qs, Qt, Qu, Qv, Qw, Qx, Qy, ptrTo, Qz, QA, QB, QC, QD, QE, QF, QG, QH, QI, QJ, QK, QL, QM, QN, QO, QP, QQ, QR, QS, QT, QU, QV, QW, QX, QY, QZ, Ja, Jb, Jc, Jd, Je, Jf, Jg, Jh, Ji, Jj, Jk, Jl, Jm, Jn, Jo, Jp, Jq, Jr, Js, Jt, Nat.reduceAdd]
  rw [r106]; dsimp only [S106, iofNat, inegSucc]
  have hab : abox m (.slice none 0 0) = some (ptrTo m.next, m.push ⟨1, [.slice none 0 0], none⟩) := abox_e _ _
  rw [uc_e, uc_e, un0_e, hab, oRes_e]
  have e1 := Mem.gt_push m ⟨1, [.slice none 0 0], none⟩
  have q1 : (m.push ⟨1, [.slice none 0 0], none⟩).rd m.next = some ⟨1, [.slice none 0 0], none⟩ := Mem.rd_push _ _
  have n1 : (m.push ⟨1, [.slice none 0 0], none⟩).next = m.next + 1 := Mem.push_next _ _
  generalize m.push ⟨1, [.slice none 0 0], none⟩ = m1 at e1 q1 n1 ⊢
  rw [oRange_e (hf := rfl), n1]
  have e2 := Mem.gt_push m1 ⟨Nat.succ (Nat.mul 2 106), [ptrTo m.next], some []⟩
  have y2 : Rdy 106 (m1.push ⟨Nat.succ (Nat.mul 2 106), [ptrTo m.next], some []⟩) m1.next [.pointer (some ⟨m.next, 0, none⟩)] := Mem.rd_push _ _
  have n2 : (m1.push ⟨Nat.succ (Nat.mul 2 106), [ptrTo m.next], some []⟩).next = m1.next + 1 := Mem.push_next _ _
  generalize m1.push ⟨Nat.succ (Nat.mul 2 106), [ptrTo m.next], some []⟩ = m2 at e2 y2 n2 ⊢
  rw [n1] at y2 n2
  have q2 := (e2.kept m.next (by omega)).trans q1
  have e02 := e1.trans e2
  rw [r83]; dsimp only [S83, iofNat, inegSucc]
  have hbl := Mem.rd_lt hb
  have hb2 := (e02.kept b hbl).trans hb
  have hv2 := hv.mono e02
  try simp (disch := first | omega | with_unfolding_all exact id rfl | with_unfolding_all exact Nat.le_of_ble_eq_true rfl | (simp only [Jd, Je, Jr, Js, Jt, Nat.reduceAdd, allOne, oneCell, Bool.and_self, Jc]; first | done | omega)) only [hb2, hv2.ln, ↓Qa, ↓Qb, ↓Qc, Qd, Qe, Qf, Qg, Qh, Qi, Qj, Qk, Ql, Qm, Qn, Qo, Qp, Qq, Qr, Qs, Qt, Qu, Qv, Qw, Qx, Qy, ptrTo, Qz, QA, QB, QC, QD, QE, QF, QG, QH, QI, QJ, QK, QL, QM, QN, QO, QP, QQ, QR, QS, QT, QU, QV, QW, QX, QY, QZ, Ja, Jb, Jc, Jd, Je, Jf, Jg, Jh, Ji, Jj, Jk, Jl, Jm, Jn, Jo, Jp, Jq, Jr, Js, Jt, Nat.reduceAdd]
  refine loop_up l.length (fun i vs m' => ∃ u, vs = [.int .i64 (i : Int)] ∧ Gt m m' ∧ Rdy 106 m' (m.next + 1) [.pointer (some ⟨m.next, 0, none⟩)] ∧ m'.rd m.next = some ⟨1, [u], none⟩ ∧ GL (m.next + 2) m' u (l.take i)) (by omega)
    ⟨_, rfl, e02, y2, q2, GL.nil _ _⟩ ?_
  rintro i vs m3 hi ⟨u, rfl, e3, y3, q3, hu⟩ self hself
  have hv3 := hv.mono e3
  try simp (disch := first | omega | with_unfolding_all exact id rfl | with_unfolding_all exact Nat.le_of_ble_eq_true rfl | (simp only [Jd, Je, Jr, Js, Jt, Nat.reduceAdd, allOne, oneCell, Bool.and_self, Jc]; first | done | omega)) only [↓Qa, ↓Qb, ↓Qc, Qd, Qe, Qf, Qg, Qh, Qi, Qj, Qk, Ql, Qm, Qn, Qo, Qp, Qq, Qr, Qs, Qt, Qu, Qv, Qw, Qx, Qy, ptrTo, Qz, QA, QB, QC, QD, QE, QF, QG, QH, QI, QJ, QK, QL, QM, QN, QO, QP, QQ, QR, QS, QT, QU, QV, QW, QX, QY, QZ, Ja, Jb, Jc, Jd, Je, Jf, Jg, Jh, Ji, Jj, Jk, Jl, Jm, Jn, Jo, Jp, Jq, Jr, Js, Jt, Nat.reduceAdd]
  refine oIf_dec (fun h => ?_) (fun h => ?_)
  · have hil : i < l.length := by omega
    try simp (disch := first | omega | with_unfolding_all exact id rfl | with_unfolding_all exact Nat.le_of_ble_eq_true rfl | (simp only [Jd, Je, Jr, Js, Jt, Nat.reduceAdd, allOne, oneCell, Bool.and_self, Jc]; first | done | omega)) only [hv3.ia hil, hv3.ld hil, ↓Qa, ↓Qb, ↓Qc, Qd, Qe, Qf, Qg, Qh, Qi, Qj, Qk, Ql, Qm, Qn, Qo, Qp, Qq, Qr, Qs, Qt, Qu, Qv, Qw, Qx, Qy, ptrTo, Qz, QA, QB, QC, QD, QE, QF, QG, QH, QI, QJ, QK, QL, QM, QN, QO, QP, QQ, QR, QS, QT, QU, QV, QW, QX, QY, QZ, Ja, Jb, Jc, Jd, Je, Jf, Jg, Jh, Ji, Jj, Jk, Jl, Jm, Jn, Jo, Jp, Jq, Jr, Js, Jt, Nat.reduceAdd]
    rw [oCallV_y y3]
    refine round84_sp (m0 := m) (l := l.take i) (by omega) (by omega) e3 (Nat.le_refl _) y3 q3 hu (by rw [List.length_take]; omega) fun u' m4 e4 y4 q4 hu4 => ?_
    try simp (disch := first | omega | with_unfolding_all exact id rfl | with_unfolding_all exact Nat.le_of_ble_eq_true rfl | (simp only [Jd, Je, Jr, Js, Jt, Nat.reduceAdd, allOne, oneCell, Bool.and_self, Jc]; first | done | omega)) only [↓Qa, ↓Qb, ↓Qc, Qd, Qe, Qf, Qg, Qh, Qi, Qj, Qk, Ql, Qm, Qn, Qo, Qp, Qq, Qr, Qs, Qt, Qu, Qv, Qw, Qx, Qy, ptrTo, Qz, QA, QB, QC, QD, QE, QF, QG, QH, QI, QJ, QK, QL, QM, QN, QO, QP, QQ, QR, QS, QT, QU, QV, QW, QX, QY, QZ, Ja, Jb, Jc, Jd, Je, Jf, Jg, Jh, Ji, Jj, Jk, Jl, Jm, Jn, Jo, Jp, Jq, Jr, Js, Jt, Nat.reduceAdd]
    rw [oInt_add ⟨by omega, by omega⟩]
    refine hself hil _ _ ⟨u', rfl, e4, y4, q4, ?_⟩
    rw [List.take_add_one, List.getElem?_eq_getElem hil]
    exact hu4
  · have hiw : i = l.length := by omega
    subst hiw
    rw [List.take_length] at hu
    rw [oEnd_e y3]
    have q4 : (m3.put (m.next + 1) none).rd m.next = some ⟨1, [u], none⟩ := (Mem.rd_put _ _ _ _ (by omega)).trans q3
    have hc1 : rdo (some ⟨1, [u], none⟩) 0 = some u := rfl
    rw [q4, hc1, oOpt_e]
    rw [r81]
    refine sort_sp (L0 := m.next) (m0 := m) ((hu.le (by omega)).keep fun c hc hc2 => ?_) hL (Mem.put_gt e3 _ (by omega)) (Nat.le_refl _) (by omega) fun m5 e5 hs _ _ => ?_
    · exact Mem.rd_put _ _ _ _ (by have := hu.fr c hc; omega)
    · exact hk u m5 e5 hs
end
end Go.Vit
