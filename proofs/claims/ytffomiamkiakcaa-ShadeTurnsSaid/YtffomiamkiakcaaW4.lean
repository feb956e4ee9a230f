/- Walks: sorted shades, what proves a step, both ways. -/
import Derived.Test.YtffomiamkiakcaaW3
import Derived.Test.YtffomiamkiakcaaCoreD
set_option linter.unusedSimpArgs false
set_option linter.unusedVariables false
set_option maxRecDepth 20000
namespace Go.Vit
open Go Go.Proofs
attribute [local irreducible] runT loopS
theorem bu77 (p : Option Addr) (a b : Nat) (r : Bool) : bu Try.prog 77 [(0, .slice p a b), (1, .bool r)] = some (.agg ⟨[.slice p a b, .bool r]⟩) := by cases r <;> kernel_rfl
def prS (l : List Int) (r : Bool) (x s : Int) : Int :=
  if chkS l = 0 then (if inI x 0 ((l.length : Int) - 1 - reachN l r) then (if (isortI l).getD (x.toNat + reachN l r) 0 - (isortI l).getD x.toNat 0 < s then 14 else 0) else 1) else chkS l
section
variable {lf n L : Nat} {m : Mem} {k : Value → Mem → Option Unit}
/-- A round of slices.AppendSeq: one number more. -/
theorem round101_sp {m0 : Mem} {y q : Nat} {u : Value} {l : List Int} {x : Int} (hL : L ≤ q) (hqy : q < y) (e : Gt m0 m) (hm0 : m0.next ≤ q) (hr : Rdy 101 m y [.pointer (some ⟨q, 0, none⟩)]) (hq : m.rd q = some ⟨1, [u], none⟩) (hu : GL (y + 1) m u l) (hl : l.length < 1000)
    (hk : ∀ u' m', Gt m0 m' → Rdy 101 m' y [.pointer (some ⟨q, 0, none⟩)] → m'.rd q = some ⟨1, [u'], none⟩ → GL (y + 1) m' u' (l ++ [x]) → k (.bool true) m' = some ()) :
    runT (tab lf) (n + 1) (Nat.add RB 101) [yv y, .pointer (some ⟨q, 0, none⟩), .int .i64 x] L m k = some () := by
  rw [rR101]; dsimp only [R101, iofNat, inegSucc]
  have hyl := hr.lt
  rw [uc_e, oYv_e (by omega)]
  try simp (disch := first | omega | with_unfolding_all exact id rfl | with_unfolding_all exact Nat.le_of_ble_eq_true rfl | (simp only [Jd, Je, Jr, Js, Jt, Nat.reduceAdd, allOne, oneCell, Bool.and_self, Jc]; first | done | omega)) only [↓Qa, ↓Qb, ↓Qc, Qd, Qe, Qf, Qg, Qh, Qi, Qj, Qk, Ql, Qm, Qn, Qo, Qp, Qq, Qr, Qs, Qt, Qu, Qv, Qw, Qx, Qy, ptrTo, Qz, QA, QB, QC, QD, QE, QF, QG, QH, QI, QJ, QK, QL, QM, QN, QO, QP, QQ, QR, QS, QT, QU, QV, QW, QX, QY, QZ, Ja, Jb, Jc, Jd, Je, Jf, Jg, Jh, Ji, Jj, Jk, Jl, Jm, Jn, Jo, Jp, Jq, Jr, Js, Jt, Nat.reduceAdd]
  rw [oBusy_e hr]
  have b1 : Bsy 101 (m.put y (some ⟨Nat.succ (Nat.succ (Nat.mul 2 101)), [.pointer (some ⟨q, 0, none⟩)], some []⟩)) y [.pointer (some ⟨q, 0, none⟩)] := Mem.rd_put_eq _ _ hyl
  have e1 : Gt m0 (m.put y (some ⟨Nat.succ (Nat.succ (Nat.mul 2 101)), [.pointer (some ⟨q, 0, none⟩)], some []⟩)) := Mem.put_gt e _ (by omega)
  have q1 : (m.put y (some ⟨Nat.succ (Nat.succ (Nat.mul 2 101)), [.pointer (some ⟨q, 0, none⟩)], some []⟩)).rd q = some ⟨1, [u], none⟩ := (Mem.rd_put _ _ _ _ (by omega)).trans hq
  have u1 : GL (y + 1) (m.put y (some ⟨Nat.succ (Nat.succ (Nat.mul 2 101)), [.pointer (some ⟨q, 0, none⟩)], some []⟩)) u l := hu.keep fun c hc hc2 => Mem.rd_put _ _ _ _ (by omega)
  have n1 : (m.put y (some ⟨Nat.succ (Nat.succ (Nat.mul 2 101)), [.pointer (some ⟨q, 0, none⟩)], some []⟩)).next = m.next := rfl
  generalize m.put y (some ⟨Nat.succ (Nat.succ (Nat.mul 2 101)), [.pointer (some ⟨q, 0, none⟩)], some []⟩) = m1 at b1 e1 q1 u1 n1 ⊢
  have hby := b1.lt
  obtain ⟨u', m2, h1, h2, h3, h4, h5⟩ := GL.snocV (P := Try.prog) (L := L) (m0 := m0) x ael22 (by omega) u1 (by omega) (by omega) e1 (by omega)
  have hun : ∀ c, c < y + 1 → bid u ≠ some c := fun c hc h => by
    have := u1.fr c h; omega
  obtain ⟨p, cc, hux⟩ := u1.il.ex
  obtain ⟨p', cc', hux'⟩ := h2.il.ex
  have q2 : m2.rd q = some ⟨1, [u], none⟩ := (h5 q (by omega) (hun q (by omega))).trans q1
  have b2 : Bsy 101 m2 y [.pointer (some ⟨q, 0, none⟩)] := (h5 y (by omega) (hun y (by omega))).trans b1
  have hc1 : rdo (some ⟨1, [u], none⟩) 0 = some u := rfl
  rw [q1, hc1, oOpt_e, bs22, oRes_e, h1, oRes_e, q2]
  have hst : stw 1 L m2 q 0 u'.cells.toList (some ⟨1, [u], none⟩) = some (Go.undef, m2.put q (some ⟨1, [u'], none⟩)) := by
    rw [hux']
    exact stw_e hL rfl (Nat.le_refl _) rfl
  rw [hst, oRes_e]
  have b3 : Bsy 101 (m2.put q (some ⟨1, [u'], none⟩)) y [.pointer (some ⟨q, 0, none⟩)] := (Mem.rd_put _ _ _ _ (by omega)).trans b2
  rw [oReady_e b3]
  have hyn := b2.lt
  refine hk u' _ (Mem.put_gt (Mem.put_gt h3 _ (by omega)) _ (by omega)) (Mem.rd_put_eq _ _ (by rw [Mem.put_next']; omega)) ?_ ?_
  · rw [Mem.rd_put _ _ _ _ (by omega)]; exact Mem.rd_put_eq _ _ (by omega)
  · exact ((h2.le (by omega)).keep fun c hc hc2 => Mem.rd_put _ _ _ _ (by omega)).keep fun c hc hc2 => Mem.rd_put _ _ _ _ (by omega)
theorem sorted_sp {b : Nat} {v : Value} {l : List Int} (hlf : 1000000 ≤ lf) (hL : L ≤ m.next) (hb : m.rd b = some ⟨1, [v], none⟩) (hv : IL m v l) (hl : l.length < 100)
    (hk : ∀ u m', Gt m m' → GL m.next m' u (isortI l) → k u m' = some ()) : runT (tab lf) (n + 5) 49 [.func (.func 89) #[] ⟨[.pointer (some ⟨b, 0, none⟩)]⟩] L m k = some () := by
  rw [r49]; dsimp only [S49, iofNat, inegSucc]
  try simp (disch := first | omega | with_unfolding_all exact id rfl | with_unfolding_all exact Nat.le_of_ble_eq_true rfl | (simp only [Jd, Je, Jr, Js, Jt, Nat.reduceAdd, allOne, oneCell, Bool.and_self, Jc]; first | done | omega)) only [↓Qa, ↓Qb, ↓Qc, Qd, Qe, Qf, Qg, Qh, Qi, Qj, Qk, Ql, Qm, Qn, Qo, Qp, Qq, Qr, Qs, Qt, Qu, Qv, Qw, Qx, Qy, ptrTo, Qz, QA, QB, QC, QD, QE, QF, QG, QH, QI, QJ, QK, QL, QM, QN, QO, QP, QQ, QR, QS, QT, QU, QV, QW, QX, QY, QZ, Ja, Jb, Jc, Jd, Je, Jf, Jg, Jh, Ji, Jj, Jk, Jl, Jm, Jn, Jo, Jp, Jq, Jr, Js, Jt, Nat.reduceAdd]
  rw [r87]; dsimp only [S87, iofNat, inegSucc]
  try simp (disch := first | omega | with_unfolding_all exact id rfl | with_unfolding_all exact Nat.le_of_ble_eq_true rfl | (simp only [Jd, Je, Jr, Js, Jt, Nat.reduceAdd, allOne, oneCell, Bool.and_self, Jc]; first | done | omega)) only [↓Qa, ↓Qb, ↓Qc, Qd, Qe, Qf, Qg, Qh, Qi, Qj, Qk, Ql, Qm, Qn, Qo, Qp, Qq, Qr, Qs, Qt, Qu, Qv, Qw, Qx, Qy, ptrTo, Qz, QA, QB, QC, QD, QE, QF, QG, QH, QI, QJ, QK, QL, QM, QN, QO, QP, QQ, QR, QS, QT, QU, QV, QW, QX, QY, QZ, Ja, Jb, Jc, Jd, Je, Jf, Jg, Jh, Ji, Jj, Jk, Jl, Jm, Jn, Jo, Jp, Jq, Jr, Js, Jt, Nat.reduceAdd]
  rw [r101]; dsimp only [S101, iofNat, inegSucc]
  have hab : abox m (.slice none 0 0) = some (ptrTo m.next, m.push ⟨1, [.slice none 0 0], none⟩) := abox_e _ _
  rw [uc_e, uc_e, un0_e, hab, oRes_e]
  have e1 := Mem.gt_push m ⟨1, [.slice none 0 0], none⟩
  have q1 : (m.push ⟨1, [.slice none 0 0], none⟩).rd m.next = some ⟨1, [.slice none 0 0], none⟩ := Mem.rd_push _ _
  have n1 : (m.push ⟨1, [.slice none 0 0], none⟩).next = m.next + 1 := Mem.push_next _ _
  generalize m.push ⟨1, [.slice none 0 0], none⟩ = m1 at e1 q1 n1 ⊢
  rw [oRange_e (hf := rfl), n1]
  have e2 := Mem.gt_push m1 ⟨Nat.succ (Nat.mul 2 101), [ptrTo m.next], some []⟩
  have y2 : Rdy 101 (m1.push ⟨Nat.succ (Nat.mul 2 101), [ptrTo m.next], some []⟩) m1.next [.pointer (some ⟨m.next, 0, none⟩)] := Mem.rd_push _ _
  have n2 : (m1.push ⟨Nat.succ (Nat.mul 2 101), [ptrTo m.next], some []⟩).next = m1.next + 1 := Mem.push_next _ _
  generalize m1.push ⟨Nat.succ (Nat.mul 2 101), [ptrTo m.next], some []⟩ = m2 at e2 y2 n2 ⊢
  rw [n1] at y2 n2
  have q2 := (e2.kept m.next (by omega)).trans q1
  have e02 := e1.trans e2
  rw [r89]; dsimp only [S89, iofNat, inegSucc]
  have hbl := Mem.rd_lt hb
  have hb2 := (e02.kept b hbl).trans hb
  have hv2 := hv.mono e02
  try simp (disch := first | omega | with_unfolding_all exact id rfl | with_unfolding_all exact Nat.le_of_ble_eq_true rfl | (simp only [Jd, Je, Jr, Js, Jt, Nat.reduceAdd, allOne, oneCell, Bool.and_self, Jc]; first | done | omega)) only [hb2, hv2.ln, ↓Qa, ↓Qb, ↓Qc, Qd, Qe, Qf, Qg, Qh, Qi, Qj, Qk, Ql, Qm, Qn, Qo, Qp, Qq, Qr, Qs, Qt, Qu, Qv, Qw, Qx, Qy, ptrTo, Qz, QA, QB, QC, QD, QE, QF, QG, QH, QI, QJ, QK, QL, QM, QN, QO, QP, QQ, QR, QS, QT, QU, QV, QW, QX, QY, QZ, Ja, Jb, Jc, Jd, Je, Jf, Jg, Jh, Ji, Jj, Jk, Jl, Jm, Jn, Jo, Jp, Jq, Jr, Js, Jt, Nat.reduceAdd]
  refine loop_up l.length (fun i vs m' => ∃ u, vs = [.int .i64 (i : Int)] ∧ Gt m m' ∧ Rdy 101 m' (m.next + 1) [.pointer (some ⟨m.next, 0, none⟩)] ∧ m'.rd m.next = some ⟨1, [u], none⟩ ∧ GL (m.next + 2) m' u (l.take i)) (by omega)
    ⟨_, rfl, e02, y2, q2, GL.nil _ _⟩ ?_
  rintro i vs m3 hi ⟨u, rfl, e3, y3, q3, hu⟩ self hself
  have hv3 := hv.mono e3
  try simp (disch := first | omega | with_unfolding_all exact id rfl | with_unfolding_all exact Nat.le_of_ble_eq_true rfl | (simp only [Jd, Je, Jr, Js, Jt, Nat.reduceAdd, allOne, oneCell, Bool.and_self, Jc]; first | done | omega)) only [↓Qa, ↓Qb, ↓Qc, Qd, Qe, Qf, Qg, Qh, Qi, Qj, Qk, Ql, Qm, Qn, Qo, Qp, Qq, Qr, Qs, Qt, Qu, Qv, Qw, Qx, Qy, ptrTo, Qz, QA, QB, QC, QD, QE, QF, QG, QH, QI, QJ, QK, QL, QM, QN, QO, QP, QQ, QR, QS, QT, QU, QV, QW, QX, QY, QZ, Ja, Jb, Jc, Jd, Je, Jf, Jg, Jh, Ji, Jj, Jk, Jl, Jm, Jn, Jo, Jp, Jq, Jr, Js, Jt, Nat.reduceAdd]
  refine oIf_dec (fun h => ?_) (fun h => ?_)
  · have hil : i < l.length := by omega
    try simp (disch := first | omega | with_unfolding_all exact id rfl | with_unfolding_all exact Nat.le_of_ble_eq_true rfl | (simp only [Jd, Je, Jr, Js, Jt, Nat.reduceAdd, allOne, oneCell, Bool.and_self, Jc]; first | done | omega)) only [hv3.ia hil, hv3.ld hil, ↓Qa, ↓Qb, ↓Qc, Qd, Qe, Qf, Qg, Qh, Qi, Qj, Qk, Ql, Qm, Qn, Qo, Qp, Qq, Qr, Qs, Qt, Qu, Qv, Qw, Qx, Qy, ptrTo, Qz, QA, QB, QC, QD, QE, QF, QG, QH, QI, QJ, QK, QL, QM, QN, QO, QP, QQ, QR, QS, QT, QU, QV, QW, QX, QY, QZ, Ja, Jb, Jc, Jd, Je, Jf, Jg, Jh, Ji, Jj, Jk, Jl, Jm, Jn, Jo, Jp, Jq, Jr, Js, Jt, Nat.reduceAdd]
    rw [oCallV_y y3]
    refine round101_sp (m0 := m) (l := l.take i) (by omega) (by omega) e3 (Nat.le_refl _) y3 q3 hu (by rw [List.length_take]; omega) fun u' m4 e4 y4 q4 hu4 => ?_
    try simp (disch := first | omega | with_unfolding_all exact id rfl | with_unfolding_all exact Nat.le_of_ble_eq_true rfl | (simp only [Jd, Je, Jr, Js, Jt, Nat.reduceAdd, allOne, oneCell, Bool.and_self, Jc]; first | done | omega)) only [↓Qa, ↓Qb, ↓Qc, Qd, Qe, Qf, Qg, Qh, Qi, Qj, Qk, Ql, Qm, Qn, Qo, Qp, Qq, Qr, Qs, Qt, Qu, Qv, Qw, Qx, Qy, ptrTo, Qz, QA, QB, QC, QD, QE, QF, QG, QH, QI, QJ, QK, QL, QM, QN, QO, QP, QQ, QR, QS, QT, QU, QV, QW, QX, QY, QZ, Ja, Jb, Jc, Jd, Je, Jf, Jg, Jh, Ji, Jj, Jk, Jl, Jm, Jn, Jo, Jp, Jq, Jr, Js, Jt, Nat.reduceAdd]
    rw [oInt_add ⟨by omega, by omega⟩]
    refine hself hil _ _ ⟨u', rfl, e4, y4, q4, ?_⟩
    rw [List.take_add_one, List.getElem?_eq_getElem hil]
    exact hu4
  · have hiw : i = l.length := by omega
    subst hiw
    rw [List.take_length] at hu
    rw [oEnd_e y3]
    have q4 : (m3.put (m.next + 1) none).rd m.next = some ⟨1, [u], none⟩ := (Mem.rd_put _ _ _ _ (by omega)).trans q3
    have hc1 : rdo (some ⟨1, [u], none⟩) 0 = some u := rfl
    rw [q4, hc1, oOpt_e]
    rw [r88]
    refine sort_sp (L0 := m.next) (m0 := m) ((hu.le (by omega)).keep fun c hc hc2 => ?_) hL (Mem.put_gt e3 _ (by omega)) (Nat.le_refl _) (by omega) fun m5 e5 hs _ _ => ?_
    · exact Mem.rd_put _ _ _ _ (by have := hu.fr c hc; omega)
    · exact hk u m5 e5 hs
/-- A shelf is opened. -/
theorem opened_sp {v : Value} {l : List Int} {r : Bool} (hlf : 1000000 ≤ lf) (hL : L ≤ m.next) (hv : IL m v l) (hl : l.length < 1000)
    (hno : chkS l ≠ 0 → ∀ m', Gt m m' → k (.tuple ⟨[.pointer none, .int .i64 (chkS l)]⟩) m' = some ())
    (hyes : chkS l = 0 → ∀ b u m', Gt m m' → m.next ≤ b → m'.rd b = some ⟨1, [u, .bool r], none⟩ → IL m' u (isortI l) → k (.tuple ⟨[.pointer (some ⟨b, 0, none⟩), .int .i64 0]⟩) m' = some ()) :
    runT (tab lf) (n + 6) 68 [v, .bool r] L m k = some () := by
  rw [r68]; dsimp only [S68, iofNat, inegSucc]
  try simp (disch := first | omega | with_unfolding_all exact id rfl | with_unfolding_all exact Nat.le_of_ble_eq_true rfl | (simp only [Jd, Je, Jr, Js, Jt, Nat.reduceAdd, allOne, oneCell, Bool.and_self, Jc]; first | done | omega)) only [↓Qa, ↓Qb, ↓Qc, Qd, Qe, Qf, Qg, Qh, Qi, Qj, Qk, Ql, Qm, Qn, Qo, Qp, Qq, Qr, Qs, Qt, Qu, Qv, Qw, Qx, Qy, ptrTo, Qz, QA, QB, QC, QD, QE, QF, QG, QH, QI, QJ, QK, QL, QM, QN, QO, QP, QQ, QR, QS, QT, QU, QV, QW, QX, QY, QZ, Ja, Jb, Jc, Jd, Je, Jf, Jg, Jh, Ji, Jj, Jk, Jl, Jm, Jn, Jo, Jp, Jq, Jr, Js, Jt, Nat.reduceAdd]
  refine check_sp hlf hv (by omega) ?_
  try simp (disch := first | omega | with_unfolding_all exact id rfl | with_unfolding_all exact Nat.le_of_ble_eq_true rfl | (simp only [Jd, Je, Jr, Js, Jt, Nat.reduceAdd, allOne, oneCell, Bool.and_self, Jc]; first | done | omega)) only [↓Qa, ↓Qb, ↓Qc, Qd, Qe, Qf, Qg, Qh, Qi, Qj, Qk, Ql, Qm, Qn, Qo, Qp, Qq, Qr, Qs, Qt, Qu, Qv, Qw, Qx, Qy, ptrTo, Qz, QA, QB, QC, QD, QE, QF, QG, QH, QI, QJ, QK, QL, QM, QN, QO, QP, QQ, QR, QS, QT, QU, QV, QW, QX, QY, QZ, Ja, Jb, Jc, Jd, Je, Jf, Jg, Jh, Ji, Jj, Jk, Jl, Jm, Jn, Jo, Jp, Jq, Jr, Js, Jt, Nat.reduceAdd]
  refine oIf_ndec (fun h => ?_) (fun h => ?_)
  · exact hno h m (Gt.refl _)
  · have h0 : chkS l = 0 := h
    obtain ⟨h1, h7, hle⟩ := chkS_ok h0
    obtain ⟨p, c, hvx⟩ := hv.ex
    rw [r50]; dsimp only [S50, iofNat, inegSucc]
    have hab : abox m v = some (ptrTo m.next, m.push ⟨1, [v], none⟩) := by rw [hvx]; exact abox_e _ _
    rw [uc_e, un0_e, hab, oRes_e]
    have e1 := Mem.gt_push m ⟨1, [v], none⟩
    have q1 : (m.push ⟨1, [v], none⟩).rd m.next = some ⟨1, [v], none⟩ := Mem.rd_push _ _
    generalize m.push ⟨1, [v], none⟩ = m1 at e1 q1 ⊢
    have n1 := e1.next
    refine sorted_sp hlf (by omega) q1 (hv.mono e1) (by omega) fun u m2 e2 hu => ?_
    have n2 := e2.next
    obtain ⟨p2, c2, hux⟩ := hu.il.ex
    have hbu : bu Try.prog 77 [(0, u), (1, .bool r)] = some (.agg ⟨[u, .bool r]⟩) := by rw [hux]; exact bu77 ..
    rw [hbu, oOpt_e, cells_agg]
    have e3 := Mem.gt_push m2 ⟨1, [u, .bool r], none⟩
    exact hyes h0 m2.next u _ ((e1.trans e2).trans e3) (by omega) (Mem.rd_push _ _) (hu.il.mono e3)
theorem reach_sp {b : Nat} {u : Value} {s : List Int} {r : Bool} (hr : m.rd b = some ⟨1, [u, .bool r], none⟩) (hu : IL m u s) (hk : k (.int .i64 (reachN s r : Int)) m = some ()) : runT (tab lf) (n + 1) 69 [.pointer (some ⟨b, 0, none⟩)] L m k = some () := by
  rw [r69]; dsimp only [S69, iofNat, inegSucc]
  have han : ∀ a : Addr, anil (.pointer (some a)) = some (.pointer (some a)) := fun _ => rfl
  have c0 : ([u, .bool r] : List Value)[0]? = some u := rfl
  have c1 : ([u, .bool r] : List Value)[0 + 1]? = some (.bool r) := rfl
  unfold reachN at hk
  cases r with
  | false =>
    try simp (disch := first | omega | with_unfolding_all exact id rfl | with_unfolding_all exact Nat.le_of_ble_eq_true rfl | (simp only [Jd, Je, Jr, Js, Jt, Nat.reduceAdd, allOne, oneCell, Bool.and_self, Jc]; first | done | omega)) only [han, hr, c0, c1, hu.ln, ↓Qa, ↓Qb, ↓Qc, Qd, Qe, Qf, Qg, Qh, Qi, Qj, Qk, Ql, Qm, Qn, Qo, Qp, Qq, Qr, Qs, Qt, Qu, Qv, Qw, Qx, Qy, ptrTo, Qz, QA, QB, QC, QD, QE, QF, QG, QH, QI, QJ, QK, QL, QM, QN, QO, QP, QQ, QR, QS, QT, QU, QV, QW, QX, QY, QZ, Ja, Jb, Jc, Jd, Je, Jf, Jg, Jh, Ji, Jj, Jk, Jl, Jm, Jn, Jo, Jp, Jq, Jr, Js, Jt, Nat.reduceAdd]
    rw [if_neg (by simp)] at hk
    exact hk
  | true =>
    try simp (disch := first | omega | with_unfolding_all exact id rfl | with_unfolding_all exact Nat.le_of_ble_eq_true rfl | (simp only [Jd, Je, Jr, Js, Jt, Nat.reduceAdd, allOne, oneCell, Bool.and_self, Jc]; first | done | omega)) only [han, hr, c0, c1, hu.ln, ↓Qa, ↓Qb, ↓Qc, Qd, Qe, Qf, Qg, Qh, Qi, Qj, Qk, Ql, Qm, Qn, Qo, Qp, Qq, Qr, Qs, Qt, Qu, Qv, Qw, Qx, Qy, ptrTo, Qz, QA, QB, QC, QD, QE, QF, QG, QH, QI, QJ, QK, QL, QM, QN, QO, QP, QQ, QR, QS, QT, QU, QV, QW, QX, QY, QZ, Ja, Jb, Jc, Jd, Je, Jf, Jg, Jh, Ji, Jj, Jk, Jl, Jm, Jn, Jo, Jp, Jq, Jr, Js, Jt, Nat.reduceAdd]
    refine oIf_dec (fun h => ?_) (fun h => ?_)
    · rw [if_pos (by simp; omega)] at hk; exact hk
    · rw [if_neg (by simp; omega)] at hk; exact hk
theorem rreach_sp {v : Value} {l : List Int} {r : Bool} (hv : IL m v l) (hk : k (.int .i64 (reachN l r : Int)) m = some ()) : runT (tab lf) (n + 1) 70 [v, .bool r] L m k = some () := by
  rw [r70]; dsimp only [S70, iofNat, inegSucc]
  unfold reachN at hk
  cases r with
  | false =>
    try simp (disch := first | omega | with_unfolding_all exact id rfl | with_unfolding_all exact Nat.le_of_ble_eq_true rfl | (simp only [Jd, Je, Jr, Js, Jt, Nat.reduceAdd, allOne, oneCell, Bool.and_self, Jc]; first | done | omega)) only [hv.ln, ↓Qa, ↓Qb, ↓Qc, Qd, Qe, Qf, Qg, Qh, Qi, Qj, Qk, Ql, Qm, Qn, Qo, Qp, Qq, Qr, Qs, Qt, Qu, Qv, Qw, Qx, Qy, ptrTo, Qz, QA, QB, QC, QD, QE, QF, QG, QH, QI, QJ, QK, QL, QM, QN, QO, QP, QQ, QR, QS, QT, QU, QV, QW, QX, QY, QZ, Ja, Jb, Jc, Jd, Je, Jf, Jg, Jh, Ji, Jj, Jk, Jl, Jm, Jn, Jo, Jp, Jq, Jr, Js, Jt, Nat.reduceAdd]
    rw [if_neg (by simp)] at hk
    exact hk
  | true =>
    try simp (disch := first | omega | with_unfolding_all exact id rfl | with_unfolding_all exact Nat.le_of_ble_eq_true rfl | (simp only [Jd, Je, Jr, Js, Jt, Nat.reduceAdd, allOne, oneCell, Bool.and_self, Jc]; first | done | omega)) only [hv.ln, ↓Qa, ↓Qb, ↓Qc, Qd, Qe, Qf, Qg, Qh, Qi, Qj, Qk, Ql, Qm, Qn, Qo, Qp, Qq, Qr, Qs, Qt, Qu, Qv, Qw, Qx, Qy, ptrTo, Qz, QA, QB, QC, QD, QE, QF, QG, QH, QI, QJ, QK, QL, QM, QN, QO, QP, QQ, QR, QS, QT, QU, QV, QW, QX, QY, QZ, Ja, Jb, Jc, Jd, Je, Jf, Jg, Jh, Ji, Jj, Jk, Jl, Jm, Jn, Jo, Jp, Jq, Jr, Js, Jt, Nat.reduceAdd]
    refine oIf_dec (fun h => ?_) (fun h => ?_)
    · rw [if_pos (by simp; omega)] at hk; exact hk
    · rw [if_neg (by simp; omega)] at hk; exact hk
theorem reachN_len (a b : List Int) (r : Bool) (h : a.length = b.length) : reachN a r = reachN b r := by unfold reachN; rw [h]
theorem reachN_bd (l : List Int) (r : Bool) : 1 ≤ reachN l r ∧ reachN l r ≤ 2 := by unfold reachN; split <;> omega
theorem proves_sp {x s : Int} {v : Value} {l : List Int} {r : Bool} (hlf : 1000000 ≤ lf) (hL : L ≤ m.next) (hv : IL m v l) (hl : l.length < 1000)
    (hk : ∀ m', Gt m m' → k (.int .i64 (prS l r x s)) m' = some ()) : runT (tab lf) (n + 7) 22 [v, .bool r, .int .i64 x, .int .i64 s] L m k = some () := by
  rw [r22]; dsimp only [S22, iofNat, inegSucc]
  have han : ∀ a : Addr, anil (.pointer (some a)) = some (.pointer (some a)) := fun _ => rfl
  try simp (disch := first | omega | with_unfolding_all exact id rfl | with_unfolding_all exact Nat.le_of_ble_eq_true rfl | (simp only [Jd, Je, Jr, Js, Jt, Nat.reduceAdd, allOne, oneCell, Bool.and_self, Jc]; first | done | omega)) only [↓Qa, ↓Qb, ↓Qc, Qd, Qe, Qf, Qg, Qh, Qi, Qj, Qk, Ql, Qm, Qn, Qo, Qp, Qq, Qr, Qs, Qt, Qu, Qv, Qw, Qx, Qy, ptrTo, Qz, QA, QB, QC, QD, QE, QF, QG, QH, QI, QJ, QK, QL, QM, QN, QO, QP, QQ, QR, QS, QT, QU, QV, QW, QX, QY, QZ, Ja, Jb, Jc, Jd, Je, Jf, Jg, Jh, Ji, Jj, Jk, Jl, Jm, Jn, Jo, Jp, Jq, Jr, Js, Jt, Nat.reduceAdd]
  refine opened_sp hlf hL hv hl (fun h m1 e1 => ?_) (fun h0 b u m1 e1 hb hr hu => ?_)
  · have := hk m1 e1
    unfold prS at this
    rw [if_neg h] at this
    try simp (disch := first | omega | with_unfolding_all exact id rfl | with_unfolding_all exact Nat.le_of_ble_eq_true rfl | (simp only [Jd, Je, Jr, Js, Jt, Nat.reduceAdd, allOne, oneCell, Bool.and_self, Jc]; first | done | omega)) only [decide_eq_false h, ↓Qa, ↓Qb, ↓Qc, Qd, Qe, Qf, Qg, Qh, Qi, Qj, Qk, Ql, Qm, Qn, Qo, Qp, Qq, Qr, Qs, Qt, Qu, Qv, Qw, Qx, Qy, ptrTo, Qz, QA, QB, QC, QD, QE, QF, QG, QH, QI, QJ, QK, QL, QM, QN, QO, QP, QQ, QR, QS, QT, QU, QV, QW, QX, QY, QZ, Ja, Jb, Jc, Jd, Je, Jf, Jg, Jh, Ji, Jj, Jk, Jl, Jm, Jn, Jo, Jp, Jq, Jr, Js, Jt, Nat.reduceAdd]
    exact this
  · have hk1 := hk m1 e1
    unfold prS at hk1
    rw [if_pos h0] at hk1
    obtain ⟨h1, h7, hle⟩ := chkS_ok h0
    have hil := isortI_length l
    have hmem : ∀ y ∈ isortI l, 0 ≤ y ∧ y ≤ 60 := fun y hy => hle y ((isortI_perm l).mem_iff.1 hy)
    have hrn := reachN_len (isortI l) l r hil
    have hrb := reachN_bd l r
    have c0 : ([u, .bool r] : List Value)[0]? = some u := rfl
    try simp (disch := first | omega | with_unfolding_all exact id rfl | with_unfolding_all exact Nat.le_of_ble_eq_true rfl | (simp only [Jd, Je, Jr, Js, Jt, Nat.reduceAdd, allOne, oneCell, Bool.and_self, Jc]; first | done | omega)) only [han, hr, c0, hu.ln, ↓Qa, ↓Qb, ↓Qc, Qd, Qe, Qf, Qg, Qh, Qi, Qj, Qk, Ql, Qm, Qn, Qo, Qp, Qq, Qr, Qs, Qt, Qu, Qv, Qw, Qx, Qy, ptrTo, Qz, QA, QB, QC, QD, QE, QF, QG, QH, QI, QJ, QK, QL, QM, QN, QO, QP, QQ, QR, QS, QT, QU, QV, QW, QX, QY, QZ, Ja, Jb, Jc, Jd, Je, Jf, Jg, Jh, Ji, Jj, Jk, Jl, Jm, Jn, Jo, Jp, Jq, Jr, Js, Jt, Nat.reduceAdd]
    rw [oInt_sub ⟨by omega, by omega⟩]
    refine reach_sp hr hu ?_
    rw [hrn, hil]
    obtain ⟨pu, cu, eu⟩ := hu.ex
    have hsm : bEq (some ⟨1, [u, .bool r], none⟩) (m1.rd b) = true := by
      rw [hr, bEq_ss, veqL_cons, veqL_cons, veqL_nil, eu, veq_slice, veq_bool]; rfl
    try simp (disch := first | omega | with_unfolding_all exact id rfl | with_unfolding_all exact Nat.le_of_ble_eq_true rfl | (simp only [Jd, Je, Jr, Js, Jt, Nat.reduceAdd, allOne, oneCell, Bool.and_self, Jc]; first | done | omega)) only [hsm, ↓Qa, ↓Qb, ↓Qc, Qd, Qe, Qf, Qg, Qh, Qi, Qj, Qk, Ql, Qm, Qn, Qo, Qp, Qq, Qr, Qs, Qt, Qu, Qv, Qw, Qx, Qy, ptrTo, Qz, QA, QB, QC, QD, QE, QF, QG, QH, QI, QJ, QK, QL, QM, QN, QO, QP, QQ, QR, QS, QT, QU, QV, QW, QX, QY, QZ, Ja, Jb, Jc, Jd, Je, Jf, Jg, Jh, Ji, Jj, Jk, Jl, Jm, Jn, Jo, Jp, Jq, Jr, Js, Jt, Nat.reduceAdd]
    rw [oInt_sub ⟨by omega, by omega⟩]
    refine within_sp _ _ _ ?_
    by_cases hx : inI x 0 ((l.length : Int) - 1 - reachN l r)
    · rw [if_pos hx] at hk1
      obtain ⟨i, rfl⟩ : ∃ i : Nat, x = i := ⟨x.toNat, by have := hx.1; omega⟩
      have hi2 : i + reachN l r < (isortI l).length := by have := hx.2; omega
      have hi1 : i < (isortI l).length := by omega
      have hg2 : (isortI l).getD (i + reachN l r) 0 = (isortI l)[i + reachN l r] := by rw [List.getD_eq_getElem?_getD, List.getElem?_eq_getElem hi2]; rfl
      have hg1 : (isortI l).getD i 0 = (isortI l)[i] := by rw [List.getD_eq_getElem?_getD, List.getElem?_eq_getElem hi1]; rfl
      rw [Int.toNat_natCast, hg2, hg1] at hk1
      have b1 := hmem _ (List.getElem_mem hi1)
      have b2 := hmem _ (List.getElem_mem hi2)
      try simp (disch := first | omega | with_unfolding_all exact id rfl | with_unfolding_all exact Nat.le_of_ble_eq_true rfl | (simp only [Jd, Je, Jr, Js, Jt, Nat.reduceAdd, allOne, oneCell, Bool.and_self, Jc]; first | done | omega)) only [decide_eq_true hx, han, hr, c0, ↓Qa, ↓Qb, ↓Qc, Qd, Qe, Qf, Qg, Qh, Qi, Qj, Qk, Ql, Qm, Qn, Qo, Qp, Qq, Qr, Qs, Qt, Qu, Qv, Qw, Qx, Qy, ptrTo, Qz, QA, QB, QC, QD, QE, QF, QG, QH, QI, QJ, QK, QL, QM, QN, QO, QP, QQ, QR, QS, QT, QU, QV, QW, QX, QY, QZ, Ja, Jb, Jc, Jd, Je, Jf, Jg, Jh, Ji, Jj, Jk, Jl, Jm, Jn, Jo, Jp, Jq, Jr, Js, Jt, Nat.reduceAdd]
      refine reach_sp hr hu ?_
      rw [hrn, oInt_add ⟨by omega, by omega⟩, show (i : Int) + (reachN l r : Int) = ((i + reachN l r : Nat) : Int) by omega, hu.ia hi2, oOpt_e, hu.ld hi2, oOpt_e]
      try simp (disch := first | omega | with_unfolding_all exact id rfl | with_unfolding_all exact Nat.le_of_ble_eq_true rfl | (simp only [Jd, Je, Jr, Js, Jt, Nat.reduceAdd, allOne, oneCell, Bool.and_self, Jc]; first | done | omega)) only [han, hr, c0, hu.ia hi1, hu.ld hi1, ↓Qa, ↓Qb, ↓Qc, Qd, Qe, Qf, Qg, Qh, Qi, Qj, Qk, Ql, Qm, Qn, Qo, Qp, Qq, Qr, Qs, Qt, Qu, Qv, Qw, Qx, Qy, ptrTo, Qz, QA, QB, QC, QD, QE, QF, QG, QH, QI, QJ, QK, QL, QM, QN, QO, QP, QQ, QR, QS, QT, QU, QV, QW, QX, QY, QZ, Ja, Jb, Jc, Jd, Je, Jf, Jg, Jh, Ji, Jj, Jk, Jl, Jm, Jn, Jo, Jp, Jq, Jr, Js, Jt, Nat.reduceAdd]
      rw [oInt_sub ⟨by omega, by omega⟩]
      try simp (disch := first | omega | with_unfolding_all exact id rfl | with_unfolding_all exact Nat.le_of_ble_eq_true rfl | (simp only [Jd, Je, Jr, Js, Jt, Nat.reduceAdd, allOne, oneCell, Bool.and_self, Jc]; first | done | omega)) only [↓Qa, ↓Qb, ↓Qc, Qd, Qe, Qf, Qg, Qh, Qi, Qj, Qk, Ql, Qm, Qn, Qo, Qp, Qq, Qr, Qs, Qt, Qu, Qv, Qw, Qx, Qy, ptrTo, Qz, QA, QB, QC, QD, QE, QF, QG, QH, QI, QJ, QK, QL, QM, QN, QO, QP, QQ, QR, QS, QT, QU, QV, QW, QX, QY, QZ, Ja, Jb, Jc, Jd, Je, Jf, Jg, Jh, Ji, Jj, Jk, Jl, Jm, Jn, Jo, Jp, Jq, Jr, Js, Jt, Nat.reduceAdd]
      refine oIf_dec (fun h => ?_) (fun h => ?_)
      · rw [if_pos h] at hk1; exact hk1
      · rw [if_neg h] at hk1; exact hk1
    · rw [if_neg hx] at hk1
      try simp (disch := first | omega | with_unfolding_all exact id rfl | with_unfolding_all exact Nat.le_of_ble_eq_true rfl | (simp only [Jd, Je, Jr, Js, Jt, Nat.reduceAdd, allOne, oneCell, Bool.and_self, Jc]; first | done | omega)) only [decide_eq_false hx, ↓Qa, ↓Qb, ↓Qc, Qd, Qe, Qf, Qg, Qh, Qi, Qj, Qk, Ql, Qm, Qn, Qo, Qp, Qq, Qr, Qs, Qt, Qu, Qv, Qw, Qx, Qy, ptrTo, Qz, QA, QB, QC, QD, QE, QF, QG, QH, QI, QJ, QK, QL, QM, QN, QO, QP, QQ, QR, QS, QT, QU, QV, QW, QX, QY, QZ, Ja, Jb, Jc, Jd, Je, Jf, Jg, Jh, Ji, Jj, Jk, Jl, Jm, Jn, Jo, Jp, Jq, Jr, Js, Jt, Nat.reduceAdd]
      exact hk1
/-- Sorted by counting. -/
theorem rsorted_sp {v : Value} {l : List Int} (hlf : 1000000 ≤ lf) (hL : L ≤ m.next) (hv : IL m v l) (hl : l.length ≤ 7) (hle : ∀ x ∈ l, 0 ≤ x ∧ x ≤ 60)
    (hk : ∀ u m', Gt m m' → GL m.next m' u (isortI l) → k u m' = some ()) : runT (tab lf) (n + 1) 71 [v] L m k = some () := by
  rw [r71]; dsimp only [S71, iofNat, inegSucc]
  try simp (disch := first | omega | with_unfolding_all exact id rfl | with_unfolding_all exact Nat.le_of_ble_eq_true rfl | (simp only [Jd, Je, Jr, Js, Jt, Nat.reduceAdd, allOne, oneCell, Bool.and_self, Jc]; first | done | omega)) only [↓Qa, ↓Qb, ↓Qc, Qd, Qe, Qf, Qg, Qh, Qi, Qj, Qk, Ql, Qm, Qn, Qo, Qp, Qq, Qr, Qs, Qt, Qu, Qv, Qw, Qx, Qy, ptrTo, Qz, QA, QB, QC, QD, QE, QF, QG, QH, QI, QJ, QK, QL, QM, QN, QO, QP, QQ, QR, QS, QT, QU, QV, QW, QX, QY, QZ, Ja, Jb, Jc, Jd, Je, Jf, Jg, Jh, Ji, Jj, Jk, Jl, Jm, Jn, Jo, Jp, Jq, Jr, Js, Jt, Nat.reduceAdd]
  refine loop_up 61 (fun i vs m' => ∃ u, vs = [u, .int .i64 (i : Int)] ∧ Gt m m' ∧ GL m.next m' u (isortI (l.filter fun x => decide (x < (i : Int))))) (by omega) ⟨_, rfl, Gt.refl _, by rw [show ((0 : Nat) : Int) = 0 from rfl, isort_zero hle]; exact GL.nil _ _⟩ ?_
  rintro i vs m1 hi ⟨u, rfl, e1, hu⟩ self hself
  have n1 := e1.next
  have hst : isortI (l.filter fun x => decide (x < ((i + 1 : Nat) : Int))) = isortI (l.filter fun x => decide (x < (i : Int))) ++ l.filter fun x => decide (x = (i : Int)) := by
    rw [show ((i + 1 : Nat) : Int) = (i : Int) + 1 by omega]; exact isort_step _ _
  rw [hst] at hself
  have hfl : (isortI (l.filter fun x => decide (x < (i : Int)))).length ≤ 7 := by
    rw [isortI_length]
    have := List.length_filter_le (fun x => decide (x < (i : Int))) l
    omega
  try simp (disch := first | omega | with_unfolding_all exact id rfl | with_unfolding_all exact Nat.le_of_ble_eq_true rfl | (simp only [Jd, Je, Jr, Js, Jt, Nat.reduceAdd, allOne, oneCell, Bool.and_self, Jc]; first | done | omega)) only [↓Qa, ↓Qb, ↓Qc, Qd, Qe, Qf, Qg, Qh, Qi, Qj, Qk, Ql, Qm, Qn, Qo, Qp, Qq, Qr, Qs, Qt, Qu, Qv, Qw, Qx, Qy, ptrTo, Qz, QA, QB, QC, QD, QE, QF, QG, QH, QI, QJ, QK, QL, QM, QN, QO, QP, QQ, QR, QS, QT, QU, QV, QW, QX, QY, QZ, Ja, Jb, Jc, Jd, Je, Jf, Jg, Jh, Ji, Jj, Jk, Jl, Jm, Jn, Jo, Jp, Jq, Jr, Js, Jt, Nat.reduceAdd]
  refine oIf_dec (fun h => ?_) (fun h => ?_)
  · generalize isortI (l.filter fun x => decide (x < (i : Int))) = s at hu hself hfl
    refine loop_up l.length (fun j vs m' => ∃ u, vs = [u, .int .i64 (j : Int)] ∧ Gt m m' ∧ GL m.next m' u (s ++ (l.take j).filter fun x => decide (x = (i : Int)))) (by omega) ⟨u, rfl, e1, by rw [show (l.take 0).filter (fun x => decide (x = (i : Int))) = [] from rfl, List.append_nil]; exact hu⟩ ?_
    rintro j vs m2 hj ⟨u2, rfl, e2, hu2⟩ self2 hself2
    have n2 := e2.next
    have hv2 := hv.mono e2
    try simp (disch := first | omega | with_unfolding_all exact id rfl | with_unfolding_all exact Nat.le_of_ble_eq_true rfl | (simp only [Jd, Je, Jr, Js, Jt, Nat.reduceAdd, allOne, oneCell, Bool.and_self, Jc]; first | done | omega)) only [hv2.ln, ↓Qa, ↓Qb, ↓Qc, Qd, Qe, Qf, Qg, Qh, Qi, Qj, Qk, Ql, Qm, Qn, Qo, Qp, Qq, Qr, Qs, Qt, Qu, Qv, Qw, Qx, Qy, ptrTo, Qz, QA, QB, QC, QD, QE, QF, QG, QH, QI, QJ, QK, QL, QM, QN, QO, QP, QQ, QR, QS, QT, QU, QV, QW, QX, QY, QZ, Ja, Jb, Jc, Jd, Je, Jf, Jg, Jh, Ji, Jj, Jk, Jl, Jm, Jn, Jo, Jp, Jq, Jr, Js, Jt, Nat.reduceAdd]
    refine oIf_dec (fun h2 => ?_) (fun h2 => ?_)
    · have hjl : j < l.length := by omega
      rw [List.take_add_one, List.getElem?_eq_getElem hjl, Option.toList_some, List.filter_append] at hself2
      rw [hv2.ia hjl, oOpt_e, hv2.ld hjl, oOpt_e, oInt_eql]
      refine oIf_dec (fun h3 => ?_) (fun h3 => ?_)
      · rw [List.filter_cons_of_pos (by simpa using h3), List.filter_nil, ← List.append_assoc] at hself2
        have hf2 := List.length_filter_le (fun x => decide (x = (i : Int))) (l.take j)
        rw [List.length_take] at hf2
        obtain ⟨u', m3, s1, s2, s3, s4, s5⟩ := GL.snocV (P := Try.prog) (L := L) (m0 := m) (i : Int) ael22 (by omega) hu2 (by rw [List.length_append]; omega) hL e2 (Nat.le_refl _)
        rw [bs22, oRes_e, s1, oRes_e, oInt_add ⟨by omega, by omega⟩]
        rw [h3] at hself2
        exact hself2 hjl _ _ ⟨u', rfl, s3, s2.le n2⟩
      · rw [List.filter_cons_of_neg (by simpa using h3), List.filter_nil, List.append_nil] at hself2
        rw [oInt_add ⟨by omega, by omega⟩]
        exact hself2 hjl _ _ ⟨u2, rfl, e2, hu2⟩
    · have hjl : j = l.length := by omega
      subst hjl
      rw [List.take_length] at hu2
      rw [oInt_add ⟨by omega, by omega⟩]
      exact hself (by omega) _ _ ⟨u2, rfl, e2, hu2⟩
  · have hi61 : i = 61 := by omega
    subst hi61
    rw [show ((61 : Nat) : Int) = 61 from rfl, isort_full hle] at hu
    exact hk u m1 e1 hu
theorem rproves_sp {x s : Int} {v : Value} {l : List Int} {r : Bool} (hlf : 1000000 ≤ lf) (hL : L ≤ m.next) (hv : IL m v l) (hl : l.length < 1000)
    (hk : ∀ m', Gt m m' → k (.int .i64 (prS l r x s)) m' = some ()) : runT (tab lf) (n + 3) 23 [v, .bool r, .int .i64 x, .int .i64 s] L m k = some () := by
  rw [r23]; dsimp only [S23, iofNat, inegSucc]
  try simp (disch := first | omega | with_unfolding_all exact id rfl | with_unfolding_all exact Nat.le_of_ble_eq_true rfl | (simp only [Jd, Je, Jr, Js, Jt, Nat.reduceAdd, allOne, oneCell, Bool.and_self, Jc]; first | done | omega)) only [↓Qa, ↓Qb, ↓Qc, Qd, Qe, Qf, Qg, Qh, Qi, Qj, Qk, Ql, Qm, Qn, Qo, Qp, Qq, Qr, Qs, Qt, Qu, Qv, Qw, Qx, Qy, ptrTo, Qz, QA, QB, QC, QD, QE, QF, QG, QH, QI, QJ, QK, QL, QM, QN, QO, QP, QQ, QR, QS, QT, QU, QV, QW, QX, QY, QZ, Ja, Jb, Jc, Jd, Je, Jf, Jg, Jh, Ji, Jj, Jk, Jl, Jm, Jn, Jo, Jp, Jq, Jr, Js, Jt, Nat.reduceAdd]
  refine rcheck_sp hlf hv (by omega) ?_
  try simp (disch := first | omega | with_unfolding_all exact id rfl | with_unfolding_all exact Nat.le_of_ble_eq_true rfl | (simp only [Jd, Je, Jr, Js, Jt, Nat.reduceAdd, allOne, oneCell, Bool.and_self, Jc]; first | done | omega)) only [↓Qa, ↓Qb, ↓Qc, Qd, Qe, Qf, Qg, Qh, Qi, Qj, Qk, Ql, Qm, Qn, Qo, Qp, Qq, Qr, Qs, Qt, Qu, Qv, Qw, Qx, Qy, ptrTo, Qz, QA, QB, QC, QD, QE, QF, QG, QH, QI, QJ, QK, QL, QM, QN, QO, QP, QQ, QR, QS, QT, QU, QV, QW, QX, QY, QZ, Ja, Jb, Jc, Jd, Je, Jf, Jg, Jh, Ji, Jj, Jk, Jl, Jm, Jn, Jo, Jp, Jq, Jr, Js, Jt, Nat.reduceAdd]
  refine oIf_ndec (fun h => ?_) (fun h => ?_)
  · have := hk m (Gt.refl _)
    unfold prS at this
    rw [if_neg h] at this
    exact this
  · have h0 : chkS l = 0 := h
    unfold prS at hk
    rw [if_pos h0] at hk
    obtain ⟨h1, h7, hle⟩ := chkS_ok h0
    have hrb := reachN_bd l r
    refine rreach_sp hv ?_
    try simp (disch := first | omega | with_unfolding_all exact id rfl | with_unfolding_all exact Nat.le_of_ble_eq_true rfl | (simp only [Jd, Je, Jr, Js, Jt, Nat.reduceAdd, allOne, oneCell, Bool.and_self, Jc]; first | done | omega)) only [hv.ln, ↓Qa, ↓Qb, ↓Qc, Qd, Qe, Qf, Qg, Qh, Qi, Qj, Qk, Ql, Qm, Qn, Qo, Qp, Qq, Qr, Qs, Qt, Qu, Qv, Qw, Qx, Qy, ptrTo, Qz, QA, QB, QC, QD, QE, QF, QG, QH, QI, QJ, QK, QL, QM, QN, QO, QP, QQ, QR, QS, QT, QU, QV, QW, QX, QY, QZ, Ja, Jb, Jc, Jd, Je, Jf, Jg, Jh, Ji, Jj, Jk, Jl, Jm, Jn, Jo, Jp, Jq, Jr, Js, Jt, Nat.reduceAdd]
    rw [oInt_sub ⟨by omega, by omega⟩, oInt_sub ⟨by omega, by omega⟩]
    refine in_sp _ _ _ ?_
    by_cases hx : inI x 0 ((l.length : Int) - 1 - reachN l r)
    · rw [if_pos hx] at hk
      obtain ⟨i, rfl⟩ : ∃ i : Nat, x = i := ⟨x.toNat, by have := hx.1; omega⟩
      have hil := isortI_length l
      have hmem : ∀ y ∈ isortI l, 0 ≤ y ∧ y ≤ 60 := fun y hy => hle y ((isortI_perm l).mem_iff.1 hy)
      have hi2 : i + reachN l r < (isortI l).length := by have := hx.2; omega
      have hi1 : i < (isortI l).length := by omega
      have hg2 : (isortI l).getD (i + reachN l r) 0 = (isortI l)[i + reachN l r] := by rw [List.getD_eq_getElem?_getD, List.getElem?_eq_getElem hi2]; rfl
      have hg1 : (isortI l).getD i 0 = (isortI l)[i] := by rw [List.getD_eq_getElem?_getD, List.getElem?_eq_getElem hi1]; rfl
      rw [Int.toNat_natCast, hg2, hg1] at hk
      have b1 := hmem _ (List.getElem_mem hi1)
      have b2 := hmem _ (List.getElem_mem hi2)
      try simp (disch := first | omega | with_unfolding_all exact id rfl | with_unfolding_all exact Nat.le_of_ble_eq_true rfl | (simp only [Jd, Je, Jr, Js, Jt, Nat.reduceAdd, allOne, oneCell, Bool.and_self, Jc]; first | done | omega)) only [decide_eq_true hx, ↓Qa, ↓Qb, ↓Qc, Qd, Qe, Qf, Qg, Qh, Qi, Qj, Qk, Ql, Qm, Qn, Qo, Qp, Qq, Qr, Qs, Qt, Qu, Qv, Qw, Qx, Qy, ptrTo, Qz, QA, QB, QC, QD, QE, QF, QG, QH, QI, QJ, QK, QL, QM, QN, QO, QP, QQ, QR, QS, QT, QU, QV, QW, QX, QY, QZ, Ja, Jb, Jc, Jd, Je, Jf, Jg, Jh, Ji, Jj, Jk, Jl, Jm, Jn, Jo, Jp, Jq, Jr, Js, Jt, Nat.reduceAdd]
      refine rsorted_sp hlf hL hv h7 hle fun u m1 e1 hu => ?_
      rw [oInt_add ⟨by omega, by omega⟩, show (i : Int) + (reachN l r : Int) = ((i + reachN l r : Nat) : Int) by omega, hu.il.ia hi2, oOpt_e, hu.il.ld hi2, oOpt_e, hu.il.ia hi1, oOpt_e, hu.il.ld hi1, oOpt_e, oInt_sub ⟨by omega, by omega⟩]
      try simp (disch := first | omega | with_unfolding_all exact id rfl | with_unfolding_all exact Nat.le_of_ble_eq_true rfl | (simp only [Jd, Je, Jr, Js, Jt, Nat.reduceAdd, allOne, oneCell, Bool.and_self, Jc]; first | done | omega)) only [↓Qa, ↓Qb, ↓Qc, Qd, Qe, Qf, Qg, Qh, Qi, Qj, Qk, Ql, Qm, Qn, Qo, Qp, Qq, Qr, Qs, Qt, Qu, Qv, Qw, Qx, Qy, ptrTo, Qz, QA, QB, QC, QD, QE, QF, QG, QH, QI, QJ, QK, QL, QM, QN, QO, QP, QQ, QR, QS, QT, QU, QV, QW, QX, QY, QZ, Ja, Jb, Jc, Jd, Je, Jf, Jg, Jh, Ji, Jj, Jk, Jl, Jm, Jn, Jo, Jp, Jq, Jr, Js, Jt, Nat.reduceAdd]
      have hk1 := hk m1 e1
      refine oIf_dec (fun h => ?_) (fun h => ?_)
      · rw [if_pos h] at hk1; exact hk1
      · rw [if_neg h] at hk1; exact hk1
    · rw [if_neg hx] at hk
      try simp (disch := first | omega | with_unfolding_all exact id rfl | with_unfolding_all exact Nat.le_of_ble_eq_true rfl | (simp only [Jd, Je, Jr, Js, Jt, Nat.reduceAdd, allOne, oneCell, Bool.and_self, Jc]; first | done | omega)) only [decide_eq_false hx, ↓Qa, ↓Qb, ↓Qc, Qd, Qe, Qf, Qg, Qh, Qi, Qj, Qk, Ql, Qm, Qn, Qo, Qp, Qq, Qr, Qs, Qt, Qu, Qv, Qw, Qx, Qy, ptrTo, Qz, QA, QB, QC, QD, QE, QF, QG, QH, QI, QJ, QK, QL, QM, QN, QO, QP, QQ, QR, QS, QT, QU, QV, QW, QX, QY, QZ, Ja, Jb, Jc, Jd, Je, Jf, Jg, Jh, Ji, Jj, Jk, Jl, Jm, Jn, Jo, Jp, Jq, Jr, Js, Jt, Nat.reduceAdd]
      exact hk m (Gt.refl _)
end
end Go.Vit
