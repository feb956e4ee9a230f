/- Walks: the number of a list of wishes. -/
import Derived.Test.YtnmmjbclidbdbaaDoorW14
import Derived.Test.YtnmmjbclidbdbaaDoorW5
set_option linter.unusedSimpArgs false
set_option linter.unusedVariables false
set_option maxRecDepth 20000
namespace Go.Vit
open Go Go.Proofs
attribute [local irreducible] runT loopS
/-- In how many ways it goes on, if a cart comes with a wish. -/
def gW (N T more x : Nat) : Nat := match fbay N (fun c => T.testBit c) x with
  | some b => cntW N more (T ||| 2 ^ b)
  | none => 0
def stepT (N T x : Nat) : Nat := match fbay N (fun c => T.testBit c) x with
  | some b => T ||| 2 ^ b
  | none => T
/-- The number, from a row on. -/
def numD (N : Nat) : List Nat → Nat → Nat
  | [], _ => 0
  | w :: l, T => sumC (gW N T l.length) w + numD N l (stepT N T w)
theorem gW_le {N T more x : Nat} (hN : N ≤ 8) : gW N T more x ≤ 64 ^ more := by
  unfold gW
  split
  · exact cntW_le hN more _
  · exact Nat.zero_le _
theorem stepT_lt {N T x : Nat} (hN : N ≤ 8) (hT : T < 256) : stepT N T x < 256 := by
  unfold stepT
  split
  · rename_i b hb
    exact or_bit hT (by have := (fbay_some hb).1; omega)
  · exact hT
section
variable {lf n L : Nat} {m : Mem} {k : Value → Mem → Option Unit}
theorem GtX.more {X Y : Nat → Prop} {a b : Mem} (h : GtX X a b) (hXY : ∀ c, X c → Y c) : GtX Y a b := ⟨h.next, fun c hc hn => h.kept c hc fun hx => hn (hXY c hx)⟩
/-- One wish that is less: what it counts. -/
theorem probe_sp {N T w j mb pr : Nat} {pc : Nat} (hlf : 1000000 ≤ lf) (hTb : TabOk mTab m) (hN : N ≤ 8) (hT : T < 256) (hw : w ≤ 8) (hj : j ≤ 8) (hL : L ≤ m.next) (hLm : L ≤ mb) (hmb : mOk N mb m) (hr : m.rd pr = some (rowB N T)) (hc : m.rd pc = some ⟨1, cW N mb, none⟩)
    {kt kf : Value → Mem → Option Unit} (hyes : ∀ c m', fbay N (fun c => T.testBit c) w = some c → GtX (· = mb) m m' → mOk N mb m' → kt (.int .i64 (cntW N j (T ||| 2 ^ c) : Int)) m' = some ())
    (hno : ∀ m', fbay N (fun c => T.testBit c) w = none → Gt m m' → kf Go.undef m' = some ()) :
    (oOpt (ldN m 2 (ptrTo pr)) fun t43 => oRes (anew m 1 [.int .i64 0, .int .u64 0] ptrTo) fun t44 m45 => oRes (st1 2 L m45 t44 t43) fun t46 m47 => runT (tab lf) (n + j + 5) 62 [t44, .int .i64 (w : Int)] L m47 fun t48 m49 =>
      oInv (runT (tab lf) (n + j + 5)) [(72, 126), (70, 125)] t48 [] L m49 fun t50 m51 => oIf t50 (oOpt (ldN m51 2 (ptrTo pc)) fun t58 => oOpt (fa 1 t44) fun t59 => oOpt (ld1 m51 t59) fun t60 => runT (tab lf) (n + j + 5) 70 [t58, t60, .int .i64 (j : Int)] L m51 kt) (kf Go.undef m51)) = some () := by
  have hrl := Mem.rd_lt hr
  have hcl := Mem.rd_lt hc
  have h1 : ldN m 2 (ptrTo pr) = some (.agg ⟨[.int .i64 (N : Int), .int .u64 (T : Int)]⟩) := by
    show ldN m 2 (.pointer (some ⟨pr, 0, none⟩)) = _
    rw [ldN_u, hr]; unfold rowB; kernel_rfl
  rw [h1, oOpt_e, anew_eq, oRes_e]
  have hst : st1 2 L (m.push ⟨1, [.int .i64 0, .int .u64 0], none⟩) (ptrTo m.next) (.agg ⟨[.int .i64 (N : Int), .int .u64 (T : Int)]⟩) = some (Go.undef, (m.push ⟨1, [.int .i64 0, .int .u64 0], none⟩).put m.next (some (rowB N T))) := by
    show st1 2 L _ (.pointer (some ⟨m.next, 0, none⟩)) _ = _
    rw [st1_u, Mem.rd_push]
    exact stw_e hL rfl (Nat.le_refl _) rfl
  rw [hst, oRes_e]
  have e1 : Gt m ((m.push ⟨1, [.int .i64 0, .int .u64 0], none⟩).put m.next (some (rowB N T))) := Mem.put_gt (Mem.gt_push _ _) _ (Nat.le_refl _)
  have q1 : ((m.push ⟨1, [.int .i64 0, .int .u64 0], none⟩).put m.next (some (rowB N T))).rd m.next = some (rowB N T) := Mem.rd_put_eq _ _ (by rw [Mem.push_next]; omega)
  have n1 : ((m.push ⟨1, [.int .i64 0, .int .u64 0], none⟩).put m.next (some (rowB N T))).next = m.next + 1 := rfl
  generalize (m.push ⟨1, [.int .i64 0, .int .u64 0], none⟩).put m.next (some (rowB N T)) = m1 at e1 q1 n1 ⊢
  refine come1_sp (n := n + j + 2) (hTb.mono e1) q1 hL hN hT hw (fun hf => ?_) (fun c hf => ?_)
  · have hi1 : ∀ (call : CallK Unit) (K : Value → Mem → Option Unit), oInv call [(72, 126), (70, 125)] leV [] L m1 K = call 126 [.agg ⟨[]⟩] L m1 K := fun _ _ => rfl
    rw [hi1, r126]; dsimp only [S126, iofNat, inegSucc]
    try simp (disch := first | omega | with_unfolding_all exact id rfl | with_unfolding_all exact Nat.le_of_ble_eq_true rfl | (simp only [Jd, Je, Jr, Js, Jt, Nat.reduceAdd, allOne, oneCell, Bool.and_self, Jc]; first | done | omega)) only [abox_e, ↓Qa, ↓Qb, ↓Qc, Qd, Qe, Qf, Qg, Qh, Qi, Qj, Qk, Ql, Qm, Qn, Qo, Qp, Qq, Qr, Qs, Qt, Qu, Qv, Qw, Qx, Qy, ptrTo, Qz, QA, QB, QC, QD, QE, QF, QG, QH, QI, QJ, QK, QL, QM, QN, QO, QP, QQ, QR, QS, QT, QU, QV, QW, QX, QY, QZ, Ja, Jb, Jc, Jd, Je, Jf, Jg, Jh, Ji, Jj, Jk, Jl, Jm, Jn, Jo, Jp, Jq, Jr, Js, Jt, Nat.reduceAdd]
    exact hno _ hf (e1.trans (Mem.gt_push m1 _))
  · have hc8 := (fbay_some hf).1
    have e2 : Gt m (m1.put m.next (some (rowB N (T ||| 2 ^ c)))) := Mem.put_gt e1 _ (Nat.le_refl _)
    have q2 : (m1.put m.next (some (rowB N (T ||| 2 ^ c)))).rd m.next = some (rowB N (T ||| 2 ^ c)) := Mem.rd_put_eq _ _ (by omega)
    have n2 : (m1.put m.next (some (rowB N (T ||| 2 ^ c)))).next = m1.next := rfl
    generalize m1.put m.next (some (rowB N (T ||| 2 ^ c))) = m2 at e2 q2 n2 ⊢
    have hi1 : ∀ (call : CallK Unit) (K : Value → Mem → Option Unit), oInv call [(72, 126), (70, 125)] (stV (c : Int) ((c : Int) - (w : Int))) [] L m2 K = call 125 [.agg ⟨[.int .i64 (c : Int), .int .i64 ((c : Int) - (w : Int))]⟩] L m2 K := fun _ _ => rfl
    rw [hi1, r125]; dsimp only [S125, iofNat, inegSucc]
    try simp (disch := first | omega | with_unfolding_all exact id rfl | with_unfolding_all exact Nat.le_of_ble_eq_true rfl | (simp only [Jd, Je, Jr, Js, Jt, Nat.reduceAdd, allOne, oneCell, Bool.and_self, Jc]; first | done | omega)) only [abox_e, ↓Qa, ↓Qb, ↓Qc, Qd, Qe, Qf, Qg, Qh, Qi, Qj, Qk, Ql, Qm, Qn, Qo, Qp, Qq, Qr, Qs, Qt, Qu, Qv, Qw, Qx, Qy, ptrTo, Qz, QA, QB, QC, QD, QE, QF, QG, QH, QI, QJ, QK, QL, QM, QN, QO, QP, QQ, QR, QS, QT, QU, QV, QW, QX, QY, QZ, Ja, Jb, Jc, Jd, Je, Jf, Jg, Jh, Ji, Jj, Jk, Jl, Jm, Jn, Jo, Jp, Jq, Jr, Js, Jt, Nat.reduceAdd]
    have qc2 := (e2.kept pc hcl).trans hc
    have hrdn : rdn (m2.rd pc) 0 2 = some (.agg ⟨cW N mb⟩) := by rw [qc2]; kernel_rfl
    have hrdo : rdo (m2.rd m.next) 1 = some (.int .u64 ((T ||| 2 ^ c : Nat) : Int)) := by rw [q2]; rfl
    rw [hrdn, oOpt_e, hrdo, oOpt_e]
    have e3 := Mem.gt_push m2 ⟨1, [.int .i64 (c : Int), .int .i64 ((c : Int) - (w : Int))], none⟩
    rw [show n + j + 5 = (n + 3) + j + 2 by omega]
    refine count70_sp (N := N) (mb := mb) hlf hN j (or_bit hT (by omega)) hj ((hmb.mono e2).mono e3) hLm fun m4 e4 hm4 => ?_
    exact hyes c m4 hf ((GtX.of (e2.trans e3)).trans e4) hm4
/-- A wish that is less is tried on a copy of the row. -/
theorem probe2_sp {F N T w pr : Nat} (hTb : TabOk mTab m) (hN : N ≤ 8) (hT : T < 256) (hw : w ≤ 8) (hL : L ≤ m.next) (hr : m.rd pr = some (rowB N T)) {K : Value → Mem → Option Unit}
    (hyes : ∀ c m', fbay N (fun c => T.testBit c) w = some c → Gt m m' → m'.rd m.next = some (rowB N (T ||| 2 ^ c)) → K (.bool true) m' = some ()) (hno : ∀ m', fbay N (fun c => T.testBit c) w = none → Gt m m' → K (.bool false) m' = some ()) :
    (oOpt (rdn (m.rd pr) 0 2) fun t43 => oRes (stw 2 L (m.push ⟨1, [.int .i64 0, .int .u64 0], none⟩) m.next 0 t43.cells.toList (some ⟨1, [.int .i64 0, .int .u64 0], none⟩)) fun t46 m47 => runT (tab lf) (F + 3) 62 [.pointer (some ⟨m.next, 0, none⟩), .int .i64 (w : Int)] L m47 fun t48 m49 =>
      oInv (runT (tab lf) (F + 3)) [(72, 126), (70, 125)] t48 [] L m49 K) = some () := by
  have h1 : rdn (m.rd pr) 0 2 = some (.agg ⟨[.int .i64 (N : Int), .int .u64 (T : Int)]⟩) := by rw [hr]; unfold rowB; kernel_rfl
  have hst : stw 2 L (m.push ⟨1, [.int .i64 0, .int .u64 0], none⟩) m.next 0 (Value.agg ⟨[.int .i64 (N : Int), .int .u64 (T : Int)]⟩).cells.toList (some ⟨1, [.int .i64 0, .int .u64 0], none⟩) = some (Go.undef, (m.push ⟨1, [.int .i64 0, .int .u64 0], none⟩).put m.next (some (rowB N T))) := stw_e hL rfl (Nat.le_refl _) rfl
  rw [h1, oOpt_e, hst, oRes_e]
  have e1 : Gt m ((m.push ⟨1, [.int .i64 0, .int .u64 0], none⟩).put m.next (some (rowB N T))) := Mem.put_gt (Mem.gt_push _ _) _ (Nat.le_refl _)
  have q1 : ((m.push ⟨1, [.int .i64 0, .int .u64 0], none⟩).put m.next (some (rowB N T))).rd m.next = some (rowB N T) := Mem.rd_put_eq _ _ (by rw [Mem.push_next]; omega)
  have n1 : ((m.push ⟨1, [.int .i64 0, .int .u64 0], none⟩).put m.next (some (rowB N T))).next = m.next + 1 := rfl
  generalize (m.push ⟨1, [.int .i64 0, .int .u64 0], none⟩).put m.next (some (rowB N T)) = m1 at e1 q1 n1 ⊢
  refine come1_sp (n := F) (hTb.mono e1) q1 hL hN hT hw (fun hf => ?_) (fun c hf => ?_)
  · have hi1 : ∀ (call : CallK Unit) (K : Value → Mem → Option Unit), oInv call [(72, 126), (70, 125)] leV [] L m1 K = call 126 [.agg ⟨[]⟩] L m1 K := fun _ _ => rfl
    rw [hi1, r126]; dsimp only [S126, iofNat, inegSucc]
    try simp (disch := first | omega | with_unfolding_all exact id rfl | with_unfolding_all exact Nat.le_of_ble_eq_true rfl | (simp only [Jd, Je, Jr, Js, Jt, Nat.reduceAdd, allOne, oneCell, Bool.and_self, Jc]; first | done | omega)) only [abox_e, ↓Qa, ↓Qb, ↓Qc, Qd, Qe, Qf, Qg, Qh, Qi, Qj, Qk, Ql, Qm, Qn, Qo, Qp, Qq, Qr, Qs, Qt, Qu, Qv, Qw, Qx, Qy, ptrTo, Qz, QA, QB, QC, QD, QE, QF, QG, QH, QI, QJ, QK, QL, QM, QN, QO, QP, QQ, QR, QS, QT, QU, QV, QW, QX, QY, QZ, Ja, Jb, Jc, Jd, Je, Jf, Jg, Jh, Ji, Jj, Jk, Jl, Jm, Jn, Jo, Jp, Jq, Jr, Js, Jt, Nat.reduceAdd]
    exact hno _ hf (e1.trans (Mem.gt_push m1 _))
  · have e2 : Gt m (m1.put m.next (some (rowB N (T ||| 2 ^ c)))) := Mem.put_gt e1 _ (Nat.le_refl _)
    have q2 : (m1.put m.next (some (rowB N (T ||| 2 ^ c)))).rd m.next = some (rowB N (T ||| 2 ^ c)) := Mem.rd_put_eq _ _ (by omega)
    have n2 : (m1.put m.next (some (rowB N (T ||| 2 ^ c)))).next = m1.next := rfl
    generalize m1.put m.next (some (rowB N (T ||| 2 ^ c))) = m2 at e2 q2 n2 ⊢
    have hi1 : ∀ (call : CallK Unit) (K : Value → Mem → Option Unit), oInv call [(72, 126), (70, 125)] (stV (c : Int) ((c : Int) - (w : Int))) [] L m2 K = call 125 [.agg ⟨[.int .i64 (c : Int), .int .i64 ((c : Int) - (w : Int))]⟩] L m2 K := fun _ _ => rfl
    rw [hi1, r125]; dsimp only [S125, iofNat, inegSucc]
    try simp (disch := first | omega | with_unfolding_all exact id rfl | with_unfolding_all exact Nat.le_of_ble_eq_true rfl | (simp only [Jd, Je, Jr, Js, Jt, Nat.reduceAdd, allOne, oneCell, Bool.and_self, Jc]; first | done | omega)) only [abox_e, ↓Qa, ↓Qb, ↓Qc, Qd, Qe, Qf, Qg, Qh, Qi, Qj, Qk, Ql, Qm, Qn, Qo, Qp, Qq, Qr, Qs, Qt, Qu, Qv, Qw, Qx, Qy, ptrTo, Qz, QA, QB, QC, QD, QE, QF, QG, QH, QI, QJ, QK, QL, QM, QN, QO, QP, QQ, QR, QS, QT, QU, QV, QW, QX, QY, QZ, Ja, Jb, Jc, Jd, Je, Jf, Jg, Jh, Ji, Jj, Jk, Jl, Jm, Jn, Jo, Jp, Jq, Jr, Js, Jt, Nat.reduceAdd]
    exact hyes c _ hf (e2.trans (Mem.gt_push _ _)) (((Mem.gt_push m2 _).kept _ (by omega)).trans q2)
end
end Go.Vit
