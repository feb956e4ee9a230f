/- The law ShadeMore: its walk. -/
import Derived.Test.YtffomiamkiakcaaW11
import Derived.Test.YtffomiamkiakcaaP6
set_option linter.unusedSimpArgs false
set_option linter.unusedVariables false
set_option maxRecDepth 20000
namespace Go.Vit
open Go Go.Proofs
attribute [local irreducible] runT loopS
section
variable {lf n L : Nat} {m : Mem} {k : Value → Mem → Option Unit}
set_option maxHeartbeats 4000000 in
theorem moreL_sp {a0 x y : Nat} {gl : List Nat} {r : Bool} (hlf : 1000000 ≤ lf) (hL : L ≤ m.next) (hT : TabOk mTab m) (h0 : a0 < 256) (hlen : gl.length = 7) (hg : ∀ g ∈ gl, g < 256) (hx : x < 256) (hy : y < 256)
    (hk : ∀ m', Gt m m' → k (.bool true) m' = some ()) : runT (tab lf) (n + 40) 8 [trayV a0 gl, .bool r, .int .u8 (x : Int), .int .u8 (y : Int)] L m k = some () := by
  rw [r8]; dsimp only [S8, iofNat, inegSucc]
  have hl8 : (Value.int .u8 (a0 : Int) :: gl.map (fun (g : Nat) => Value.int .u8 (g : Int))).length = 8 := by simp [hlen]
  have hrd := rdn_all (s := 1) hl8
  unfold trayV
  try simp (disch := first | omega | with_unfolding_all exact id rfl | with_unfolding_all exact Nat.le_of_ble_eq_true rfl | (simp only [Jd, Je, Jr, Js, Jt, Nat.reduceAdd, allOne, oneCell, Bool.and_self, Jc]; first | done | omega)) only [hrd, ↓Qa, ↓Qb, Qd, Qe, Qf, Qg, Qh, Qi, Qj, Qk, Ql, Qm, Qn, Qo, Qp, Qq, Qr, Qs, Qt, Qu, Qv, Qw, Qx, Qy, ptrTo, Qz, QA, QB, QC, QD, QE, QF, QG, QH, QI, QJ, QK, QL, QM, QN, QO, QP, QQ, QR, QS, QT, QU, QV, QW, QX, QY, QZ, Ja, Jb, Jc, Jd, Je, Jf, Jg, Jh, Ji, Jj, Jk, Jl, Jm, Jn, Jo, Jp, Jq, Jr, Js, Jt, Nat.reduceAdd]
  have e1 := Mem.gt_push m ⟨1, .int .u8 (a0 : Int) :: gl.map (fun (g : Nat) => .int .u8 (g : Int)), none⟩
  generalize m.push ⟨1, .int .u8 (a0 : Int) :: gl.map (fun (g : Nat) => .int .u8 (g : Int)), none⟩ = m1 at e1 ⊢
  have n1 := e1.next
  refine made_sp (a0 := a0) (gl := gl) (most := 6) hlf (by omega) h0 hlen hg (by omega) (by omega) fun u m2 e2 hu => ?_
  have n2 := e2.next
  have e02 := e1.trans e2
  obtain ⟨l1, l6⟩ := madeT_len (a0 := a0) (most := 6) hlen (by omega) (by omega)
  have hc := madeT_ok (a0 := a0) (most := 6) hlen (by omega) (by omega)
  have hbd : ∀ z ∈ madeT a0 gl 6, 0 ≤ z ∧ z ≤ 60 := madeT_bd
  generalize madeT a0 gl 6 = l at hu l1 l6 hc hbd
  have hx61 : ((x % 61 : Nat) : Int) = (x : Int) % 61 := by omega
  have hc1 := chkS_more (x := ((x % 61 : Nat) : Int)) hc l6 (by omega)
  have hyl : y % l.length < l.length := Nat.mod_lt _ (by omega)
  have hc2 := chkS_more (x := l[y % l.length]) hc l6 (hbd _ (List.getElem_mem _))
  have p1 := mostX_more (r := r) hc hc1
  have p2 := leX_more (r := r) hc hc2 (List.getElem_mem _)
  refine most_sp hlf (by omega) hu.il (by omega) fun m3 e3 => ?_
  have n3 := e3.next
  try simp (disch := first | omega | with_unfolding_all exact id rfl | with_unfolding_all exact Nat.le_of_ble_eq_true rfl | (simp only [Jd, Je, Jr, Js, Jt, Nat.reduceAdd, allOne, oneCell, Bool.and_self, Jc]; first | done | omega)) only [↓Qa, ↓Qb, Qd, Qe, Qf, Qg, Qh, Qi, Qj, Qk, Ql, Qm, Qn, Qo, Qp, Qq, Qr, Qs, Qt, Qu, Qv, Qw, Qx, Qy, ptrTo, Qz, QA, QB, QC, QD, QE, QF, QG, QH, QI, QJ, QK, QL, QM, QN, QO, QP, QQ, QR, QS, QT, QU, QV, QW, QX, QY, QZ, Ja, Jb, Jc, Jd, Je, Jf, Jg, Jh, Ji, Jj, Jk, Jl, Jm, Jn, Jo, Jp, Jq, Jr, Js, Jt, Nat.reduceAdd]
  refine clone_sp (by omega) (hu.il.mono e3) (by omega) (by omega) fun c m4 e4 hcl => ?_
  have n4 := e4.next
  have e24 := e3.trans e4
  rw [oCv_nat (by omega), show (61 : Int) = ((61 : Nat) : Int) from rfl, oInt_remN (by omega)]
  obtain ⟨c', m5, s1, s2, s3, s4, s5⟩ := GL.snocV (P := Try.prog) (L := L) (m0 := m2) ((x % 61 : Nat) : Int) ael22 (by omega) hcl (by omega) (by omega) e24 (by omega)
  rw [bs22, oRes_e, s1, oRes_e]
  have n5 := s3.next
  refine most_sp hlf (by omega) s2.il (by simp; omega) fun m6 e6 => ?_
  have n6 := e6.next
  have e26 := s3.trans e6
  try simp (disch := first | omega | with_unfolding_all exact id rfl | with_unfolding_all exact Nat.le_of_ble_eq_true rfl | (simp only [Jd, Je, Jr, Js, Jt, Nat.reduceAdd, allOne, oneCell, Bool.and_self, Jc]; first | done | omega)) only [↓Qa, ↓Qb, Qd, Qe, Qf, Qg, Qh, Qi, Qj, Qk, Ql, Qm, Qn, Qo, Qp, Qq, Qr, Qs, Qt, Qu, Qv, Qw, Qx, Qy, ptrTo, Qz, QA, QB, QC, QD, QE, QF, QG, QH, QI, QJ, QK, QL, QM, QN, QO, QP, QQ, QR, QS, QT, QU, QV, QW, QX, QY, QZ, Ja, Jb, Jc, Jd, Je, Jf, Jg, Jh, Ji, Jj, Jk, Jl, Jm, Jn, Jo, Jp, Jq, Jr, Js, Jt, Nat.reduceAdd]
  refine least_sp hlf (by omega) (hu.il.mono e26) (by omega) fun m7 e7 => ?_
  have n7 := e7.next
  have e27 := e26.trans e7
  try simp (disch := first | omega | with_unfolding_all exact id rfl | with_unfolding_all exact Nat.le_of_ble_eq_true rfl | (simp only [Jd, Je, Jr, Js, Jt, Nat.reduceAdd, allOne, oneCell, Bool.and_self, Jc]; first | done | omega)) only [↓Qa, ↓Qb, Qd, Qe, Qf, Qg, Qh, Qi, Qj, Qk, Ql, Qm, Qn, Qo, Qp, Qq, Qr, Qs, Qt, Qu, Qv, Qw, Qx, Qy, ptrTo, Qz, QA, QB, QC, QD, QE, QF, QG, QH, QI, QJ, QK, QL, QM, QN, QO, QP, QQ, QR, QS, QT, QU, QV, QW, QX, QY, QZ, Ja, Jb, Jc, Jd, Je, Jf, Jg, Jh, Ji, Jj, Jk, Jl, Jm, Jn, Jo, Jp, Jq, Jr, Js, Jt, Nat.reduceAdd]
  refine clone_sp (Nat.le_refl _) (hu.il.mono e27) (by omega) (by omega) fun d m8 e8 hd => ?_
  have n8 := e8.next
  have e28 := e27.trans e8
  rw [oCv_nat (by omega), hu.ln, oOpt_e, oInt_remN (by omega), (hu.il.mono e28).ia hyl, oOpt_e, (hu.il.mono e28).ld hyl, oOpt_e]
  obtain ⟨d', m9, t1, t2, t3, t4, t5⟩ := GL.snocV (P := Try.prog) (L := L) (m0 := m2) l[y % l.length] ael22 (by omega) hd (by omega) (by omega) e28 (by omega)
  rw [bs22, oRes_e, t1, oRes_e]
  have n9 := t3.next
  refine least_sp hlf (by omega) t2.il (by simp; omega) fun m10 e10 => ?_
  have e0 := (e02.trans t3).trans e10
  try simp (disch := first | omega | with_unfolding_all exact id rfl | with_unfolding_all exact Nat.le_of_ble_eq_true rfl | (simp only [Jd, Je, Jr, Js, Jt, Nat.reduceAdd, allOne, oneCell, Bool.and_self, Jc]; first | done | omega)) only [hc, hc1, hc2, ↓Qa, ↓Qb, Qd, Qe, Qf, Qg, Qh, Qi, Qj, Qk, Ql, Qm, Qn, Qo, Qp, Qq, Qr, Qs, Qt, Qu, Qv, Qw, Qx, Qy, ptrTo, Qz, QA, QB, QC, QD, QE, QF, QG, QH, QI, QJ, QK, QL, QM, QN, QO, QP, QQ, QR, QS, QT, QU, QV, QW, QX, QY, QZ, Ja, Jb, Jc, Jd, Je, Jf, Jg, Jh, Ji, Jj, Jk, Jl, Jm, Jn, Jo, Jp, Jq, Jr, Js, Jt, Nat.reduceAdd]
  repeat (rw [join_e]; try simp (disch := first | omega | with_unfolding_all exact id rfl | with_unfolding_all exact Nat.le_of_ble_eq_true rfl | (simp only [Jd, Je, Jr, Js, Jt, Nat.reduceAdd, allOne, oneCell, Bool.and_self, Jc]; first | done | omega)) only [decide_eq_true p1, decide_eq_true p2, ↓Qa, ↓Qb, Qd, Qe, Qf, Qg, Qh, Qi, Qj, Qk, Ql, Qm, Qn, Qo, Qp, Qq, Qr, Qs, Qt, Qu, Qv, Qw, Qx, Qy, ptrTo, Qz, QA, QB, QC, QD, QE, QF, QG, QH, QI, QJ, QK, QL, QM, QN, QO, QP, QQ, QR, QS, QT, QU, QV, QW, QX, QY, QZ, Ja, Jb, Jc, Jd, Je, Jf, Jg, Jh, Ji, Jj, Jk, Jl, Jm, Jn, Jo, Jp, Jq, Jr, Js, Jt, Nat.reduceAdd])
  rw [r15]
  exact SClosed_sp (cK := runT (tab lf) (n + 39)) (L := L) (hT.mono e0) (hk _ e0)
end
end Go.Vit
