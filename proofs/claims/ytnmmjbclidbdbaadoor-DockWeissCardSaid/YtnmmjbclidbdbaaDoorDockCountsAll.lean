/- The law DockCounts: its walk. -/
import Derived.Test.YtnmmjbclidbdbaaDoorW18
set_option linter.unusedSimpArgs false
set_option linter.unusedVariables false
set_option maxRecDepth 20000
namespace Go.Vit
open Go Go.Proofs
attribute [local irreducible] runT loopS
/-- What At returns. -/
def AtR (b c x : Int) (w : List Nat) : Prop := (atE b c x ≠ 0 ∧ w = []) ∨ (atE b c x = 0 ∧ w.length ≤ 8 ∧ srvB b.toNat w 0 = true ∧ w.length = c.toNat ∧ numD b.toNat w 0 = x.toNat)
theorem AtR.one {b c x : Int} {w w' : List Nat} (h : AtR b c x w) (h' : AtR b c x w') : w = w' := by
  rcases h with ⟨h1, h2⟩ | ⟨h1, _, h2, h3, h4⟩ <;> rcases h' with ⟨g1, g2⟩ | ⟨g1, _, g2, g3, g4⟩
  · rw [h2, g2]
  · exact absurd g1 h1
  · exact absurd h1 g1
  · exact numD_inj h2 g2 (by omega) (by omega)
theorem AtR.len {b c x : Int} {w : List Nat} (h : AtR b c x w) : w.length ≤ 8 := by
  rcases h with ⟨h1, rfl⟩ | ⟨h1, h2, _⟩
  · exact Nat.zero_le _
  · exact h2
section
variable {lf n L : Nat} {m : Mem} {k : Value → Mem → Option Unit}
theorem at2_sp {b c x : Int} (hlf : 1000000 ≤ lf) (hL : L ≤ m.next) (hT : TabOk mTab m) (hk : ∀ u m' w, Gt m m' → GN m.next m' u w → AtR b c x w → k (.tuple ⟨[u, .int .i64 (atE b c x)]⟩) m' = some ()) :
    runT (tab lf) (n + 20) 35 [.int .i64 b, .int .i64 c, .int .i64 x] L m k = some () := by
  refine at_sp hlf hL hT (fun h m' e => hk _ m' [] e (GN.nil _ _) (.inl ⟨h, rfl⟩)) ?_
  rintro N j q rfl rfl rfl h1 h8 hj hq hE u m' w e hu hs hl hn
  have := hk u m' w e hu (.inr ⟨hE, by omega, by rwa [Int.toNat_natCast], by rwa [Int.toNat_natCast], by rwa [Int.toNat_natCast, Int.toNat_natCast]⟩)
  rwa [hE] at this
theorem rat2_sp {b c x : Int} (hlf : 1000000 ≤ lf) (hL : L ≤ m.next) (hk : ∀ u m' w, Gt m m' → GN m.next m' u w → AtR b c x w → k (.tuple ⟨[u, .int .i64 (atE b c x)]⟩) m' = some ()) :
    runT (tab lf) (n + 20) 36 [.int .i64 b, .int .i64 c, .int .i64 x] L m k = some () := by
  refine rat_sp hlf hL (fun h => hk _ m [] (Gt.refl _) (GN.nil _ _) (.inl ⟨h, rfl⟩)) ?_
  rintro N j q rfl rfl rfl h1 h8 hj hq hE u m' w e hu hs hl hn
  have := hk u m' w e hu (.inr ⟨hE, by omega, by rwa [Int.toNat_natCast], by rwa [Int.toNat_natCast], by rwa [Int.toNat_natCast, Int.toNat_natCast]⟩)
  rwa [hE] at this
theorem countsL_sp {b c x : Int} {v : Value} {l : List Int} (hlf : 1000000 ≤ lf) (hL : L ≤ m.next) (hT : TabOk mTab m) (hv : IL m v l) (ho : Opn v)
    (hk : ∀ m', Gt m m' → k (.bool true) m' = some ()) : runT (tab lf) (n + 30) 5 [.int .i64 b, .int .i64 c, .int .i64 x, v] L m k = some () := by
  rw [r5]; dsimp only [S5, iofNat, inegSucc]
  rw [uc_e, uc_e, uc_e, uc_e, un0_e, hv.ln, oOpt_e, oInt_gtr]
  refine oIf_dec (fun h => ?_) (fun h => ?_)
  · rw [r15]; exact SClosed_sp hT (hk m (Gt.refl _))
  · refine count_sp (n := n + 18) hlf hL fun m1 e1 => ?_
    have n1 := e1.next
    rw [ax0, oOpt_e, ax1, oOpt_e]
    refine rcount_sp (n := n + 17) hlf ?_
    rw [ax0, oOpt_e, ax1, oOpt_e]
    refine at2_sp (n := n + 9) hlf (by omega) (hT.mono e1) fun u2 m2 w2 e2 hu2 h2 => ?_
    have n2 := e2.next
    rw [ax0, oOpt_e, ax1, oOpt_e]
    refine rat2_sp (n := n + 9) hlf (by omega) fun u3 m3 w3 e3 hu3 h3 => ?_
    have n3 := e3.next
    rw [ax0, oOpt_e, ax1, oOpt_e]
    have E3 := (e1.trans e2).trans e3
    refine number_sp (n := n + 9) hlf (by omega) (hT.mono E3) (hv.mono E3) (by omega) fun m4 e4 => ?_
    have n4 := e4.next
    rw [ax0, oOpt_e, ax1, oOpt_e]
    have E4 := E3.trans e4
    refine rnumber_sp (n := n + 9) hlf (by omega) (hv.mono E4) ho (by omega) fun m5 e5 => ?_
    rw [ax0, oOpt_e, ax1, oOpt_e, oInt_eql]
    have E5 := E4.trans e5
    have hw := h2.one h3
    subst hw
    have hlen := h2.len
    try simp (disch := first | omega | with_unfolding_all exact id rfl | with_unfolding_all exact Nat.le_of_ble_eq_true rfl | (simp only [Jd, Je, Jr, Js, Jt, Nat.reduceAdd, allOne, oneCell, Bool.and_self, Jc]; first | done | omega)) only [↓Qa, ↓Qb, Qd, Qe, Qf, Qg, Qh, Qi, Qj, Qk, Ql, Qm, Qn, Qo, Qp, Qq, Qr, Qs, Qt, Qu, Qv, Qw, Qx, Qy, ptrTo, Qz, QA, QB, QC, QD, QE, QF, QG, QH, QI, QJ, QK, QL, QM, QN, QO, QP, QQ, QR, QS, QT, QU, QV, QW, QX, QY, QZ, Ja, Jb, Jc, Jd, Je, Jf, Jg, Jh, Ji, Jj, Jk, Jl, Jm, Jn, Jo, Jp, Jq, Jr, Js, Jt, Nat.reduceAdd]
    repeat (rw [join_e]; try simp (disch := first | omega | with_unfolding_all exact id rfl | with_unfolding_all exact Nat.le_of_ble_eq_true rfl | (simp only [Jd, Je, Jr, Js, Jt, Nat.reduceAdd, allOne, oneCell, Bool.and_self, Jc]; first | done | omega)) only [↓Qa, ↓Qb, Qd, Qe, Qf, Qg, Qh, Qi, Qj, Qk, Ql, Qm, Qn, Qo, Qp, Qq, Qr, Qs, Qt, Qu, Qv, Qw, Qx, Qy, ptrTo, Qz, QA, QB, QC, QD, QE, QF, QG, QH, QI, QJ, QK, QL, QM, QN, QO, QP, QQ, QR, QS, QT, QU, QV, QW, QX, QY, QZ, Ja, Jb, Jc, Jd, Je, Jf, Jg, Jh, Ji, Jj, Jk, Jl, Jm, Jn, Jo, Jp, Jq, Jr, Js, Jt, Nat.reduceAdd])
    refine same_sp hlf (((hu2.mono e3).mono e4).mono e5).inn ((hu3.mono e4).mono e5).inn (by rw [ci_length]; omega) ?_
    rw [decide_eq_true rfl]
    try simp (disch := first | omega | with_unfolding_all exact id rfl | with_unfolding_all exact Nat.le_of_ble_eq_true rfl | (simp only [Jd, Je, Jr, Js, Jt, Nat.reduceAdd, allOne, oneCell, Bool.and_self, Jc]; first | done | omega)) only [↓Qa, ↓Qb, Qd, Qe, Qf, Qg, Qh, Qi, Qj, Qk, Ql, Qm, Qn, Qo, Qp, Qq, Qr, Qs, Qt, Qu, Qv, Qw, Qx, Qy, ptrTo, Qz, QA, QB, QC, QD, QE, QF, QG, QH, QI, QJ, QK, QL, QM, QN, QO, QP, QQ, QR, QS, QT, QU, QV, QW, QX, QY, QZ, Ja, Jb, Jc, Jd, Je, Jf, Jg, Jh, Ji, Jj, Jk, Jl, Jm, Jn, Jo, Jp, Jq, Jr, Js, Jt, Nat.reduceAdd]
    repeat (rw [join_e]; try simp (disch := first | omega | with_unfolding_all exact id rfl | with_unfolding_all exact Nat.le_of_ble_eq_true rfl | (simp only [Jd, Je, Jr, Js, Jt, Nat.reduceAdd, allOne, oneCell, Bool.and_self, Jc]; first | done | omega)) only [↓Qa, ↓Qb, Qd, Qe, Qf, Qg, Qh, Qi, Qj, Qk, Ql, Qm, Qn, Qo, Qp, Qq, Qr, Qs, Qt, Qu, Qv, Qw, Qx, Qy, ptrTo, Qz, QA, QB, QC, QD, QE, QF, QG, QH, QI, QJ, QK, QL, QM, QN, QO, QP, QQ, QR, QS, QT, QU, QV, QW, QX, QY, QZ, Ja, Jb, Jc, Jd, Je, Jf, Jg, Jh, Ji, Jj, Jk, Jl, Jm, Jn, Jo, Jp, Jq, Jr, Js, Jt, Nat.reduceAdd])
    rw [r15]
    refine SClosed_sp (hT.mono E5) ?_
    try simp (disch := first | omega | with_unfolding_all exact id rfl | with_unfolding_all exact Nat.le_of_ble_eq_true rfl | (simp only [Jd, Je, Jr, Js, Jt, Nat.reduceAdd, allOne, oneCell, Bool.and_self, Jc]; first | done | omega)) only [↓Qa, ↓Qb, Qd, Qe, Qf, Qg, Qh, Qi, Qj, Qk, Ql, Qm, Qn, Qo, Qp, Qq, Qr, Qs, Qt, Qu, Qv, Qw, Qx, Qy, ptrTo, Qz, QA, QB, QC, QD, QE, QF, QG, QH, QI, QJ, QK, QL, QM, QN, QO, QP, QQ, QR, QS, QT, QU, QV, QW, QX, QY, QZ, Ja, Jb, Jc, Jd, Je, Jf, Jg, Jh, Ji, Jj, Jk, Jl, Jm, Jn, Jo, Jp, Jq, Jr, Js, Jt, Nat.reduceAdd]
    repeat (rw [join_e]; try simp (disch := first | omega | with_unfolding_all exact id rfl | with_unfolding_all exact Nat.le_of_ble_eq_true rfl | (simp only [Jd, Je, Jr, Js, Jt, Nat.reduceAdd, allOne, oneCell, Bool.and_self, Jc]; first | done | omega)) only [↓Qa, ↓Qb, Qd, Qe, Qf, Qg, Qh, Qi, Qj, Qk, Ql, Qm, Qn, Qo, Qp, Qq, Qr, Qs, Qt, Qu, Qv, Qw, Qx, Qy, ptrTo, Qz, QA, QB, QC, QD, QE, QF, QG, QH, QI, QJ, QK, QL, QM, QN, QO, QP, QQ, QR, QS, QT, QU, QV, QW, QX, QY, QZ, Ja, Jb, Jc, Jd, Je, Jf, Jg, Jh, Ji, Jj, Jk, Jl, Jm, Jn, Jo, Jp, Jq, Jr, Js, Jt, Nat.reduceAdd])
    exact hk _ E5
end
end Go.Vit
