/- Walks: how many blends fit, both ways. -/
import Derived.Test.YtgimcgdehgbljaaW12
set_option linter.unusedSimpArgs false
set_option linter.unusedVariables false
set_option maxRecDepth 20000
namespace Go.Vit
open Go Go.Proofs
attribute [local irreducible] runT loopS
/-- How many fit, as it is answered. -/
def fitC (l : List Int) (lo hi s : Int) : Int := if chkR l lo hi = 0 ∧ (0 ≤ s ∧ s ≤ l.length) then ((fitL (nni l) s.toNat lo hi).length : Int) else 0
def fitE (l : List Int) (lo hi s : Int) : Int := if chkR l lo hi = 0 then (if 0 ≤ s ∧ s ≤ l.length then 0 else 1) else chkR l lo hi
theorem fitL_len {ws : List Nat} {s : Nat} {lo hi : Int} (h10 : ws.length ≤ 10) : (fitL ws s lo hi).length ≤ 1000 := by
  have h1 := fitI_len ws s lo hi (chs ws.length s)
  have h2 := chs_le (n := ws.length) (k := s) (by omega)
  unfold fitL; omega
section
variable {lf n L : Nat} {m : Mem} {k : Value → Mem → Option Unit}
theorem fitting_sp {wv : Value} {lo hi : Int} {s : Int} (hk : ∀ m', Gt m m' → At m' m.next (rcC wv lo hi) → At m' (m.next + 1) [.int .i64 s] → m'.next = m.next + 2 → k (.func (.func 91) #[] ⟨[.pointer (some ⟨m.next, 0, none⟩), .pointer (some ⟨m.next + 1, 0, none⟩)]⟩) m' = some ()) :
    runT (tab lf) (n + 1) 80 [rcp wv lo hi, .int .i64 s] L m k = some () := by
  rw [r80]; dsimp only [S80, iofNat, inegSucc]
  rw [uc_e, uc_e, un0_e, abox_e, oRes_e, cells_agg, abox_e, oRes_e, cells_int]
  have g1 := Mem.gt_push m ⟨1, rcC wv lo hi, none⟩
  have n1 : (m.push ⟨1, rcC wv lo hi, none⟩).next = m.next + 1 := Mem.push_next _ _
  have hA : At (m.push ⟨1, rcC wv lo hi, none⟩) m.next (rcC wv lo hi) := At.push m _
  have g2 := Mem.gt_push (m.push ⟨1, rcC wv lo hi, none⟩) ⟨1, [.int .i64 s], none⟩
  have n2 := Mem.push_next (m.push ⟨1, rcC wv lo hi, none⟩) ⟨1, [.int .i64 s], none⟩
  have hB := At.push (m.push ⟨1, rcC wv lo hi, none⟩) [.int .i64 s]
  unfold ptrTo
  rw [n1] at hB ⊢
  exact hk _ (g1.trans g2) (hA.mono g2) hB (by omega)
/-- A round that counts. -/
theorem round34_sp {y cb : Nat} {u : Value} {z : Nat} (hLy : L ≤ y) (hLc : L ≤ cb) (hyc : y ≠ cb) (hz : z ≤ 1000) (hr : Rdy 34 m y [.pointer (some ⟨cb, 0, none⟩)]) (hc : m.rd cb = some ⟨1, [.int .i64 (z : Int)], none⟩)
    (hk : ∀ m', Rdy 34 m' y [.pointer (some ⟨cb, 0, none⟩)] → m'.rd cb = some ⟨1, [.int .i64 ((z + 1 : Nat) : Int)], none⟩ → m'.next = m.next → (∀ c, c ≠ y → c ≠ cb → m'.rd c = m.rd c) → k (.bool true) m' = some ()) :
    oCallV (runT (tab lf) (n + 1)) (yv y) [u] L m k = some () := by
  rw [oCallV_y hr, rR34]
  dsimp only [R34, iofNat, inegSucc]
  have hylt := hr.lt
  have hclt := Mem.rd_lt hc
  rw [uc_e, oYv_e hLy]
  show uc [.pointer (some ⟨cb, 0, none⟩), u] _ = _
  rw [uc_e, uc_e, un0_e, oBusy_e hr]
  have b1 : Bsy 34 (m.put y (some ⟨Nat.succ (Nat.succ (Nat.mul 2 34)), [.pointer (some ⟨cb, 0, none⟩)], some []⟩)) y [.pointer (some ⟨cb, 0, none⟩)] := Mem.rd_put_eq _ _ hylt
  have c1 : (m.put y (some ⟨Nat.succ (Nat.succ (Nat.mul 2 34)), [.pointer (some ⟨cb, 0, none⟩)], some []⟩)).rd cb = some ⟨1, [.int .i64 (z : Int)], none⟩ := (Mem.rd_put _ _ _ _ hyc).trans hc
  have n1 : (m.put y (some ⟨Nat.succ (Nat.succ (Nat.mul 2 34)), [.pointer (some ⟨cb, 0, none⟩)], some []⟩)).next = m.next := rfl
  have k1 : ∀ c, c ≠ y → (m.put y (some ⟨Nat.succ (Nat.succ (Nat.mul 2 34)), [.pointer (some ⟨cb, 0, none⟩)], some []⟩)).rd c = m.rd c := fun c hc => Mem.rd_put _ _ _ _ (Ne.symm hc)
  generalize m.put y (some ⟨Nat.succ (Nat.succ (Nat.mul 2 34)), [.pointer (some ⟨cb, 0, none⟩)], some []⟩) = m1 at b1 c1 n1 k1 ⊢
  rw [ld1_u, c1, rdo_e, List.getElem?_cons_zero, oOpt_e, oInt_add ⟨by omega, by omega⟩, show (z : Int) + 1 = ((z + 1 : Nat) : Int) from rfl, st_int c1 Nat.zero_lt_one hLc, oRes_e]
  have c2 : (m1.put cb (some ⟨1, [Value.int .i64 (z : Int)].set 0 (.int .i64 ((z + 1 : Nat) : Int)), none⟩)).rd cb = some ⟨1, [.int .i64 ((z + 1 : Nat) : Int)], none⟩ := Mem.rd_put_eq _ _ (by omega)
  have b2 : Bsy 34 (m1.put cb (some ⟨1, [Value.int .i64 (z : Int)].set 0 (.int .i64 ((z + 1 : Nat) : Int)), none⟩)) y [.pointer (some ⟨cb, 0, none⟩)] := (Mem.rd_put _ _ _ _ (Ne.symm hyc)).trans b1
  have n2 : (m1.put cb (some ⟨1, [Value.int .i64 (z : Int)].set 0 (.int .i64 ((z + 1 : Nat) : Int)), none⟩)).next = m1.next := rfl
  have k2 : ∀ c, c ≠ cb → (m1.put cb (some ⟨1, [Value.int .i64 (z : Int)].set 0 (.int .i64 ((z + 1 : Nat) : Int)), none⟩)).rd c = m1.rd c := fun c hc => Mem.rd_put _ _ _ _ (Ne.symm hc)
  generalize m1.put cb (some ⟨1, [Value.int .i64 (z : Int)].set 0 (.int .i64 ((z + 1 : Nat) : Int)), none⟩) = m2 at c2 b2 n2 k2 ⊢
  rw [oReady_e b2]
  refine hk _ (Mem.rd_put_eq _ _ (by omega)) ((Mem.rd_put _ _ _ _ hyc).trans c2) ?_ fun c h1 h2 => (Mem.rd_put _ _ _ _ (Ne.symm h1)).trans ((k2 c h2).trans (k1 c h1))
  rw [Mem.put_next']; omega
theorem fits34_sp {wv : Value} {l : List Int} {lo hi s : Int} (hlf : 1000000 ≤ lf) (hL : L ≤ m.next) (hw : IL m wv l) (hk : ∀ m', Gt m m' → k (.tuple ⟨[.int .i64 (fitC l lo hi s), .int .i64 (fitE l lo hi s)]⟩) m' = some ()) :
    runT (tab lf) (n + 10) 34 [rcp wv lo hi, .int .i64 s] L m k = some () := by
  rw [r34]; dsimp only [S34, iofNat, inegSucc]
  rw [uc_e, uc_e, un0_e, abox_e, oRes_e, cells_agg]
  have g1 := Mem.gt_push m ⟨1, rcC wv lo hi, none⟩
  have hA : At (m.push ⟨1, rcC wv lo hi, none⟩) m.next (rcC wv lo hi) := At.push m _
  have n1 : (m.push ⟨1, rcC wv lo hi, none⟩).next = m.next + 1 := Mem.push_next _ _
  generalize m.push ⟨1, rcC wv lo hi, none⟩ = m1 at g1 hA n1 ⊢
  unfold ptrTo
  have c0 : (rcC wv lo hi)[0]? = some wv := rfl
  rw [ldN_u, hA.rd, rdn3, oOpt_e]
  refine check36_sp hlf (hw.mono g1) fun m2 e2 => ?_
  have G := g1.trans e2
  have n2 := e2.next
  have hA2 := hA.mono e2
  have hw2 := hw.mono G
  by_cases h : chkR l lo hi = 0
  · rw [show fitE l lo hi s = if 0 ≤ s ∧ s ≤ l.length then 0 else 1 from if_pos h] at hk
    rw [h]
    try simp (disch := first | omega | with_unfolding_all exact id rfl | with_unfolding_all exact Nat.le_of_ble_eq_true rfl | (simp only [Jd, Je, Jr, Js, Jt, Nat.reduceAdd, allOne, oneCell, Bool.and_self, Jc]; first | done | omega)) only [hA2.rd, c0, hw2.ln, ↓Qa, ↓Qb, ↓Qc, Qd, Qe, Qf, Qg, Qh, Qi, Qj, Qk, Ql, Qm, Qn, Qo, Qp, Qq, Qr, Qs, Qt, Qu, Qv, Qw, Qx, Qy, ptrTo, Qz, QA, QB, QC, QD, QE, QF, QG, QH, QI, QJ, QK, QL, QM, QN, QO, QP, QQ, QR, QS, QT, QU, QV, QW, QX, QY, QZ, Ja, Jb, Jc, Jd, Je, Jf, Jg, Jh, Ji, Jj, Jk, Jl, Jm, Jn, Jo, Jp, Jq, Jr, Js, Jt, Nat.reduceAdd]
    refine within_sp _ _ _ ?_
    by_cases hs : 0 ≤ s ∧ s ≤ (l.length : Int)
    · rw [if_pos hs, show fitC l lo hi s = ((fitL (nni l) s.toNat lo hi).length : Int) from if_pos ⟨h, hs⟩] at hk
      obtain ⟨ws, rfl, q1, q2, q3, q4⟩ := chkR_ok h
      rw [nni_ci] at hk
      have hwb : ∀ c, bid wv = some c → c < m.next := fun c hc => Sl.bid_lt hw (by rw [ci_length]; omega) c hc
      obtain ⟨s, rfl⟩ : ∃ i : Nat, s = i := ⟨s.toNat, by omega⟩
      rw [Int.toNat_natCast] at hk
      have hsw : s ≤ ws.length := by have := hs.2; rw [ci_length] at this; omega
      rw [decide_eq_true hs]
      try simp (disch := first | omega | with_unfolding_all exact id rfl | with_unfolding_all exact Nat.le_of_ble_eq_true rfl | (simp only [Jd, Je, Jr, Js, Jt, Nat.reduceAdd, allOne, oneCell, Bool.and_self, Jc]; first | done | omega)) only [↓Qa, ↓Qb, ↓Qc, Qd, Qe, Qf, Qg, Qh, Qi, Qj, Qk, Ql, Qm, Qn, Qo, Qp, Qq, Qr, Qs, Qt, Qu, Qv, Qw, Qx, Qy, ptrTo, Qz, QA, QB, QC, QD, QE, QF, QG, QH, QI, QJ, QK, QL, QM, QN, QO, QP, QQ, QR, QS, QT, QU, QV, QW, QX, QY, QZ, Ja, Jb, Jc, Jd, Je, Jf, Jg, Jh, Ji, Jj, Jk, Jl, Jm, Jn, Jo, Jp, Jq, Jr, Js, Jt, Nat.reduceAdd]
      have g3 : Gt m2 ((m2.push ⟨1, [.int .i64 0], none⟩).put m2.next (some ⟨1, [.int .i64 0], none⟩)) := Mem.put_gt (Mem.gt_push _ _) _ (Nat.le_refl _)
      have p3 : At ((m2.push ⟨1, [.int .i64 0], none⟩).put m2.next (some ⟨1, [.int .i64 0], none⟩)) m2.next [.int .i64 0] := Mem.rd_put_eq _ _ (by rw [Mem.push_next]; omega)
      have n3 : ((m2.push ⟨1, [.int .i64 0], none⟩).put m2.next (some ⟨1, [.int .i64 0], none⟩)).next = m2.next + 1 := rfl
      generalize (m2.push ⟨1, [.int .i64 0], none⟩).put m2.next (some ⟨1, [.int .i64 0], none⟩) = m3 at g3 p3 n3 ⊢
      have hA3 := hA2.mono g3
      rw [hA2.rd, rdn3, oOpt_e]
      refine fitting_sp fun m4 e4 hB hC n4 => ?_
      rw [oRange_e (hf := rfl)]
      have g5 := Mem.gt_push m4 ⟨Nat.succ (Nat.mul 2 34), [.pointer (some ⟨m2.next, 0, none⟩)], some []⟩
      have r5 : Rdy 34 (m4.push ⟨Nat.succ (Nat.mul 2 34), [.pointer (some ⟨m2.next, 0, none⟩)], some []⟩) m4.next [.pointer (some ⟨m2.next, 0, none⟩)] := Mem.rd_push _ _
      have n5 : (m4.push ⟨Nat.succ (Nat.mul 2 34), [.pointer (some ⟨m2.next, 0, none⟩)], some []⟩).next = m4.next + 1 := Mem.push_next _ _
      generalize m4.push ⟨Nat.succ (Nat.mul 2 34), [.pointer (some ⟨m2.next, 0, none⟩)], some []⟩ = m5 at g5 r5 n5 ⊢
      have G5 := ((G.trans g3).trans e4).trans g5
      have hw5 : IN m5 wv ws := hw.mono G5
      refine fits91_sp (X := fun c => c = m4.next ∨ c = m2.next) (J := fun seen m' => Rdy 34 m' m4.next [.pointer (some ⟨m2.next, 0, none⟩)] ∧ m'.rd m2.next = some ⟨1, [.int .i64 (seen.length : Int)], none⟩) hlf (by omega) hw5 q3 q2 hsw (hB.mono g5) (hC.mono g5)
        (by rintro (h | h) <;> omega) (by rintro (h | h) <;> omega) (fun c hc => by have := hwb c hc; rintro (h | h) <;> omega) (by rintro c (h | h) <;> omega) ⟨r5, (p3.mono e4).mono g5⟩ (fun seen a b hj e => ⟨(e.kept _ hj.1.lt).trans hj.1, (e.kept _ (Mem.rd_lt hj.2)).trans hj.2⟩) ?_ ?_
      · intro m1 u b seen K e6 hj hse hu hb hub hK
        refine round34_sp (by omega) (by omega) (by omega) hse hj.1 hj.2 fun m7 r7 c7 n7 k7 => ?_
        refine hK m7 ⟨by omega, fun c _ hn => k7 c (fun h => hn (.inl h)) (fun h => hn (.inr h))⟩ ⟨r7, ?_⟩
        rw [c7, List.length_append]; rfl
      · rintro m7 e7 ⟨r7, c7⟩
        have n7 := e7.next
        rw [oEnd_e r7, Mem.rd_put _ _ _ _ (by omega), c7, rdo_e, List.getElem?_cons_zero, oOpt_e]
        refine hk _ (Mem.put_gt (e7.gt G5 ?_) _ (by omega))
        rintro c (h | h) <;> omega
    · rw [if_neg hs, show fitC l lo hi s = 0 from if_neg fun hh => hs hh.2] at hk
      rw [decide_eq_false hs]
      try simp (disch := first | omega | with_unfolding_all exact id rfl | with_unfolding_all exact Nat.le_of_ble_eq_true rfl | (simp only [Jd, Je, Jr, Js, Jt, Nat.reduceAdd, allOne, oneCell, Bool.and_self, Jc]; first | done | omega)) only [↓Qa, ↓Qb, ↓Qc, Qd, Qe, Qf, Qg, Qh, Qi, Qj, Qk, Ql, Qm, Qn, Qo, Qp, Qq, Qr, Qs, Qt, Qu, Qv, Qw, Qx, Qy, ptrTo, Qz, QA, QB, QC, QD, QE, QF, QG, QH, QI, QJ, QK, QL, QM, QN, QO, QP, QQ, QR, QS, QT, QU, QV, QW, QX, QY, QZ, Ja, Jb, Jc, Jd, Je, Jf, Jg, Jh, Ji, Jj, Jk, Jl, Jm, Jn, Jo, Jp, Jq, Jr, Js, Jt, Nat.reduceAdd]
      exact hk _ G
  · rw [show fitE l lo hi s = chkR l lo hi from if_neg h, show fitC l lo hi s = 0 from if_neg fun hh => h hh.1] at hk
    try simp (disch := first | omega | with_unfolding_all exact id rfl | with_unfolding_all exact Nat.le_of_ble_eq_true rfl | (simp only [Jd, Je, Jr, Js, Jt, Nat.reduceAdd, allOne, oneCell, Bool.and_self, Jc]; first | done | omega)) only [decide_eq_false h, ↓Qa, ↓Qb, ↓Qc, Qd, Qe, Qf, Qg, Qh, Qi, Qj, Qk, Ql, Qm, Qn, Qo, Qp, Qq, Qr, Qs, Qt, Qu, Qv, Qw, Qx, Qy, ptrTo, Qz, QA, QB, QC, QD, QE, QF, QG, QH, QI, QJ, QK, QL, QM, QN, QO, QP, QQ, QR, QS, QT, QU, QV, QW, QX, QY, QZ, Ja, Jb, Jc, Jd, Je, Jf, Jg, Jh, Ji, Jj, Jk, Jl, Jm, Jn, Jo, Jp, Jq, Jr, Js, Jt, Nat.reduceAdd]
    exact hk _ G
end
end Go.Vit
