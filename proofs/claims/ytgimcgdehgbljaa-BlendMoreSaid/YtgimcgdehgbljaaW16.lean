/- Walks: the nearest blend that fits. -/
import Derived.Test.YtgimcgdehgbljaaW15
set_option linter.unusedSimpArgs false
set_option linter.unusedVariables false
set_option maxRecDepth 20000
namespace Go.Vit
open Go Go.Proofs
attribute [local irreducible] runT loopS
theorem slice_cells {m : Mem} {v : Value} {l : List Int} (h : IL m v l) : v.cells.toList = [v] := by
  obtain ⟨p, c, rfl⟩ := h.ex
  rfl
section
variable {lf n L : Nat} {m : Mem} {k : Value → Mem → Option Unit}
theorem nearest38_sp {wv v : Value} {l b : List Int} {lo hi : Int} (hlf : 1000000 ≤ lf) (hL : L ≤ m.next) (hw : IL m wv l) (hv : IL m v b) (hb : b.length < 1000000)
    (hk : ∀ u m', Gt m m' → IN m' u (nrL l lo hi b) → k (.tuple ⟨[u, .int .i64 (nrE l lo hi b)]⟩) m' = some ()) :
    runT (tab lf) (n + 10) 38 [rcp wv lo hi, v] L m k = some () := by
  rw [r38]; dsimp only [S38, iofNat, inegSucc]
  have hcv := slice_cells hv
  rw [uc_e, uc_e, un0_e, abox_e, oRes_e, cells_agg, abox_e, oRes_e, hcv]
  have g1 := Mem.gt_push m ⟨1, rcC wv lo hi, none⟩
  have hA : At (m.push ⟨1, rcC wv lo hi, none⟩) m.next (rcC wv lo hi) := At.push m _
  have n1 : (m.push ⟨1, rcC wv lo hi, none⟩).next = m.next + 1 := Mem.push_next _ _
  generalize m.push ⟨1, rcC wv lo hi, none⟩ = m1 at g1 hA n1 ⊢
  have g2 := Mem.gt_push m1 ⟨1, [v], none⟩
  have hT := At.push m1 [v]
  have n2 : (m1.push ⟨1, [v], none⟩).next = m1.next + 1 := Mem.push_next _ _
  have hA2 := hA.mono g2
  generalize m1.push ⟨1, [v], none⟩ = m2 at g2 hT n2 hA2 ⊢
  unfold ptrTo
  have G2 := g1.trans g2
  have c0 : (rcC wv lo hi)[0]? = some wv := rfl
  have cv : ([v] : List Value)[0]? = some v := rfl
  rw [ldN_u, hA2.rd, rdn3, oOpt_e, ld1_u, hT.rd, rdo_e, cv, oOpt_e]
  refine blended_sp hlf (hw.mono G2) (hv.mono G2) hb fun m3 e3 => ?_
  have G3 := G2.trans e3
  have n3 := e3.next
  have hA3 := hA2.mono e3
  have hT3 := hT.mono e3
  by_cases h : bldE l lo hi b = 0
  · have hE : nrE l lo hi b = if fitL (nni l) b.length lo hi = [] then 12 else 0 := if_pos h
    obtain ⟨ws, t, rfl, rfl, q1, q2, q3, q4, q5⟩ := bldE_ok h
    rw [nni_ci, ci_length] at hE
    have hs := q5.le
    have hw : IN m wv ws := hw
    have hv : IN m v t := hv
    rw [h]
    have d11 : decide ((0 : Int) = 0) = true := by decide
    try simp (disch := first | omega | with_unfolding_all exact id rfl | with_unfolding_all exact Nat.le_of_ble_eq_true rfl | (simp only [Jd, Je, Jr, Js, Jt, Nat.reduceAdd, allOne, oneCell, Bool.and_self, Jc]; first | done | omega)) only [hT3.rd, cv, (hv.mono G3).ln, hA3.rd, ↓Qa, ↓Qb, ↓Qc, Qd, Qe, Qf, Qg, Qh, Qi, Qj, Qk, Ql, Qm, Qn, Qo, Qp, Qq, Qr, Qs, Qt, Qu, Qv, Qw, Qx, Qy, ptrTo, Qz, QA, QB, QC, QD, QE, QF, QG, QH, QI, QJ, QK, QL, QM, QN, QO, QP, QQ, QR, QS, QT, QU, QV, QW, QX, QY, QZ, Ja, Jb, Jc, Jd, Je, Jf, Jg, Jh, Ji, Jj, Jk, Jl, Jm, Jn, Jo, Jp, Jq, Jr, Js, Jt, Nat.reduceAdd]
    -- the boxes: best, far
    have g4 := Mem.gt_push m3 ⟨1, [.slice none 0 0], none⟩
    have b4 : (m3.push ⟨1, [.slice none 0 0], none⟩).rd m3.next = some ⟨1, [.slice none 0 0], none⟩ := Mem.rd_push _ _
    have n4 : (m3.push ⟨1, [.slice none 0 0], none⟩).next = m3.next + 1 := Mem.push_next _ _
    generalize m3.push ⟨1, [.slice none 0 0], none⟩ = m4 at g4 b4 n4 ⊢
    have g5 : Gt m4 ((m4.push ⟨1, [.int .i64 0], none⟩).put (m3.next + 1) (some ⟨1, [.int .i64 11], none⟩)) := Mem.put_gt (Mem.gt_push _ _) _ (by omega)
    have f5 : ((m4.push ⟨1, [.int .i64 0], none⟩).put (m3.next + 1) (some ⟨1, [.int .i64 11], none⟩)).rd (m3.next + 1) = some ⟨1, [.int .i64 11], none⟩ := Mem.rd_put_eq _ _ (by rw [Mem.push_next]; omega)
    have n5 : ((m4.push ⟨1, [.int .i64 0], none⟩).put (m3.next + 1) (some ⟨1, [.int .i64 11], none⟩)).next = m4.next + 1 := rfl
    generalize (m4.push ⟨1, [.int .i64 0], none⟩).put (m3.next + 1) (some ⟨1, [.int .i64 11], none⟩) = m5 at g5 f5 n5 ⊢
    refine fitting_sp fun m6 e6 hB hC n6 => ?_
    rw [oRange_e (hf := rfl)]
    generalize hcs : ([.pointer (some ⟨m3.next + 1, 0, none⟩), .pointer (some ⟨m3.next, 0, none⟩), .pointer (some ⟨m1.next, 0, none⟩)] : List Value) = CS
    have g7 := Mem.gt_push m6 ⟨Nat.succ (Nat.mul 2 38), CS, some []⟩
    have r7 : Rdy 38 (m6.push ⟨Nat.succ (Nat.mul 2 38), CS, some []⟩) m6.next CS := Mem.rd_push _ _
    have n7 : (m6.push ⟨Nat.succ (Nat.mul 2 38), CS, some []⟩).next = m6.next + 1 := Mem.push_next _ _
    generalize m6.push ⟨Nat.succ (Nat.mul 2 38), CS, some []⟩ = m7 at g7 r7 n7 ⊢
    have e57 := (g5.trans e6).trans g7
    have e37 := g4.trans e57
    have G7 := G3.trans e37
    have hwb : ∀ c, bid wv = some c → c < m.next := fun c hc => Sl.bid_lt hw (by rw [ci_length]; omega) c hc
    have htv : 0 < t.length → ∀ c, bid v = some c → c < m.next := fun h0 c hc => Sl.bid_lt hv (by rw [ci_length]; omega) c hc
    have f7 := ((g7.kept _ (by have := e6.next; omega)).trans (e6.kept _ (by omega))).trans f5
    have b7 := (e57.kept _ (by omega)).trans b4
    have hT7 := hT3.mono e37
    have htbl := hT.lt
    have e6n := e6.next
    refine fits91_sp (X := fun c => c = m6.next ∨ c = m3.next + 1 ∨ c = m3.next) (J := fun seen m' => NrJ (fun c => c = m6.next ∨ c = m3.next + 1 ∨ c = m3.next) m6.next (m3.next + 1) m3.next m1.next t seen m' ∧ ∀ x ∈ seen, x.length < 100) hlf (by omega) (hw.mono G7) q3 q2 hs (hB.mono g7) (hC.mono g7)
      (by rintro (h | h | h) <;> omega) (by rintro (h | h | h) <;> omega) (fun c hc => by have := hwb c hc; rintro (h | h | h) <;> omega) (by rintro c (h | h | h) <;> omega) ⟨⟨by rw [hcs]; exact r7, f7, _, b7, IL.nil _, fun c hc => by cases hc⟩, fun x hx => by cases hx⟩ ?_ ?_ ?_
    · rintro seen x y ⟨⟨j1, j2, bv, j3, j4, j5⟩, j6⟩ e
      exact ⟨⟨(e.kept _ j1.lt).trans j1, (e.kept _ (Mem.rd_lt j2)).trans j2, bv, (e.kept _ (Mem.rd_lt j3)).trans j3, j4.mono e, j5⟩, j6⟩
    · rintro m8 u b seen K e8 ⟨hj, hseen⟩ hsl hu hbb hub hK
      have hbl := hbb.len
      refine round38_sp (X := fun c => c = m6.next ∨ c = m3.next + 1 ∨ c = m3.next) (kk := 0) (N := 0) hlf (by omega) (by omega) (by omega) (fun c => Iff.rfl) (by omega) (by omega) (by omega) (by rintro (h | h | h) <;> omega) hj (hT7.monoX e8 (by rintro (h | h | h) <;> omega)) ((hv.mono G7).monoX e8 fun h0 c hc => by have := htv h0 c hc; rintro (h | h | h) <;> omega)
        (by omega) hu hub (by omega) (fun h0 c hc => by have := htv h0 c hc; rintro (h | h | h) <;> omega) hseen fun m9 e9 hj9 => ?_
      refine hK m9 e9 ⟨hj9, fun x hx => ?_⟩
      rcases List.mem_append.1 hx with hx | hx
      · exact hseen x hx
      · rw [List.mem_singleton] at hx; subst hx; omega
    · rintro m8 e8 ⟨⟨j1, j2, bv, j3, j4, j5⟩, j6⟩
      have n8 := e8.next
      rw [oEnd_e j1, Mem.rd_put _ _ _ _ (by omega), j2, rdo_e, List.getElem?_cons_zero, oOpt_e, oInt_gtr]
      have Gf : Gt m (m8.put m6.next none) := by
        refine Mem.put_gt (e8.gt G7 ?_) _ (by omega)
        rintro c (h | h | h) <;> omega
      by_cases hf : fitL ws t.length lo hi = []
      · rw [if_pos hf] at hE
        have hN : nrL (ci ws) lo hi (ci t) = [] := if_neg (by rw [hE]; decide)
        rw [hE, hN] at hk
        rw [hf, nearF_nil]
        exact hk _ _ Gf (IL.nil _)
      · rw [if_neg hf] at hE
        have hN : nrL (ci ws) lo hi (ci t) = (nearF t (fitL ws t.length lo hi)).1 := by unfold nrL; rw [if_pos hE, nni_ci, nni_ci, ci_length]
        obtain ⟨q6, q7, q8⟩ := nearF_min (t := t) (l := fitL ws t.length lo hi) (fun b hb => by
          have h1 := (away_le (fitL_bl q2 hs hb).1 q5).1
          omega) hf
        have h9 := (away_le (fitL_bl q2 hs q6).1 q5).1
        rw [hE, hN] at hk
        have d1 : decide ((10 : Int) < ((nearF t (fitL ws t.length lo hi)).2 : Int)) = false := decide_eq_false (by omega)
        rw [d1, oIf_f, Mem.rd_put _ _ _ _ (by omega), j3, rdo_e, List.getElem?_cons_zero, oOpt_e]
        exact hk _ _ Gf (j4.keep fun c hc => Mem.rd_put _ _ _ _ (fun h => j5 c hc (.inl h.symm)))
  · have hE : nrE l lo hi b = bldE l lo hi b := if_neg h
    have hN : nrL l lo hi b = [] := if_neg (by rw [hE]; exact h)
    rw [hE, hN] at hk
    try simp (disch := first | omega | with_unfolding_all exact id rfl | with_unfolding_all exact Nat.le_of_ble_eq_true rfl | (simp only [Jd, Je, Jr, Js, Jt, Nat.reduceAdd, allOne, oneCell, Bool.and_self, Jc]; first | done | omega)) only [decide_eq_false h, ↓Qa, ↓Qb, ↓Qc, Qd, Qe, Qf, Qg, Qh, Qi, Qj, Qk, Ql, Qm, Qn, Qo, Qp, Qq, Qr, Qs, Qt, Qu, Qv, Qw, Qx, Qy, ptrTo, Qz, QA, QB, QC, QD, QE, QF, QG, QH, QI, QJ, QK, QL, QM, QN, QO, QP, QQ, QR, QS, QT, QU, QV, QW, QX, QY, QZ, Ja, Jb, Jc, Jd, Je, Jf, Jg, Jh, Ji, Jj, Jk, Jl, Jm, Jn, Jo, Jp, Jq, Jr, Js, Jt, Nat.reduceAdd]
    exact hk _ _ G3 (IL.nil _)
end
end Go.Vit
