/- The law ShadeTurns: its walk. -/
import Derived.Test.YtffomiamkiakcaaW22
set_option linter.unusedSimpArgs false
set_option linter.unusedVariables false
set_option maxRecDepth 20000
namespace Go.Vit
open Go Go.Proofs
attribute [local irreducible] runT loopS
section
variable {lf n L : Nat} {m : Mem} {k : Value → Mem → Option Unit}
theorem tri_first_all : ((List.range 8).all fun i => decide (1 ≤ i → triN (i + 1) 0 = sm1 (triN i) (List.range i))) = true := by decide +kernel
theorem tri_first {i : Nat} (h1 : 1 ≤ i) (h7 : i ≤ 7) : triN (i + 1) 0 = cntR i i [] := by
  rw [cnt_all h1]
  exact of_decide_eq_true (List.all_eq_true.1 tri_first_all i (List.mem_range.2 (by omega))) h1
theorem aex0 (a b : Value) : aextract (.tuple ⟨[a, b]⟩) 0 = some a := rfl
theorem aex1 (a b : Value) : aextract (.tuple ⟨[a, b]⟩) 1 = some b := rfl
theorem range8_zero : (List.range 8).map (fun k => Value.int .i64 (cntK k [] : Int)) = [.int .i64 0, .int .i64 0, .int .i64 0, .int .i64 0, .int .i64 0, .int .i64 0, .int .i64 0, .int .i64 0] := rfl
set_option maxHeartbeats 8000000 in
theorem turnsL_sp {c : Nat} (hlf : 1000000 ≤ lf) (hL : L ≤ m.next) (hT : TabOk mTab m) (hc : c < 256)
    (hk : ∀ m', Gt m m' → k (.bool true) m' = some ()) : runT (tab lf) (n + 40) 11 [.int .u8 (c : Int)] L m k = some () := by
  rw [r11]; dsimp only [S11, iofNat, inegSucc]
  rw [uc_e, un0_e, oCv_nat (by omega), show (7 : Int) = ((7 : Nat) : Int) from rfl, oInt_remN (by omega), show (1 : Int) = ((1 : Nat) : Int) from rfl, oInt_addN (by omega)]
  obtain ⟨N, hN⟩ : ∃ N, N = 1 + c % 7 := ⟨_, rfl⟩
  have h1 : 1 ≤ N := by omega
  have h7 : N ≤ 7 := by omega
  rw [← hN, anew_eq, oRes_e]
  have hst : st1 1 L (m.push ⟨1, [.int .i64 0], none⟩) (ptrTo m.next) (.int .i64 (N : Int)) = some (Go.undef, (m.push ⟨1, [.int .i64 0], none⟩).put m.next (some ⟨1, [.int .i64 (N : Int)], none⟩)) := by
    show st1 1 L _ (.pointer (some ⟨m.next, 0, none⟩)) _ = _
    rw [st1_u, Mem.rd_push]
    exact stw_e hL rfl (Nat.le_refl _) rfl
  rw [hst, oRes_e]
  have e1 : Gt m ((m.push ⟨1, [.int .i64 0], none⟩).put m.next (some ⟨1, [.int .i64 (N : Int)], none⟩)) := Mem.put_gt (Mem.gt_push _ _) _ (Nat.le_refl _)
  have q1 : ((m.push ⟨1, [.int .i64 0], none⟩).put m.next (some ⟨1, [.int .i64 (N : Int)], none⟩)).rd m.next = some ⟨1, [.int .i64 (N : Int)], none⟩ := Mem.rd_put_eq _ _ (by rw [Mem.push_next]; omega)
  have n1 : ((m.push ⟨1, [.int .i64 0], none⟩).put m.next (some ⟨1, [.int .i64 (N : Int)], none⟩)).next = m.next + 1 := rfl
  generalize (m.push ⟨1, [.int .i64 0], none⟩).put m.next (some ⟨1, [.int .i64 (N : Int)], none⟩) = m1 at e1 q1 n1 ⊢
  have hld1 : ld1 m1 (ptrTo m.next) = some (.int .i64 (N : Int)) := by
    show ld1 m1 (.pointer (some ⟨m.next, 0, none⟩)) = _
    rw [ld1_u, q1]; rfl
  rw [hld1, oOpt_e]
  refine loop_up N (fun i vs m' => ∃ u, vs = [u, .int .i64 (i : Int)] ∧ Gt m1 m' ∧ GL m1.next m' u (ci (List.range i))) (by omega) ⟨.slice none 0 0, rfl, Gt.refl _, GL.nil _ _⟩ ?_
  rintro i vs m2 hi ⟨u, rfl, e2, hu⟩ self hself
  have n2 := e2.next
  rw [uc_e, uc_e, oInt_lss]
  refine oIf_dec (fun h => ?_) (fun h => ?_)
  · obtain ⟨u', m3, s1, s2, s3, s4, _⟩ := GL.snocV (P := Try.prog) (L := L) (m0 := m1) (i : Int) ael22 (by omega) hu (by rw [ci_length, List.length_range]; omega) (by omega) e2 (Nat.le_refl _)
    rw [bs22, oRes_e, s1, oRes_e, oInt_add ⟨by omega, by omega⟩]
    refine hself (by omega) _ _ ⟨u', rfl, s3, ?_⟩
    rw [List.range_succ, ← ci_snoc]
    exact s2.le n2
  · have hiN : i = N := by omega
    subst hiN
    clear hself
    rw [anew_eq, oRes_e]
    have e3 := Mem.gt_push m2 ⟨1, [.int .i64 0, .int .i64 0, .int .i64 0, .int .i64 0, .int .i64 0, .int .i64 0, .int .i64 0, .int .i64 0], none⟩
    have q3 := Mem.rd_push m2 ⟨1, [.int .i64 0, .int .i64 0, .int .i64 0, .int .i64 0, .int .i64 0, .int .i64 0, .int .i64 0, .int .i64 0], none⟩
    have n3 : (m2.push ⟨1, [.int .i64 0, .int .i64 0, .int .i64 0, .int .i64 0, .int .i64 0, .int .i64 0, .int .i64 0, .int .i64 0], none⟩).next = m2.next + 1 := Mem.push_next _ _
    generalize m2.push ⟨1, [.int .i64 0, .int .i64 0, .int .i64 0, .int .i64 0, .int .i64 0, .int .i64 0, .int .i64 0, .int .i64 0], none⟩ = m3 at e3 q3 n3 ⊢
    rw [anew_eq, oRes_e]
    have cell : ∀ (M : Mem) (z v : Value), L ≤ M.next → oneCell v = true → v.cells.toList = [v] → st1 1 L (M.push ⟨1, [z], none⟩) (ptrTo M.next) v = some (Go.undef, (M.push ⟨1, [z], none⟩).put M.next (some ⟨1, [v], none⟩)) := by
      intro M z v hM hv2 hv3
      show st1 1 L _ (.pointer (some ⟨M.next, 0, none⟩)) _ = _
      rw [st1_u, Mem.rd_push, hv3]
      exact stw_e hM rfl (Nat.le_refl _) (by simp [allOne, hv2])
    have cellF : ∀ (M : Mem) (z v : Value), Gt M ((M.push ⟨1, [z], none⟩).put M.next (some ⟨1, [v], none⟩)) ∧ ((M.push ⟨1, [z], none⟩).put M.next (some ⟨1, [v], none⟩)).rd M.next = some ⟨1, [v], none⟩ ∧ ((M.push ⟨1, [z], none⟩).put M.next (some ⟨1, [v], none⟩)).next = M.next + 1 := fun M z v =>
      ⟨Mem.put_gt (Mem.gt_push _ _) _ (Nat.le_refl _), Mem.rd_put_eq _ _ (by rw [Mem.push_next]; omega), rfl⟩
    rw [cell m3 (.int .i64 0) (.int .i64 0) (by omega) rfl rfl, oRes_e]
    obtain ⟨e4, q4, n4⟩ := cellF m3 (.int .i64 0) (.int .i64 0)
    generalize (m3.push ⟨1, [.int .i64 0], none⟩).put m3.next (some ⟨1, [.int .i64 0], none⟩) = m4 at e4 q4 n4 ⊢
    rw [anew_eq, oRes_e, cell m4 (.bool false) (.bool true) (by omega) rfl rfl, oRes_e]
    obtain ⟨e5, q5, n5⟩ := cellF m4 (.bool false) (.bool true)
    generalize (m4.push ⟨1, [.bool false], none⟩).put m4.next (some ⟨1, [.bool true], none⟩) = m5 at e5 q5 n5 ⊢
    have e25 := (e3.trans e4).trans e5
    have hub := hu.bid_lt
    have hl : (ci (List.range i)).length = i := by rw [ci_length, List.length_range]
    have q15 := (e25.kept _ (by omega)).trans ((e2.kept _ (by omega)).trans q1)
    have q35 := ((e4.trans e5).kept _ (by omega)).trans q3
    have q45 := (e5.kept _ (by omega)).trans q4
    have nX : ∀ c, (c = m4.next ∨ c = m3.next ∨ c = m2.next) → m2.next ≤ c := fun c hc => by rcases hc with h | h | h <;> omega
    rw [show n + 39 = (n + (29 - i)) + (ci (List.range i)).length + (8 + 2) by rw [hl]; omega]
    refine all51_sp (X := fun c => c = m4.next ∨ c = m3.next ∨ c = m2.next) (J := trJ m4.next m3.next m2.next) hlf (by omega) ?_ (by omega) (fun x hx => ?_) (fun c hc => by rcases hc with h | h | h <;> omega) (hu.mono e25).il (fun c hc hx => by have := hub c hc; have := nX c hx; omega)
      (fun m0 e0 => turnEach hlf (by omega) (by omega) (by omega) (by omega) (by omega) (by omega) ((e0.kept _ (by omega)).trans q15) (by omega) (by omega) (by omega) h1 h7 (by have := e0.next; omega)) (fun d a b e h => h.mono e) ⟨q5, q45, by rw [range8_zero]; exact q35⟩ fun m6 e6 hJ => ?_
    · unfold ci
      rw [List.pairwise_map]
      exact List.pairwise_lt_range.imp fun h => by omega
    · unfold ci at hx
      obtain ⟨y, hy, rfl⟩ := List.mem_map.1 hx
      have := List.mem_range.1 hy
      exact ⟨by omega, by omega⟩
    rw [show (n + (29 - i)) + (ci (List.range i)).length + (8 + 2) = n + 39 by rw [hl]; omega]
    rw [hl] at hJ
    obtain ⟨jg, jc, jb⟩ := hJ
    have n6 := e6.next
    have q16 := (e6.kept m.next (by omega) (fun h => by have := nX _ h; omega)).trans q15
    have hcn := all_cnt i
    rw [hcn] at jc
    have ldp : ∀ (M : Mem) (b : Nat) (v : Value) (K : Value → Option Unit), M.rd b = some ⟨1, [v], none⟩ → oOpt (ld1 M (ptrTo b)) K = K v := fun M b v K h => by
      show oOpt (ld1 M (.pointer (some ⟨b, 0, none⟩))) K = _
      rw [ld1_u, h]; exact oOpt_e _ _
    rw [ldp _ _ _ _ jg, show aun .not (.bool true) = some (.bool false) from rfl, oOpt_e, oIf_f, ldp _ _ _ _ q16]
    have hin : inI (i : Int) 1 9 := ⟨by omega, by omega⟩
    refine loop_up i (fun j vs m' => vs = [.int .i64 (j : Int)] ∧ Gt m6 m') (by omega) ⟨rfl, Gt.refl _⟩ ?_
    rintro j vs m7 hj ⟨rfl, e7⟩ self hself
    have n7 := e7.next
    have q17 := (e7.kept _ (by omega)).trans q16
    rw [uc_e, oInt_lss]
    refine oIf_dec (fun h2 => ?_) (fun h2 => ?_)
    · have hji : j < i := by omega
      rw [ldp _ _ _ _ q17]
      refine begin_sp hlf (by omega) ⟨by omega, by omega⟩ fun m8 e8 => ?_
      have hbE : begE (i : Int) (j : Int) = 0 := by unfold begE; rw [if_pos ⟨hin, by omega, by omega⟩]
      have hbX : begX (i : Int) (j : Int) = (triN i j : Int) := by unfold begX; rw [if_pos ⟨hin, by omega, by omega⟩, Int.toNat_natCast, Int.toNat_natCast]
      rw [hbE, hbX]
      try simp (disch := first | omega | with_unfolding_all exact id rfl | with_unfolding_all exact Nat.le_of_ble_eq_true rfl | (simp only [Jd, Je, Jr, Js, Jt, Nat.reduceAdd, allOne, oneCell, Bool.and_self, Jc]; first | done | omega)) only [neqb, ↓Qa, ↓Qb, Qd, Qe, Qf, Qg, Qh, Qi, Qj, Qk, Ql, Qm, Qn, Qo, Qp, Qq, Qr, Qs, Qt, Qu, Qv, Qw, Qx, Qy, ptrTo, Qz, QA, QB, QC, QD, QE, QF, QG, QH, QI, QJ, QK, QL, QM, QN, QO, QP, QQ, QR, QS, QT, QU, QV, QW, QX, QY, QZ, Ja, Jb, Jc, Jd, Je, Jf, Jg, Jh, Ji, Jj, Jk, Jl, Jm, Jn, Jo, Jp, Jq, Jr, Js, Jt, Nat.reduceAdd]
      rw [join_e]
      have jb8 := ((e7.trans e8).kept _ (by omega)).trans jb
      have hi0 : iaA 8 1 (ptrTo m2.next) (.int .i64 (j : Int)) = some (.pointer (some ⟨m2.next, j, none⟩)) := by
        have := iaA_u (b := m2.next) (n := 8) (o := 0) (i := j) (by omega)
        rwa [Nat.zero_add] at this
      have hldb : rdo (m8.rd m2.next) j = some (.int .i64 (triN i j : Int)) := by
        rw [jb8, ← all_cntK hji]
        show ((List.range 8).map fun k => Value.int .i64 (cntK k (allR i [] (ci (List.range i))) : Int))[j]? = _
        rw [List.getElem?_map, List.getElem?_range (by omega)]; rfl
      rw [show ptrTo m2.next = Value.pointer (some ⟨m2.next, 0, none⟩) from rfl] at hi0
      rw [hi0, oOpt_e, ld1_u, hldb, oOpt_e, oInt_neq]
      show oIf (.bool (!decide ((triN i j : Int) = (triN i j : Int)))) _ _ = _
      rw [neqb, Bool.not_true, oIf_f, oInt_add ⟨by omega, by omega⟩]
      exact hself hji _ _ ⟨rfl, e7.trans e8⟩
    · have hji : j = i := by omega
      subst hji
      clear hself
      have jc7 := (e7.kept _ (by omega)).trans jc
      have hcb9 := cnt_bd (n := j) (m := j) (b := []) (by omega) (by omega)
      have hcX : cntX (j : Int) = (cntR j j [] : Int) := by unfold cntX; rw [if_pos hin, Int.toNat_natCast]
      have hcE : cntE (j : Int) = 0 := by unfold cntE; rw [if_pos hin]
      have hbE : begE ((j : Int) + ((1 : Nat) : Int)) 0 = 0 := by unfold begE; rw [if_pos ⟨⟨by omega, by omega⟩, by omega, by omega⟩]
      have hbX : begX ((j : Int) + ((1 : Nat) : Int)) 0 = (cntR j j [] : Int) := by
        unfold begX
        rw [if_pos ⟨⟨by omega, by omega⟩, by omega, by omega⟩, show ((j : Int) + ((1 : Nat) : Int)).toNat = j + 1 by omega, show (0 : Int).toNat = 0 from rfl, tri_first h1 h7]
      have haE : atE (j : Int) (cntR j j [] : Int) = 1 := by unfold atE; rw [if_neg (fun h => by have := h.2.2; rw [hcX] at this; omega)]
      have hbE2 : begE (j : Int) (j : Int) = 1 := by unfold begE; rw [if_neg (fun h => by have := h.2.2; omega)]
      rw [ldp _ _ _ _ q17]
      refine count_sp hlf (by omega) fun m8 e8 => ?_
      have n8 := e8.next
      rw [hcX, hcE]
      have q18 := (e8.kept _ (by omega)).trans q17
      rw [aex0, oOpt_e, aex1, oOpt_e, ldp _ _ _ _ q18, oInt_add ⟨by omega, by omega⟩]
      refine begin_sp hlf (by omega) ⟨by omega, by omega⟩ fun m9 e9 => ?_
      have n9 := e9.next
      rw [hbE, hbX]
      have q19 := (e9.kept _ (by omega)).trans q18
      have jc9 := ((e8.trans e9).kept _ (by omega)).trans jc7
      rw [aex0, oOpt_e, aex1, oOpt_e, ldp _ _ _ _ q19, ldp _ _ _ _ jc9]
      refine at_sp hlf (by omega) fun u10 m10 e10 _ => ?_
      have n10 := e10.next
      rw [haE]
      have q110 := (e10.kept _ (by omega)).trans q19
      rw [aex0, oOpt_e, aex1, oOpt_e, ldp _ _ _ _ q110, ldp _ _ _ _ q110]
      refine begin_sp hlf (by omega) ⟨by omega, by omega⟩ fun m11 e11 => ?_
      have n11 := e11.next
      rw [hbE2]
      have jc11 := ((e10.trans e11).kept _ (by omega)).trans jc9
      have E11 : Gt m m11 := by
        have e06 : Gt m m6 := GtX.gt ((e1.trans e2).trans e25) e6 fun c hc => by have := nX c hc; omega
        exact ((((e06.trans e7).trans e8).trans e9).trans e10).trans e11
      have hl9 : ld1 m11 (ptrTo m3.next) = some (.int .i64 (cntR j j [] : Int)) := by
        show ld1 m11 (.pointer (some ⟨m3.next, 0, none⟩)) = _
        rw [ld1_u, jc11]; rfl
      have hl9' : rdo (m11.rd m3.next) 0 = some (.int .i64 (cntR j j [] : Int)) := by rw [jc11]; rfl
      try simp (disch := first | omega | with_unfolding_all exact id rfl | with_unfolding_all exact Nat.le_of_ble_eq_true rfl | (simp only [Jd, Je, Jr, Js, Jt, Nat.reduceAdd, allOne, oneCell, Bool.and_self, Jc]; first | done | omega)) only [neqb, hl9, hl9', ↓Qa, ↓Qb, Qd, Qe, Qf, Qg, Qh, Qi, Qj, Qk, Ql, Qm, Qn, Qo, Qp, Qq, Qr, Qs, Qt, Qu, Qv, Qw, Qx, Qy, ptrTo, Qz, QA, QB, QC, QD, QE, QF, QG, QH, QI, QJ, QK, QL, QM, QN, QO, QP, QQ, QR, QS, QT, QU, QV, QW, QX, QY, QZ, Ja, Jb, Jc, Jd, Je, Jf, Jg, Jh, Ji, Jj, Jk, Jl, Jm, Jn, Jo, Jp, Jq, Jr, Js, Jt, Nat.reduceAdd]
      repeat (rw [join_e]; try simp (disch := first | omega | with_unfolding_all exact id rfl | with_unfolding_all exact Nat.le_of_ble_eq_true rfl | (simp only [Jd, Je, Jr, Js, Jt, Nat.reduceAdd, allOne, oneCell, Bool.and_self, Jc]; first | done | omega)) only [neqb, hl9, hl9', ↓Qa, ↓Qb, Qd, Qe, Qf, Qg, Qh, Qi, Qj, Qk, Ql, Qm, Qn, Qo, Qp, Qq, Qr, Qs, Qt, Qu, Qv, Qw, Qx, Qy, ptrTo, Qz, QA, QB, QC, QD, QE, QF, QG, QH, QI, QJ, QK, QL, QM, QN, QO, QP, QQ, QR, QS, QT, QU, QV, QW, QX, QY, QZ, Ja, Jb, Jc, Jd, Je, Jf, Jg, Jh, Ji, Jj, Jk, Jl, Jm, Jn, Jo, Jp, Jq, Jr, Js, Jt, Nat.reduceAdd])
      rw [r15]
      exact SClosed_sp (cK := runT (tab lf) (n + 39)) (L := L) (hT.mono E11) (hk _ E11)
end
end Go.Vit
