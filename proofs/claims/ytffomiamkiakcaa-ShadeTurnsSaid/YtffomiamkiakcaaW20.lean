/- Walks: the turning order with a number, as the reference finds it. -/
import Derived.Test.YtffomiamkiakcaaW19
set_option linter.unusedSimpArgs false
set_option linter.unusedVariables false
set_option maxRecDepth 20000
namespace Go.Vit
open Go Go.Proofs
attribute [local irreducible] runT loopS
theorem filter_ge_succ {L : List Nat} (hs : L.Pairwise (· < ·)) (x : Nat) : L.filter (fun y => decide (x ≤ y)) = (if x ∈ L then [x] else []) ++ L.filter (fun y => decide (x + 1 ≤ y)) := by
  induction L with
  | nil => rfl
  | cons z L ih =>
    obtain ⟨h1, h2⟩ := List.pairwise_cons.1 hs
    have ih := ih h2
    by_cases hxz : x = z
    · subst hxz
      have hn : L.filter (fun y => decide (x ≤ y)) = L := List.filter_eq_self.2 fun y hy => decide_eq_true (by have := h1 y hy; omega)
      have hn2 : L.filter (fun y => decide (x + 1 ≤ y)) = L := List.filter_eq_self.2 fun y hy => decide_eq_true (by have := h1 y hy; omega)
      rw [List.filter_cons_of_pos (by simp), List.filter_cons_of_neg (by simp), hn, hn2, if_pos (by simp)]; rfl
    · by_cases hlt : x < z
      · have hnm : ¬ x ∈ z :: L := fun hm => by
          rcases List.mem_cons.1 hm with h | h
          · exact hxz h
          · have := h1 x h; omega
        rw [if_neg hnm, List.nil_append]
        refine List.filter_congr fun y hy => ?_
        have : x ≠ y := fun h => hnm (h ▸ hy)
        exact decide_eq_decide.2 (by omega)
      · rw [List.filter_cons_of_neg (by simp; omega), List.filter_cons_of_neg (by simp; omega), ih]
        by_cases hm : x ∈ L
        · rw [if_pos hm, if_pos (List.mem_cons_of_mem _ hm)]
        · rw [if_neg hm, if_neg fun h => by
            rcases List.mem_cons.1 h with h | h
            · exact hxz h
            · exact hm h]
section
variable {lf L : Nat}
set_option maxHeartbeats 4000000 in
theorem rat_sp {n : Nat} {m : Mem} {c x : Int} {k : Value → Mem → Option Unit} (hlf : 1000000 ≤ lf) (hL : L ≤ m.next) (hk : ∀ u m', Gt m m' → IL m' u (ci (atX c x)) → k (.tuple ⟨[u, .int .i64 (atE c x)]⟩) m' = some ()) : runT (tab lf) (n + 13) 42 [.int .i64 c, .int .i64 x] L m k = some () := by
  rw [r42]; dsimp only [S42, iofNat, inegSucc]
  unfold atX atE at hk
  rw [uc_e, uc_e, un0_e]
  refine rcount_sp hlf hL fun m1 e1 => ?_
  have n1 := e1.next
  unfold cntE
  by_cases h : inI c 1 9
  · rw [if_pos h]
    obtain ⟨N, rfl⟩ : ∃ N : Nat, c = N := ⟨c.toNat, by have := h.1; omega⟩
    have h1 : 1 ≤ N := by have := h.1; omega
    have h9 : N ≤ 9 := by have := h.2; omega
    have hcx : cntX (N : Int) = (cntR N N [] : Int) := by unfold cntX; rw [if_pos h, Int.toNat_natCast]
    have hcb := cnt_bd10 (n := N) (m := N) (b := []) h9 h9
    try simp (disch := first | omega | with_unfolding_all exact id rfl | with_unfolding_all exact Nat.le_of_ble_eq_true rfl | (simp only [Jd, Je, Jr, Js, Jt, Nat.reduceAdd, allOne, oneCell, Bool.and_self, Jc]; first | done | omega)) only [show decide ((0 : Int) = 0) = true from rfl, ↓Qa, ↓Qb, ↓Qc, Qd, Qe, Qf, Qg, Qh, Qi, Qj, Qk, Ql, Qm, Qn, Qo, Qp, Qq, Qr, Qs, Qt, Qu, Qv, Qw, Qx, Qy, ptrTo, Qz, QA, QB, QC, QD, QE, QF, QG, QH, QI, QJ, QK, QL, QM, QN, QO, QP, QQ, QR, QS, QT, QU, QV, QW, QX, QY, QZ, Ja, Jb, Jc, Jd, Je, Jf, Jg, Jh, Ji, Jj, Jk, Jl, Jm, Jn, Jo, Jp, Jq, Jr, Js, Jt, Nat.reduceAdd]
    rw [hcx, oInt_sub ⟨by omega, by omega⟩]
    refine in_sp _ _ _ ?_
    by_cases hx : inI x 0 ((cntR N N [] : Int) - 1)
    · have hok : atOk (N : Int) x := ⟨h, by rw [hcx]; exact hx⟩
      simp only [if_pos hok] at hk
      rw [Int.toNat_natCast] at hk
      obtain ⟨q, rfl⟩ : ∃ q : Nat, x = q := ⟨x.toNat, by have := hx.1; omega⟩
      rw [Int.toNat_natCast] at hk
      have hq : q < cntR N N [] := by have := hx.2; omega
      try simp (disch := first | omega | with_unfolding_all exact id rfl | with_unfolding_all exact Nat.le_of_ble_eq_true rfl | (simp only [Jd, Je, Jr, Js, Jt, Nat.reduceAdd, allOne, oneCell, Bool.and_self, Jc]; first | done | omega)) only [decide_eq_true hx, show decide ((0 : Int) = 0) = true from rfl, ↓Qa, ↓Qb, ↓Qc, Qd, Qe, Qf, Qg, Qh, Qi, Qj, Qk, Ql, Qm, Qn, Qo, Qp, Qq, Qr, Qs, Qt, Qu, Qv, Qw, Qx, Qy, ptrTo, Qz, QA, QB, QC, QD, QE, QF, QG, QH, QI, QJ, QK, QL, QM, QN, QO, QP, QQ, QR, QS, QT, QU, QV, QW, QX, QY, QZ, Ja, Jb, Jc, Jd, Je, Jf, Jg, Jh, Ji, Jj, Jk, Jl, Jm, Jn, Jo, Jp, Jq, Jr, Js, Jt, Nat.reduceAdd]
      refine loop_up N (fun j vs m' => ∃ (b : List Nat) (q' : Nat) (out : Value), vs = [.int .i64 (q' : Int), out] ∧ Gt m1 m' ∧ GL m1.next m' out (ci b) ∧ b.length = j ∧ (lft N b).length + j = N ∧
        trnB true b = true ∧ q' < cntR N (N - j) b ∧ atR N (N - j) b q' = atR N N [] q) (by omega) ⟨[], q, _, rfl, Gt.refl _, GL.nil _ _, rfl, by rw [range_len0]; rfl, rfl, hq, rfl⟩ ?_
      rintro j vs m3 hj ⟨b, q', out, rfl, e3, ho3, hbl, hll, ht, hq', hA⟩ self hself
      have n3 := e3.next
      have hln := ho3.ln
      rw [ci_length] at hln
      rw [uc_e, uc_e, hln, oOpt_e, oInt_lss]
      refine oIf_dec (fun h2 => ?_) (fun h2 => ?_)
      · have hjN : j < N := by omega
        obtain ⟨mm, hmm⟩ : ∃ mm, N - j = mm + 1 := ⟨N - j - 1, by omega⟩
        rw [hmm] at hq' hA
        obtain ⟨A, y, D, q2, g1, g2, g3, g4, g5⟩ := at_step ht hq'
        rw [g4] at hA
        have hcb2 := cnt_bd10 (n := N) (m := mm + 1) (b := b) h9 (by omega)
        have hs := lft_sorted N b
        have hf0 : (lft N b).filter (fun y => decide (0 ≤ y)) = lft N b := List.filter_eq_self.2 fun y _ => decide_eq_true (Nat.zero_le _)
        refine loop_up N (fun i vs m' => ∃ q3 : Nat, vs = [.int .i64 (q3 : Int), .int .i64 (i : Int)] ∧ Gt m3 m' ∧ scanA (fun x => cntR N mm (b ++ [x])) ((lft N b).filter fun y => decide (i ≤ y)) q3 = some (y, q2) ∧ q3 ≤ q') (by omega) ⟨q', rfl, Gt.refl _, by rw [hf0]; exact g2, Nat.le_refl _⟩ ?_
        rintro i vs m4 hi ⟨q3, rfl, e4, hsc, hq3⟩ self2 hself2
        have n4 := e4.next
        have ho4 := ho3.il.mono e4
        have hiN : i < N := by
          refine Nat.lt_of_not_le fun hge => ?_
          have : (lft N b).filter (fun y => decide (i ≤ y)) = [] := List.filter_eq_nil_iff.2 fun y hy => by
            have := (lft_mem.1 hy).1
            simp; omega
          rw [this] at hsc
          cases hsc
        rw [filter_ge_succ hs] at hsc
        have hadd : ∀ K : Value → Option Unit, oInt .add .i64 (.int .i64 (i : Int)) (.int .i64 1) K = K (.int .i64 ((i + 1 : Nat) : Int)) := fun K => by rw [oInt_add ⟨by omega, by omega⟩]; rfl
        rw [uc_e, uc_e]
        refine has_sp _ hlf ho4 (by rw [ci_length]; omega) ?_
        by_cases hm : i ∈ b
        · rw [if_neg fun hh => (lft_mem.1 hh).2 hm, List.nil_append] at hsc
          try simp (disch := first | omega | with_unfolding_all exact id rfl | with_unfolding_all exact Nat.le_of_ble_eq_true rfl | (simp only [Jd, Je, Jr, Js, Jt, Nat.reduceAdd, allOne, oneCell, Bool.and_self, Jc]; first | done | omega)) only [decide_eq_true (mem_ci.2 hm), decide_eq_false (show ¬ (q3 : Int) < 0 by omega), ↓Qa, ↓Qb, ↓Qc, Qd, Qe, Qf, Qg, Qh, Qi, Qj, Qk, Ql, Qm, Qn, Qo, Qp, Qq, Qr, Qs, Qt, Qu, Qv, Qw, Qx, Qy, ptrTo, Qz, QA, QB, QC, QD, QE, QF, QG, QH, QI, QJ, QK, QL, QM, QN, QO, QP, QQ, QR, QS, QT, QU, QV, QW, QX, QY, QZ, Ja, Jb, Jc, Jd, Je, Jf, Jg, Jh, Ji, Jj, Jk, Jl, Jm, Jn, Jo, Jp, Jq, Jr, Js, Jt, Nat.reduceAdd]
          rw [oInt_sub ⟨by omega, by omega⟩]
          try rw [hadd]
          exact hself2 hiN _ _ ⟨q3, by rw [show (q3 : Int) - 0 = (q3 : Int) by omega], e4, hsc, hq3⟩
        · rw [if_pos (lft_mem.2 ⟨hiN, hm⟩)] at hsc
          have hsc2 : (if q3 < cntR N mm (b ++ [i]) then some (i, q3) else scanA (fun x => cntR N mm (b ++ [x])) ((lft N b).filter fun y => decide (i + 1 ≤ y)) (q3 - cntR N mm (b ++ [i]))) = some (y, q2) := hsc
          try simp (disch := first | omega | with_unfolding_all exact id rfl | with_unfolding_all exact Nat.le_of_ble_eq_true rfl | (simp only [Jd, Je, Jr, Js, Jt, Nat.reduceAdd, allOne, oneCell, Bool.and_self, Jc]; first | done | omega)) only [decide_eq_false fun hh => hm (mem_ci.1 hh), ↓Qa, ↓Qb, ↓Qc, Qd, Qe, Qf, Qg, Qh, Qi, Qj, Qk, Ql, Qm, Qn, Qo, Qp, Qq, Qr, Qs, Qt, Qu, Qv, Qw, Qx, Qy, ptrTo, Qz, QA, QB, QC, QD, QE, QF, QG, QH, QI, QJ, QK, QL, QM, QN, QO, QP, QQ, QR, QS, QT, QU, QV, QW, QX, QY, QZ, Ja, Jb, Jc, Jd, Je, Jf, Jg, Jh, Ji, Jj, Jk, Jl, Jm, Jn, Jo, Jp, Jq, Jr, Js, Jt, Nat.reduceAdd]
          rw [bs220, oRes_e]
          obtain ⟨w1, x1, u, x2, a1, a2, a3, a4, a5⟩ := app2 (L := L) (L' := L) (m := m4) (i : Int) (by omega) ho4 (by rw [ci_length]; omega)
          rw [a1, oRes_e, bs22, oRes_e, a3, oRes_e]
          have nx := a4.next
          have hu := a5.il
          rw [ci_snoc] at hu
          rw [show n + 12 = (n + (10 - mm)) + mm + 2 by omega]
          refine count82_sp hlf h9 mm (by simp; omega) hu (by omega) fun m5 e5 => ?_
          have n5 := e5.next
          have e45 := a4.trans e5
          have hcy := cnt_bd10 (n := N) (m := mm) (b := b ++ [i]) h9 (by omega)
          try try simp (disch := first | omega | with_unfolding_all exact id rfl | with_unfolding_all exact Nat.le_of_ble_eq_true rfl | (simp only [Jd, Je, Jr, Js, Jt, Nat.reduceAdd, allOne, oneCell, Bool.and_self, Jc]; first | done | omega)) only [↓Qa, ↓Qb, ↓Qc, Qd, Qe, Qf, Qg, Qh, Qi, Qj, Qk, Ql, Qm, Qn, Qo, Qp, Qq, Qr, Qs, Qt, Qu, Qv, Qw, Qx, Qy, ptrTo, Qz, QA, QB, QC, QD, QE, QF, QG, QH, QI, QJ, QK, QL, QM, QN, QO, QP, QQ, QR, QS, QT, QU, QV, QW, QX, QY, QZ, Ja, Jb, Jc, Jd, Je, Jf, Jg, Jh, Ji, Jj, Jk, Jl, Jm, Jn, Jo, Jp, Jq, Jr, Js, Jt, Nat.reduceAdd]
          try rw [oInt_lss]
          refine oIf_dec (fun h4 => ?_) (fun h4 => ?_)
          · rw [if_pos (show q3 < cntR N mm (b ++ [i]) by omega)] at hsc2
            injection hsc2 with hsc2
            injection hsc2 with hy hq23
            subst hy
            subst hq23
            obtain ⟨out', m7, s1, s2, s3, s4, s5⟩ := GL.snocV (P := Try.prog) (L := L) (m0 := m1) (i : Int) ael22 (by omega) ((ho3.mono e4).mono e45) (by rw [ci_length]; omega) (by omega) ((e3.trans e4).trans e45) (Nat.le_refl _)
            rw [bs22, oRes_e, s1, oRes_e]
            refine hself hjN _ _ ⟨b ++ [i], q3, out', rfl, s3, ?_, by simp [hbl], ?_, g5, ?_, ?_⟩
            · rw [← ci_snoc]; exact s2.le (by omega)
            · have hlsn := lft_snoc g1
              rw [hlsn, List.length_append]
              have : (lft N b).length = A.length + (D.length + 1) := by rw [g1]; simp
              omega
            · rw [show N - (j + 1) = mm by omega]; exact g3
            · rw [show N - (j + 1) = mm by omega]; exact hA
          · rw [if_neg (show ¬ q3 < cntR N mm (b ++ [i]) by omega)] at hsc2
            rw [oInt_sub ⟨by omega, by omega⟩]
            try rw [hadd]
            exact hself2 hiN _ _ ⟨q3 - cntR N mm (b ++ [i]), by rw [show (q3 : Int) - (cntR N mm (b ++ [i]) : Int) = ((q3 - cntR N mm (b ++ [i]) : Nat) : Int) by omega], e4.trans e45, hsc2, by omega⟩
      · have hjN : j = N := by omega
        subst hjN
        rw [Nat.sub_self] at hA
        have hA2 : b = atR j j [] q := hA
        rw [← hA2] at hk
        exact hk _ _ (e1.trans e3) ho3.il
    · have hok : ¬ atOk (N : Int) x := fun hh => hx (by have := hh.2; rw [hcx] at this; exact this)
      simp only [if_neg hok] at hk
      try simp (disch := first | omega | with_unfolding_all exact id rfl | with_unfolding_all exact Nat.le_of_ble_eq_true rfl | (simp only [Jd, Je, Jr, Js, Jt, Nat.reduceAdd, allOne, oneCell, Bool.and_self, Jc]; first | done | omega)) only [decide_eq_false hx, show decide ((1 : Int) = 0) = false from rfl, ↓Qa, ↓Qb, ↓Qc, Qd, Qe, Qf, Qg, Qh, Qi, Qj, Qk, Ql, Qm, Qn, Qo, Qp, Qq, Qr, Qs, Qt, Qu, Qv, Qw, Qx, Qy, ptrTo, Qz, QA, QB, QC, QD, QE, QF, QG, QH, QI, QJ, QK, QL, QM, QN, QO, QP, QQ, QR, QS, QT, QU, QV, QW, QX, QY, QZ, Ja, Jb, Jc, Jd, Je, Jf, Jg, Jh, Ji, Jj, Jk, Jl, Jm, Jn, Jo, Jp, Jq, Jr, Js, Jt, Nat.reduceAdd]
      exact hk _ _ e1 (IL.nil _)
  · have hok : ¬ atOk c x := fun hh => h hh.1
    simp only [if_neg hok] at hk
    rw [if_neg h]
    try simp (disch := first | omega | with_unfolding_all exact id rfl | with_unfolding_all exact Nat.le_of_ble_eq_true rfl | (simp only [Jd, Je, Jr, Js, Jt, Nat.reduceAdd, allOne, oneCell, Bool.and_self, Jc]; first | done | omega)) only [show decide ((1 : Int) = 0) = false from rfl, ↓Qa, ↓Qb, ↓Qc, Qd, Qe, Qf, Qg, Qh, Qi, Qj, Qk, Ql, Qm, Qn, Qo, Qp, Qq, Qr, Qs, Qt, Qu, Qv, Qw, Qx, Qy, ptrTo, Qz, QA, QB, QC, QD, QE, QF, QG, QH, QI, QJ, QK, QL, QM, QN, QO, QP, QQ, QR, QS, QT, QU, QV, QW, QX, QY, QZ, Ja, Jb, Jc, Jd, Je, Jf, Jg, Jh, Ji, Jj, Jk, Jl, Jm, Jn, Jo, Jp, Jq, Jr, Js, Jt, Nat.reduceAdd]
    exact hk _ _ e1 (IL.nil _)
end
end Go.Vit
