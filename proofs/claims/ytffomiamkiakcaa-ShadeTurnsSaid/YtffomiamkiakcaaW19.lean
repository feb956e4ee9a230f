/- Walks: the turning order with a number, both ways. -/
import Derived.Test.YtffomiamkiakcaaW18
import Derived.Test.YtffomiamkiakcaaP10
set_option linter.unusedSimpArgs false
set_option linter.unusedVariables false
set_option maxRecDepth 20000
namespace Go.Vit
open Go Go.Proofs
attribute [local irreducible] runT loopS
def lastI (b : List Nat) : Int := match b.getLast? with
  | none => -1
  | some y => (y : Int)
theorem lastI_snoc (b : List Nat) (x : Nat) : lastI (b ++ [x]) = (x : Int) := by unfold lastI; simp
theorem goes_eq {b : List Nat} {y : Nat} : goesX (lastI b) y (oddB b.length) = goesB b y := by
  unfold goesX lastI goesB
  cases b.getLast? with
  | none => rfl
  | some z =>
    simp only []
    rw [if_neg (by omega), show decide ((z : Int) < (y : Int)) = decide (z < y) from decide_eq_decide.2 (by omega)]
theorem ways_eq {N mm : Nat} {b A D : List Nat} {y : Nat} (hl : (lft N b).length = mm + 1) (he : lft N b = A ++ y :: D) (hg : goesB b y = true) :
    triN (lft N b).length (if oddB b.length = true then (lft N b).length - 1 - A.length else A.length) = nxt b y A D mm := by
  unfold nxt
  rw [if_pos hg, hl]
  have hlen : A.length + D.length = mm := by rw [he] at hl; simp at hl; omega
  split
  · rw [tri_some (by omega)]
    congr 1
    omega
  · rw [tri_some (by omega)]
    congr 1
    omega
def atOk (c x : Int) : Prop := inI c 1 9 ∧ inI x 0 (cntX c - 1)
instance (c x : Int) : Decidable (atOk c x) := inferInstanceAs (Decidable (_ ∧ _))
def atX (c x : Int) : List Nat := if atOk c x then atR c.toNat c.toNat [] x.toNat else []
def atE (c x : Int) : Int := if atOk c x then 0 else 1
theorem range_len0 (N : Nat) : (lft N []).length = N := by rw [lft_nil, List.length_range]
theorem cnt_bd10 {n m : Nat} {b : List Nat} (hn : n ≤ 9) (hm : m ≤ 9) : cntR n m b ≤ 387420489 := cnt_bd hn hm
section
variable {lf L : Nat}
set_option maxHeartbeats 4000000 in
theorem at_sp {n : Nat} {m : Mem} {c x : Int} {k : Value → Mem → Option Unit} (hlf : 1000000 ≤ lf) (hL : L ≤ m.next) (hk : ∀ u m', Gt m m' → IL m' u (ci (atX c x)) → k (.tuple ⟨[u, .int .i64 (atE c x)]⟩) m' = some ()) : runT (tab lf) (n + 4) 41 [.int .i64 c, .int .i64 x] L m k = some () := by
  rw [r41]; dsimp only [S41, iofNat, inegSucc]
  unfold atX atE at hk
  rw [uc_e, uc_e, un0_e]
  refine count_sp hlf hL fun m1 e1 => ?_
  have n1 := e1.next
  unfold cntE
  by_cases h : inI c 1 9
  · rw [if_pos h]
    obtain ⟨N, rfl⟩ : ∃ N : Nat, c = N := ⟨c.toNat, by have := h.1; omega⟩
    have h1 : 1 ≤ N := by have := h.1; omega
    have h9 : N ≤ 9 := by have := h.2; omega
    have hcx : cntX (N : Int) = (cntR N N [] : Int) := by unfold cntX; rw [if_pos h, Int.toNat_natCast]
    have hcb := cnt_bd10 (n := N) (m := N) (b := []) h9 h9
    try simp (disch := first | omega | with_unfolding_all exact id rfl | with_unfolding_all exact Nat.le_of_ble_eq_true rfl | (simp only [Jd, Je, Jr, Js, Jt, Nat.reduceAdd, allOne, oneCell, Bool.and_self, Jc]; first | done | omega)) only [↓Qa, ↓Qb, ↓Qc, Qd, Qe, Qf, Qg, Qh, Qi, Qj, Qk, Ql, Qm, Qn, Qo, Qp, Qq, Qr, Qs, Qt, Qu, Qv, Qw, Qx, Qy, ptrTo, Qz, QA, QB, QC, QD, QE, QF, QG, QH, QI, QJ, QK, QL, QM, QN, QO, QP, QQ, QR, QS, QT, QU, QV, QW, QX, QY, QZ, Ja, Jb, Jc, Jd, Je, Jf, Jg, Jh, Ji, Jj, Jk, Jl, Jm, Jn, Jo, Jp, Jq, Jr, Js, Jt, Nat.reduceAdd]
    rw [hcx, oInt_sub ⟨by omega, by omega⟩]
    refine within_sp _ _ _ ?_
    by_cases hx : inI x 0 ((cntR N N [] : Int) - 1)
    · have hok : atOk (N : Int) x := ⟨h, by rw [hcx]; exact hx⟩
      simp only [if_pos hok] at hk
      rw [Int.toNat_natCast] at hk
      obtain ⟨q, rfl⟩ : ∃ q : Nat, x = q := ⟨x.toNat, by have := hx.1; omega⟩
      rw [Int.toNat_natCast] at hk
      have hq : q < cntR N N [] := by have := hx.2; omega
      try simp (disch := first | omega | with_unfolding_all exact id rfl | with_unfolding_all exact Nat.le_of_ble_eq_true rfl | (simp only [Jd, Je, Jr, Js, Jt, Nat.reduceAdd, allOne, oneCell, Bool.and_self, Jc]; first | done | omega)) only [decide_eq_true hx, ↓Qa, ↓Qb, ↓Qc, Qd, Qe, Qf, Qg, Qh, Qi, Qj, Qk, Ql, Qm, Qn, Qo, Qp, Qq, Qr, Qs, Qt, Qu, Qv, Qw, Qx, Qy, ptrTo, Qz, QA, QB, QC, QD, QE, QF, QG, QH, QI, QJ, QK, QL, QM, QN, QO, QP, QQ, QR, QS, QT, QU, QV, QW, QX, QY, QZ, Ja, Jb, Jc, Jd, Je, Jf, Jg, Jh, Ji, Jj, Jk, Jl, Jm, Jn, Jo, Jp, Jq, Jr, Js, Jt, Nat.reduceAdd]
      refine begun_sp hlf (by omega) h1 h9 fun bb m2 e2 hb1 hb2 hR2 => ?_
      have n2 := e2.next
      have han : ∀ a : Addr, anil (.pointer (some a)) = some (.pointer (some a)) := fun _ => rfl
      refine loop_up N (fun j vs m' => ∃ (b : List Nat) (q' : Nat) (out : Value), vs = [.int .i64 (q' : Int), .int .i64 (lastI b), out, .int .i64 (j : Int)] ∧ Gt m1 m' ∧ m2.next ≤ m'.next ∧ Rst m1.next bb N (lft N b) (oddB b.length) m' ∧ GL m2.next m' out (ci b) ∧ b.length = j ∧ (lft N b).length + j = N ∧
        trnB true b = true ∧ q' < cntR N (N - j) b ∧ atR N (N - j) b q' = atR N N [] q) (by omega) ⟨[], q, _, rfl, e2, Nat.le_refl _, by rw [lft_nil]; exact hR2, GL.nil _ _, rfl, by rw [range_len0]; rfl, rfl, hq, rfl⟩ ?_
      rintro j vs m3 hj ⟨b, q', out, rfl, e3, n3, hR3, ho3, hbl, hll, ht, hq', hA⟩ self hself
      rw [uc_e, uc_e, uc_e, uc_e, oInt_lss]
      refine oIf_dec (fun h2 => ?_) (fun h2 => ?_)
      · have hjN : j < N := by omega
        obtain ⟨mm, hmm⟩ : ∃ mm, N - j = mm + 1 := ⟨N - j - 1, by omega⟩
        rw [hmm] at hq' hA
        obtain ⟨A, y, D, q2, g1, g2, g3, g4, g5⟩ := at_step ht hq'
        rw [g4] at hA
        have hlm : (lft N b).length = mm + 1 := by omega
        have c0 : rdo (m3.rd m1.next) 0 = some (.slice (some ⟨bb, 0, none⟩) (lft N b).length N) := by rw [hR3.qr]; rfl
        rw [han, oOpt_e]
        have hfa : fa 0 (.pointer (some ⟨m1.next, 0, none⟩)) = some (.pointer (some ⟨m1.next, 0 + 0, none⟩)) := fa_e ..
        rw [hfa, oOpt_e, ld1_u, Nat.zero_add, c0, oOpt_e, ln_e, oOpt_e]
        try rw [join_e]
        refine loop_up (lft N b).length (fun i vs m' => ∃ q3 : Nat, vs = [.int .i64 (q3 : Int), .int .i64 (lastI b), out, .int .i64 (i : Int)] ∧ Gt m3 m' ∧ scanA (fun x => cntR N mm (b ++ [x])) ((lft N b).drop i) q3 = some (y, q2) ∧ q3 ≤ q') (by omega) ⟨q', rfl, Gt.refl _, g2, Nat.le_refl _⟩ ?_
        rintro i vs m4 hi ⟨q3, rfl, e4, hsc, hq3⟩ self2 hself2
        have n4 := e4.next
        have hR4 := hR3.mono e4
        have hcb2 := cnt_bd10 (n := N) (m := mm + 1) (b := b) h9 (by omega)
        rw [uc_e, uc_e, uc_e, uc_e, oInt_lss]
        refine oIf_dec (fun h3 => ?_) (fun h3 => ?_)
        · have hil : i < (lft N b).length := by omega
          have hdr : (lft N b).drop i = (lft N b)[i] :: (lft N b).drop (i + 1) := List.drop_eq_getElem_cons hil
          have hsp : lft N b = (lft N b).take i ++ (lft N b)[i] :: (lft N b).drop (i + 1) := by rw [← hdr, List.take_append_drop]
          have htl : ((lft N b).take i).length = i := by rw [List.length_take]; omega
          have hcn := cnt_next ht hlm hsp
          have hsc2 : (if q3 < cntR N mm (b ++ [(lft N b)[i]]) then some ((lft N b)[i], q3) else scanA (fun x => cntR N mm (b ++ [x])) ((lft N b).drop (i + 1)) (q3 - cntR N mm (b ++ [(lft N b)[i]]))) = some (y, q2) := by
            rw [hdr] at hsc; exact hsc
          have hadd : ∀ K : Value → Option Unit, oInt .add .i64 (.int .i64 (i : Int)) (.int .i64 1) K = K (.int .i64 ((i + 1 : Nat) : Int)) := fun K => by rw [oInt_add ⟨by omega, by omega⟩]; rfl
          try rw [join_e]
          refine goes_sp hR4 hil ?_
          rw [goes_eq]
          cases hg : goesB b (lft N b)[i] with
          | false =>
            have h0 : cntR N mm (b ++ [(lft N b)[i]]) = 0 := by rw [hcn]; unfold nxt; rw [hg, if_neg (by simp)]
            rw [h0, if_neg (by omega), Nat.sub_zero] at hsc2
            try simp (disch := first | omega | with_unfolding_all exact id rfl | with_unfolding_all exact Nat.le_of_ble_eq_true rfl | (simp only [Jd, Je, Jr, Js, Jt, Nat.reduceAdd, allOne, oneCell, Bool.and_self, Jc]; first | done | omega)) only [↓Qa, ↓Qb, ↓Qc, Qd, Qe, Qf, Qg, Qh, Qi, Qj, Qk, Ql, Qm, Qn, Qo, Qp, Qq, Qr, Qs, Qt, Qu, Qv, Qw, Qx, Qy, ptrTo, Qz, QA, QB, QC, QD, QE, QF, QG, QH, QI, QJ, QK, QL, QM, QN, QO, QP, QQ, QR, QS, QT, QU, QV, QW, QX, QY, QZ, Ja, Jb, Jc, Jd, Je, Jf, Jg, Jh, Ji, Jj, Jk, Jl, Jm, Jn, Jo, Jp, Jq, Jr, Js, Jt, Nat.reduceAdd]
            rw [hadd]
            exact hself2 hil _ _ ⟨q3, rfl, e4, hsc2, hq3⟩
          | true =>
            try simp (disch := first | omega | with_unfolding_all exact id rfl | with_unfolding_all exact Nat.le_of_ble_eq_true rfl | (simp only [Jd, Je, Jr, Js, Jt, Nat.reduceAdd, allOne, oneCell, Bool.and_self, Jc]; first | done | omega)) only [↓Qa, ↓Qb, ↓Qc, Qd, Qe, Qf, Qg, Qh, Qi, Qj, Qk, Ql, Qm, Qn, Qo, Qp, Qq, Qr, Qs, Qt, Qu, Qv, Qw, Qx, Qy, ptrTo, Qz, QA, QB, QC, QD, QE, QF, QG, QH, QI, QJ, QK, QL, QM, QN, QO, QP, QQ, QR, QS, QT, QU, QV, QW, QX, QY, QZ, Ja, Jb, Jc, Jd, Je, Jf, Jg, Jh, Ji, Jj, Jk, Jl, Jm, Jn, Jo, Jp, Jq, Jr, Js, Jt, Nat.reduceAdd]
            refine ways_sp hlf (by omega) hR4 hil (by omega) fun m5 e5 => ?_
            have n5 := e5.next
            have hwe := ways_eq hlm hsp hg
            rw [htl, ← hcn] at hwe
            rw [hwe, oInt_geq]
            by_cases h4 : q3 < cntR N mm (b ++ [(lft N b)[i]])
            · rw [if_pos h4] at hsc2
              injection hsc2 with hsc2
              injection hsc2 with hy hq23
              rw [decide_eq_false (show ¬ ((cntR N mm (b ++ [(lft N b)[i]]) : Nat) : Int) ≤ (q3 : Int) by omega), oIf_f]
              have hR5 := hR4.mono e5
              refine take_sp hlf (by omega) (by omega) h9 hR5 hil fun m6 e6 hR6 => ?_
              have n6 := e6.next
              have ho6 : GL m2.next m6 out (ci b) := ho3.keep fun c hc hc2 => by
                have hlt := (ho3.bid_lt c hc).2
                rw [e6.kept c (by omega) (fun hx => by rcases hx with h | h <;> omega), e5.kept c (by omega), e4.kept c hlt]
              obtain ⟨out', m7, s1, s2, s3, s4, s5⟩ := GL.snocV (P := Try.prog) (L := L) (m0 := ⟨.e, 0⟩) ((lft N b)[i] : Int) ael22 (by omega) ho6 (by rw [ci_length]; omega) (by omega) (gt0 _) (Nat.zero_le _)
              rw [bs22, oRes_e, s1, oRes_e]
              try simp (disch := first | omega | with_unfolding_all exact id rfl | with_unfolding_all exact Nat.le_of_ble_eq_true rfl | (simp only [Jd, Je, Jr, Js, Jt, Nat.reduceAdd, allOne, oneCell, Bool.and_self, Jc]; first | done | omega)) only [↓Qa, ↓Qb, ↓Qc, Qd, Qe, Qf, Qg, Qh, Qi, Qj, Qk, Ql, Qm, Qn, Qo, Qp, Qq, Qr, Qs, Qt, Qu, Qv, Qw, Qx, Qy, ptrTo, Qz, QA, QB, QC, QD, QE, QF, QG, QH, QI, QJ, QK, QL, QM, QN, QO, QP, QQ, QR, QS, QT, QU, QV, QW, QX, QY, QZ, Ja, Jb, Jc, Jd, Je, Jf, Jg, Jh, Ji, Jj, Jk, Jl, Jm, Jn, Jo, Jp, Jq, Jr, Js, Jt, Nat.reduceAdd]
              rw [oInt_add ⟨by omega, by omega⟩]
              have hkp : ∀ c, c < m2.next → m7.rd c = m6.rd c := fun c hc => s5 c (by omega) fun hh => by have := ho6.fr c hh; omega
              have hlsn := lft_snoc hsp
              rw [hy] at hlsn hsp ⊢
              subst hq23
              refine hself hjN _ _ ⟨b ++ [y], q3, out', ?_, ⟨by omega, fun c hc => ?_⟩, by omega, ?_, ?_, by simp [hbl], ?_, g5, ?_, ?_⟩
              · rw [lastI_snoc]; rfl
              · rw [hkp c (by omega), e6.kept c (by omega) (fun hx => by rcases hx with h | h <;> omega), e5.kept c (by omega), e4.kept c (by omega)]
                exact e3.kept c hc
              · have hel : (lft N b).eraseIdx i = lft N (b ++ [y]) := by rw [hlsn, List.eraseIdx_eq_take_drop_succ]
                have hod : (!oddB b.length) = oddB (b ++ [y]).length := by rw [List.length_append]; exact (oddB_succ _).symm
                rw [← hel, ← hod]
                exact hR6.keep (hkp _ (by omega)) (hkp _ (by omega))
              · rw [← ci_snoc, ← hy]
                exact s2.le (by omega)
              · have : (lft N (b ++ [y])).length = mm := by
                  rw [hlsn, List.length_append, htl, List.length_drop]; omega
                omega
              · rw [show N - (j + 1) = mm by omega]; exact g3
              · rw [show N - (j + 1) = mm by omega]; exact hA
            · rw [if_neg h4] at hsc2
              rw [decide_eq_true (show ((cntR N mm (b ++ [(lft N b)[i]]) : Nat) : Int) ≤ (q3 : Int) by omega), oIf_t, oInt_sub ⟨by omega, by omega⟩]
              try simp (disch := first | omega | with_unfolding_all exact id rfl | with_unfolding_all exact Nat.le_of_ble_eq_true rfl | (simp only [Jd, Je, Jr, Js, Jt, Nat.reduceAdd, allOne, oneCell, Bool.and_self, Jc]; first | done | omega)) only [↓Qa, ↓Qb, ↓Qc, Qd, Qe, Qf, Qg, Qh, Qi, Qj, Qk, Ql, Qm, Qn, Qo, Qp, Qq, Qr, Qs, Qt, Qu, Qv, Qw, Qx, Qy, ptrTo, Qz, QA, QB, QC, QD, QE, QF, QG, QH, QI, QJ, QK, QL, QM, QN, QO, QP, QQ, QR, QS, QT, QU, QV, QW, QX, QY, QZ, Ja, Jb, Jc, Jd, Je, Jf, Jg, Jh, Ji, Jj, Jk, Jl, Jm, Jn, Jo, Jp, Jq, Jr, Js, Jt, Nat.reduceAdd]
              rw [hadd, show (q3 : Int) - (cntR N mm (b ++ [(lft N b)[i]]) : Int) = ((q3 - cntR N mm (b ++ [(lft N b)[i]]) : Nat) : Int) by omega]
              exact hself2 hil _ _ ⟨_, rfl, e4.trans e5, hsc2, by omega⟩
        · rw [List.drop_of_length_le (by omega)] at hsc
          cases hsc
      · have hjN : j = N := by omega
        subst hjN
        rw [Nat.sub_self] at hA
        have hA2 : b = atR j j [] q := hA
        rw [← hA2] at hk
        exact hk _ _ (e1.trans e3) ho3.il
    · have hok : ¬ atOk (N : Int) x := fun hh => hx (by have := hh.2; rw [hcx] at this; exact this)
      simp only [if_neg hok] at hk
      try simp (disch := first | omega | with_unfolding_all exact id rfl | with_unfolding_all exact Nat.le_of_ble_eq_true rfl | (simp only [Jd, Je, Jr, Js, Jt, Nat.reduceAdd, allOne, oneCell, Bool.and_self, Jc]; first | done | omega)) only [decide_eq_false hx, ↓Qa, ↓Qb, ↓Qc, Qd, Qe, Qf, Qg, Qh, Qi, Qj, Qk, Ql, Qm, Qn, Qo, Qp, Qq, Qr, Qs, Qt, Qu, Qv, Qw, Qx, Qy, ptrTo, Qz, QA, QB, QC, QD, QE, QF, QG, QH, QI, QJ, QK, QL, QM, QN, QO, QP, QQ, QR, QS, QT, QU, QV, QW, QX, QY, QZ, Ja, Jb, Jc, Jd, Je, Jf, Jg, Jh, Ji, Jj, Jk, Jl, Jm, Jn, Jo, Jp, Jq, Jr, Js, Jt, Nat.reduceAdd]
      exact hk _ _ e1 (IL.nil _)
  · have hok : ¬ atOk c x := fun hh => h hh.1
    simp only [if_neg hok] at hk
    rw [if_neg h]
    try simp (disch := first | omega | with_unfolding_all exact id rfl | with_unfolding_all exact Nat.le_of_ble_eq_true rfl | (simp only [Jd, Je, Jr, Js, Jt, Nat.reduceAdd, allOne, oneCell, Bool.and_self, Jc]; first | done | omega)) only [decide_eq_false (show ¬ (1 : Int) = 0 by omega), ↓Qa, ↓Qb, ↓Qc, Qd, Qe, Qf, Qg, Qh, Qi, Qj, Qk, Ql, Qm, Qn, Qo, Qp, Qq, Qr, Qs, Qt, Qu, Qv, Qw, Qx, Qy, ptrTo, Qz, QA, QB, QC, QD, QE, QF, QG, QH, QI, QJ, QK, QL, QM, QN, QO, QP, QQ, QR, QS, QT, QU, QV, QW, QX, QY, QZ, Ja, Jb, Jc, Jd, Je, Jf, Jg, Jh, Ji, Jj, Jk, Jl, Jm, Jn, Jo, Jp, Jq, Jr, Js, Jt, Nat.reduceAdd]
    exact hk _ _ e1 (IL.nil _)
end
end Go.Vit
