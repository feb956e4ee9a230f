/- Walks: the number of a turning order, both ways. -/
import Derived.Test.YtffomiamkiakcaaW20
set_option linter.unusedSimpArgs false
set_option linter.unusedVariables false
set_option maxRecDepth 20000
namespace Go.Vit
open Go Go.Proofs
attribute [local irreducible] runT loopS
def numX (l : List Int) : Int := if chkO l = 0 then (if trnX l = true then (numN (l.map Int.toNat) l.length : Int) else 0) else 0
def numE (l : List Int) : Int := if chkO l = 0 then (if trnX l = true then 0 else 12) else chkO l
theorem take_snoc {b : List Nat} {i : Nat} (h : i < b.length) : b.take (i + 1) = b.take i ++ [b[i]] := by rw [List.take_add_one, List.getElem?_eq_getElem h]; rfl
theorem filter_lt_succ {L : List Nat} (hs : L.Pairwise (· < ·)) (x : Nat) : L.filter (fun y => decide (y < x + 1)) = L.filter (fun y => decide (y < x)) ++ (if x ∈ L then [x] else []) := by
  by_cases hm : x ∈ L
  · rw [if_pos hm]
    obtain ⟨A, D, e, _⟩ := List.eq_append_cons_of_mem hm
    subst e
    rw [List.pairwise_append] at hs
    obtain ⟨_, h2, h3⟩ := hs
    have hA : ∀ y ∈ A, y < x := fun y hy => h3 y hy x (by simp)
    have hD : ∀ y ∈ D, x < y := fun y hy => (List.pairwise_cons.1 h2).1 y hy
    rw [List.filter_append, List.filter_append, List.filter_cons_of_pos (by simp), List.filter_cons_of_neg (by simp)]
    rw [List.filter_eq_self.2 fun y hy => decide_eq_true (show y < x + 1 by have := hA y hy; omega), List.filter_eq_self.2 fun y hy => decide_eq_true (hA y hy), List.filter_eq_nil_iff.2 fun y hy => by
      have := hD y hy
      simp; omega, List.filter_eq_nil_iff.2 fun y hy => by
      have := hD y hy
      simp; omega]
    simp
  · rw [if_neg hm, List.append_nil]
    refine List.filter_congr fun y hy => ?_
    have : x ≠ y := fun h => hm (h ▸ hy)
    exact decide_eq_decide.2 (by omega)
section
variable {lf L : Nat}
set_option maxHeartbeats 4000000 in
theorem num_sp {n : Nat} {m : Mem} {v : Value} {l : List Int} {k : Value → Mem → Option Unit} (hlf : 1000000 ≤ lf) (hL : L ≤ m.next) (hv : IL m v l) (ho : Opn v) (hl : l.length < 1000) (hk : ∀ m', Gt m m' → k (.tuple ⟨[.int .i64 (numX l), .int .i64 (numE l)]⟩) m' = some ()) : runT (tab lf) (n + 6) 43 [v] L m k = some () := by
  rw [r43]; dsimp only [S43, iofNat, inegSucc]
  unfold numX numE at hk
  rw [uc_e, un0_e]
  refine turning_sp hlf hL hv ho hl fun m1 e1 => ?_
  have n1 := e1.next
  by_cases h : chkO l = 0
  · simp only [if_pos h] at hk
    rw [h]
    obtain ⟨b, rfl, hnd, hlt, h1, h9⟩ := chkO_ok h
    rw [toNat_ci, ci_length] at hk
    have htx : trnX (ci b) = trnB true b := by unfold trnX; rw [if_pos h, toNat_ci]
    rw [htx] at hk ⊢
    cases ht : trnB true b with
    | false =>
      rw [ht] at hk
      simp only [Bool.false_eq_true, if_false] at hk
      try simp (disch := first | omega | with_unfolding_all exact id rfl | with_unfolding_all exact Nat.le_of_ble_eq_true rfl | (simp only [Jd, Je, Jr, Js, Jt, Nat.reduceAdd, allOne, oneCell, Bool.and_self, Jc]; first | done | omega)) only [show decide ((0 : Int) = 0) = true from rfl, ↓Qa, ↓Qb, ↓Qc, Qd, Qe, Qf, Qg, Qh, Qi, Qj, Qk, Ql, Qm, Qn, Qo, Qp, Qq, Qr, Qs, Qt, Qu, Qv, Qw, Qx, Qy, ptrTo, Qz, QA, QB, QC, QD, QE, QF, QG, QH, QI, QJ, QK, QL, QM, QN, QO, QP, QQ, QR, QS, QT, QU, QV, QW, QX, QY, QZ, Ja, Jb, Jc, Jd, Je, Jf, Jg, Jh, Ji, Jj, Jk, Jl, Jm, Jn, Jo, Jp, Jq, Jr, Js, Jt, Nat.reduceAdd]
      exact hk m1 e1
    | true =>
      rw [ht] at hk
      simp only [if_true] at hk
      have hln := hv.ln
      rw [ci_length] at hln
      try simp (disch := first | omega | with_unfolding_all exact id rfl | with_unfolding_all exact Nat.le_of_ble_eq_true rfl | (simp only [Jd, Je, Jr, Js, Jt, Nat.reduceAdd, allOne, oneCell, Bool.and_self, Jc]; first | done | omega)) only [show decide ((0 : Int) = 0) = true from rfl, hln, ↓Qa, ↓Qb, ↓Qc, Qd, Qe, Qf, Qg, Qh, Qi, Qj, Qk, Ql, Qm, Qn, Qo, Qp, Qq, Qr, Qs, Qt, Qu, Qv, Qw, Qx, Qy, ptrTo, Qz, QA, QB, QC, QD, QE, QF, QG, QH, QI, QJ, QK, QL, QM, QN, QO, QP, QQ, QR, QS, QT, QU, QV, QW, QX, QY, QZ, Ja, Jb, Jc, Jd, Je, Jf, Jg, Jh, Ji, Jj, Jk, Jl, Jm, Jn, Jo, Jp, Jq, Jr, Js, Jt, Nat.reduceAdd]
      refine begun_sp hlf (by omega) h1 h9 fun bb m2 e2 hb1 hb2 hR2 => ?_
      have n2 := e2.next
      have han : ∀ a : Addr, anil (.pointer (some a)) = some (.pointer (some a)) := fun _ => rfl
      try rw [hln]
      try rw [oOpt_e]
      refine loop_up b.length (fun i vs m' => vs = [.int .i64 (numN b i : Int), .int .i64 (lastI (b.take i)), .int .i64 (i : Int)] ∧ Gt m1 m' ∧ m2.next ≤ m'.next ∧ Rst m1.next bb b.length (lft b.length (b.take i)) (oddB i) m') (by omega) ⟨rfl, e2, Nat.le_refl _, by
        show Rst m1.next bb b.length (lft b.length []) (oddB 0) m2
        rw [lft_nil]; exact hR2⟩ ?_
      rintro i vs m3 hi ⟨rfl, e3, n3, hR3⟩ self hself
      have hv3 := hv.mono (e1.trans e3)
      rw [uc_e, uc_e, uc_e, oInt_lss]
      refine oIf_dec (fun h2 => ?_) (fun h2 => ?_)
      · have hil : i < b.length := by omega
        have hcil : i < (ci b).length := by rw [ci_length]; exact hil
        rw [hv3.ia hcil, oOpt_e, hv3.ld hcil, oOpt_e, ci_getE b hil]
        obtain ⟨A, D, g1, g2, g3, g4⟩ := lft_at hnd hlt hil
        have htk : (b.take i).length = i := by rw [List.length_take]; omega
        have hti : trnB true (b.take i) = true := trn_pre i b.length (by omega) (by rw [List.take_length]; exact ht)
        have hnst := numN_step hil g2
        have hnb := numN_bd h9 i
        have hlm : (lft b.length (b.take i)).length = (b.length - i - 1) + 1 := by rw [g1]; simp; omega
        have hAl : A.length ≤ 9 := by omega
        have hfb : ∀ q, sm1 (fun x => cntR b.length (b.length - i - 1) (b.take i ++ [x])) (A.take q) ≤ 9 * 387420489 := fun q => by
          have h1 := sm1_le (f := fun x => cntR b.length (b.length - i - 1) (b.take i ++ [x])) (A.take q) fun x _ => cnt_bd h9 (by omega)
          have h2 : (A.take q).length ≤ 9 := by rw [List.length_take]; omega
          exact Nat.le_trans h1 (Nat.mul_le_mul_right _ h2)
        refine loop_up A.length (fun q vs m' => vs = [.int .i64 ((numN b i + sm1 (fun x => cntR b.length (b.length - i - 1) (b.take i ++ [x])) (A.take q) : Nat) : Int), .int .i64 (q : Int)] ∧ Gt m3 m') (by omega) ⟨rfl, Gt.refl _⟩ ?_
        rintro q vs m4 hq ⟨rfl, e4⟩ self2 hself2
        have n4 := e4.next
        have hR4 := hR3.mono e4
        have hil4 := hR4.il
        have hql : q < (lft b.length (b.take i)).length := by rw [g1]; simp; omega
        have hcql : q < (ci (lft b.length (b.take i))).length := by rw [ci_length]; exact hql
        have c0 : rdo (m4.rd m1.next) 0 = some (.slice (some ⟨bb, 0, none⟩) (lft b.length (b.take i)).length b.length) := by rw [hR4.qr]; rfl
        have hfa : fa 0 (.pointer (some ⟨m1.next, 0, none⟩)) = some (.pointer (some ⟨m1.next, 0 + 0, none⟩)) := fa_e ..
        have hfbq := hfb q
        rw [uc_e, uc_e, han, oOpt_e, hfa, oOpt_e, ld1_u, Nat.zero_add, c0, oOpt_e, hil4.ia hcql, oOpt_e, hil4.ld hcql, oOpt_e, ci_getE _ hql, oInt_neq]
        by_cases hqA : q < A.length
        · have hge : (lft b.length (b.take i))[q] = A[q] := by simp only [g1]; exact List.getElem_append_left hqA
          have hne := g3 _ (List.getElem_mem hqA)
          have hsp : lft b.length (b.take i) = A.take q ++ A[q] :: (A.drop (q + 1) ++ b[i] :: D) := by
            have hd : A = A.take q ++ A[q] :: A.drop (q + 1) := by rw [← List.drop_eq_getElem_cons hqA, List.take_append_drop]
            have hd2 : A ++ b[i] :: D = (A.take q ++ A[q] :: A.drop (q + 1)) ++ b[i] :: D := congrArg (· ++ b[i] :: D) hd
            rw [g1, hd2, List.append_assoc]; rfl
          have htl : (A.take q).length = q := by rw [List.length_take]; omega
          have hcn := cnt_next hti hlm hsp
          have hst : sm1 (fun x => cntR b.length (b.length - i - 1) (b.take i ++ [x])) (A.take (q + 1)) = sm1 (fun x => cntR b.length (b.length - i - 1) (b.take i ++ [x])) (A.take q) + cntR b.length (b.length - i - 1) (b.take i ++ [A[q]]) := by
            rw [List.take_add_one, List.getElem?_eq_getElem hqA, Option.toList_some, sm1_app]; rfl
          rw [hst] at hself2
          have hadd : ∀ K : Value → Option Unit, oInt .add .i64 (.int .i64 (q : Int)) (.int .i64 1) K = K (.int .i64 ((q + 1 : Nat) : Int)) := fun K => by rw [oInt_add ⟨by omega, by omega⟩]; rfl
          rw [decide_eq_false (show ¬ (((lft b.length (b.take i))[q] : Nat) : Int) = (b[i] : Int) by rw [hge]; omega), Bool.not_false, oIf_t]
          refine goes_sp hR4 hql ?_
          have hgo : goesX (lastI (b.take i)) (lft b.length (b.take i))[q] (oddB i) = goesB (b.take i) A[q] := by
            have := goes_eq (b := b.take i) (y := A[q])
            rw [htk] at this
            rw [hge]; exact this
          rw [hgo]
          cases hg : goesB (b.take i) A[q] with
          | false =>
            have hz : cntR b.length (b.length - i - 1) (b.take i ++ [A[q]]) = 0 := by rw [hcn]; unfold nxt; rw [hg, if_neg (by simp)]
            rw [hz, Nat.add_zero] at hself2
            try simp (disch := first | omega | with_unfolding_all exact id rfl | with_unfolding_all exact Nat.le_of_ble_eq_true rfl | (simp only [Jd, Je, Jr, Js, Jt, Nat.reduceAdd, allOne, oneCell, Bool.and_self, Jc]; first | done | omega)) only [↓Qa, ↓Qb, ↓Qc, Qd, Qe, Qf, Qg, Qh, Qi, Qj, Qk, Ql, Qm, Qn, Qo, Qp, Qq, Qr, Qs, Qt, Qu, Qv, Qw, Qx, Qy, ptrTo, Qz, QA, QB, QC, QD, QE, QF, QG, QH, QI, QJ, QK, QL, QM, QN, QO, QP, QQ, QR, QS, QT, QU, QV, QW, QX, QY, QZ, Ja, Jb, Jc, Jd, Je, Jf, Jg, Jh, Ji, Jj, Jk, Jl, Jm, Jn, Jo, Jp, Jq, Jr, Js, Jt, Nat.reduceAdd]
            rw [hadd]
            exact hself2 hqA _ _ ⟨rfl, e4⟩
          | true =>
            try simp (disch := first | omega | with_unfolding_all exact id rfl | with_unfolding_all exact Nat.le_of_ble_eq_true rfl | (simp only [Jd, Je, Jr, Js, Jt, Nat.reduceAdd, allOne, oneCell, Bool.and_self, Jc]; first | done | omega)) only [↓Qa, ↓Qb, ↓Qc, Qd, Qe, Qf, Qg, Qh, Qi, Qj, Qk, Ql, Qm, Qn, Qo, Qp, Qq, Qr, Qs, Qt, Qu, Qv, Qw, Qx, Qy, ptrTo, Qz, QA, QB, QC, QD, QE, QF, QG, QH, QI, QJ, QK, QL, QM, QN, QO, QP, QQ, QR, QS, QT, QU, QV, QW, QX, QY, QZ, Ja, Jb, Jc, Jd, Je, Jf, Jg, Jh, Ji, Jj, Jk, Jl, Jm, Jn, Jo, Jp, Jq, Jr, Js, Jt, Nat.reduceAdd]
            refine ways_sp hlf (by omega) hR4 hql (by omega) fun m5 e5 => ?_
            have hwe := ways_eq hlm hsp hg
            rw [htl, ← hcn, htk] at hwe
            have hcb := cnt_bd (n := b.length) (m := b.length - i - 1) (b := b.take i ++ [A[q]]) h9 (by omega)
            rw [hwe, oInt_addN (by omega)]
            try simp (disch := first | omega | with_unfolding_all exact id rfl | with_unfolding_all exact Nat.le_of_ble_eq_true rfl | (simp only [Jd, Je, Jr, Js, Jt, Nat.reduceAdd, allOne, oneCell, Bool.and_self, Jc]; first | done | omega)) only [↓Qa, ↓Qb, ↓Qc, Qd, Qe, Qf, Qg, Qh, Qi, Qj, Qk, Ql, Qm, Qn, Qo, Qp, Qq, Qr, Qs, Qt, Qu, Qv, Qw, Qx, Qy, ptrTo, Qz, QA, QB, QC, QD, QE, QF, QG, QH, QI, QJ, QK, QL, QM, QN, QO, QP, QQ, QR, QS, QT, QU, QV, QW, QX, QY, QZ, Ja, Jb, Jc, Jd, Je, Jf, Jg, Jh, Ji, Jj, Jk, Jl, Jm, Jn, Jo, Jp, Jq, Jr, Js, Jt, Nat.reduceAdd]
            rw [hadd, Nat.add_assoc]
            exact hself2 hqA _ _ ⟨rfl, e4.trans e5⟩
        · have hqe : q = A.length := by omega
          subst hqe
          have hge : (lft b.length (b.take i))[A.length] = b[i] := by simp only [g1]; simp
          rw [decide_eq_true (show (((lft b.length (b.take i))[A.length] : Nat) : Int) = (b[i] : Int) by rw [hge]), Bool.not_true, oIf_f]
          refine take_sp hlf (by omega) (by omega) h9 hR4 hql fun m6 e6 hR6 => ?_
          have n6 := e6.next
          rw [oInt_add ⟨by omega, by omega⟩, List.take_of_length_le (Nat.le_refl _), ← hnst, hge]
          refine hself hil _ _ ⟨?_, ⟨by omega, fun c hc => ?_⟩, by omega, ?_⟩
          · rw [take_snoc hil, lastI_snoc]; rfl
          · rw [e6.kept c (by omega) (fun hx => by rcases hx with h | h <;> omega), e4.kept c (by omega)]
            exact e3.kept c hc
          · have hlsn := lft_snoc g1
            rw [take_snoc hil, hlsn, oddB_succ]
            have hel : (lft b.length (b.take i)).eraseIdx A.length = A ++ D := by rw [g1, List.eraseIdx_append_of_length_le (Nat.le_refl _)]; simp
            rw [hel] at hR6
            exact hR6
      · have hin : i = b.length := by omega
        subst hin
        exact hk _ (e1.trans e3)
  · simp only [if_neg h] at hk
    try simp (disch := first | omega | with_unfolding_all exact id rfl | with_unfolding_all exact Nat.le_of_ble_eq_true rfl | (simp only [Jd, Je, Jr, Js, Jt, Nat.reduceAdd, allOne, oneCell, Bool.and_self, Jc]; first | done | omega)) only [decide_eq_false h, ↓Qa, ↓Qb, ↓Qc, Qd, Qe, Qf, Qg, Qh, Qi, Qj, Qk, Ql, Qm, Qn, Qo, Qp, Qq, Qr, Qs, Qt, Qu, Qv, Qw, Qx, Qy, ptrTo, Qz, QA, QB, QC, QD, QE, QF, QG, QH, QI, QJ, QK, QL, QM, QN, QO, QP, QQ, QR, QS, QT, QU, QV, QW, QX, QY, QZ, Ja, Jb, Jc, Jd, Je, Jf, Jg, Jh, Ji, Jj, Jk, Jl, Jm, Jn, Jo, Jp, Jq, Jr, Js, Jt, Nat.reduceAdd]
    exact hk m1 e1
set_option maxHeartbeats 4000000 in
theorem rnum_sp {n : Nat} {m : Mem} {v : Value} {l : List Int} {k : Value → Mem → Option Unit} (hlf : 1000000 ≤ lf) (hL : L ≤ m.next) (hv : IL m v l) (ho : Opn v) (hl : l.length < 1000) (hk : ∀ m', Gt m m' → k (.tuple ⟨[.int .i64 (numX l), .int .i64 (numE l)]⟩) m' = some ()) : runT (tab lf) (n + 13) 44 [v] L m k = some () := by
  rw [r44]; dsimp only [S44, iofNat, inegSucc]
  unfold numX numE at hk
  rw [uc_e, un0_e]
  refine rturning_sp hlf hv ho hl ?_
  by_cases h : chkO l = 0
  · simp only [if_pos h] at hk
    rw [h]
    obtain ⟨b, rfl, hnd, hlt, h1, h9⟩ := chkO_ok h
    rw [toNat_ci, ci_length] at hk
    have htx : trnX (ci b) = trnB true b := by unfold trnX; rw [if_pos h, toNat_ci]
    rw [htx] at hk ⊢
    have hln := hv.ln
    rw [ci_length] at hln
    cases ht : trnB true b with
    | false =>
      rw [ht] at hk
      simp only [Bool.false_eq_true, if_false] at hk
      try simp (disch := first | omega | with_unfolding_all exact id rfl | with_unfolding_all exact Nat.le_of_ble_eq_true rfl | (simp only [Jd, Je, Jr, Js, Jt, Nat.reduceAdd, allOne, oneCell, Bool.and_self, Jc]; first | done | omega)) only [show decide ((0 : Int) = 0) = true from rfl, show decide ((12 : Int) = 0) = false from rfl, ↓Qa, ↓Qb, ↓Qc, Qd, Qe, Qf, Qg, Qh, Qi, Qj, Qk, Ql, Qm, Qn, Qo, Qp, Qq, Qr, Qs, Qt, Qu, Qv, Qw, Qx, Qy, ptrTo, Qz, QA, QB, QC, QD, QE, QF, QG, QH, QI, QJ, QK, QL, QM, QN, QO, QP, QQ, QR, QS, QT, QU, QV, QW, QX, QY, QZ, Ja, Jb, Jc, Jd, Je, Jf, Jg, Jh, Ji, Jj, Jk, Jl, Jm, Jn, Jo, Jp, Jq, Jr, Js, Jt, Nat.reduceAdd]
      exact hk m (Gt.refl _)
    | true =>
      rw [ht] at hk
      simp only [if_true] at hk
      try simp (disch := first | omega | with_unfolding_all exact id rfl | with_unfolding_all exact Nat.le_of_ble_eq_true rfl | (simp only [Jd, Je, Jr, Js, Jt, Nat.reduceAdd, allOne, oneCell, Bool.and_self, Jc]; first | done | omega)) only [show decide ((0 : Int) = 0) = true from rfl, hln, ↓Qa, ↓Qb, ↓Qc, Qd, Qe, Qf, Qg, Qh, Qi, Qj, Qk, Ql, Qm, Qn, Qo, Qp, Qq, Qr, Qs, Qt, Qu, Qv, Qw, Qx, Qy, ptrTo, Qz, QA, QB, QC, QD, QE, QF, QG, QH, QI, QJ, QK, QL, QM, QN, QO, QP, QQ, QR, QS, QT, QU, QV, QW, QX, QY, QZ, Ja, Jb, Jc, Jd, Je, Jf, Jg, Jh, Ji, Jj, Jk, Jl, Jm, Jn, Jo, Jp, Jq, Jr, Js, Jt, Nat.reduceAdd]
      refine loop_up b.length (fun i vs m' => vs = [.int .i64 (numN b i : Int), .int .i64 (i : Int)] ∧ Gt m m') (by omega) ⟨rfl, Gt.refl _⟩ ?_
      rintro i vs m3 hi ⟨rfl, e3⟩ self hself
      have n3 := e3.next
      have hv3 := hv.mono e3
      rw [uc_e, uc_e]
      try rw [hln]
      try rw [oOpt_e]
      rw [oInt_lss]
      refine oIf_dec (fun h2 => ?_) (fun h2 => ?_)
      · have hil : i < b.length := by omega
        have hcil : i < (ci b).length := by rw [ci_length]; exact hil
        obtain ⟨A, D, g1, g2, g3, g4⟩ := lft_at hnd hlt hil
        have hnst := numN_step hil g2
        rw [← g2] at hnst
        have hnb := numN_bd h9 i
        have hs := lft_sorted b.length (b.take i)
        have hbi := hlt _ (List.getElem_mem hil)
        have hfb : ∀ q, sm1 (fun x => cntR b.length (b.length - i - 1) (b.take i ++ [x])) ((lft b.length (b.take i)).filter fun y => decide (y < q)) ≤ 9 * 387420489 := fun q => by
          have h1 := sm1_le (f := fun x => cntR b.length (b.length - i - 1) (b.take i ++ [x])) ((lft b.length (b.take i)).filter fun y => decide (y < q)) fun x _ => cnt_bd h9 (by omega)
          have h2 : ((lft b.length (b.take i)).filter fun y => decide (y < q)).length ≤ 9 := by
            have h3 := List.length_filter_le (fun y => decide (y < q)) (lft b.length (b.take i))
            have h4 : (lft b.length (b.take i)).length ≤ 9 := by rw [g1]; simp; omega
            omega
          exact Nat.le_trans h1 (Nat.mul_le_mul_right _ h2)
        have hf0 : (lft b.length (b.take i)).filter (fun y => decide (y < 0)) = [] := List.filter_eq_nil_iff.2 fun y _ => by simp
        refine loop_up b[i] (fun q vs m' => vs = [.int .i64 ((numN b i + sm1 (fun x => cntR b.length (b.length - i - 1) (b.take i ++ [x])) ((lft b.length (b.take i)).filter fun y => decide (y < q)) : Nat) : Int), .int .i64 (q : Int)] ∧ Gt m3 m') (by omega) ⟨by rw [hf0]; rfl, Gt.refl _⟩ ?_
        rintro q vs m4 hq ⟨rfl, e4⟩ self2 hself2
        have n4 := e4.next
        have hv4 := hv3.mono e4
        have hfbq := hfb q
        have hadd : ∀ K : Value → Option Unit, oInt .add .i64 (.int .i64 (q : Int)) (.int .i64 1) K = K (.int .i64 ((q + 1 : Nat) : Int)) := fun K => by rw [oInt_add ⟨by omega, by omega⟩]; rfl
        rw [uc_e, uc_e, hv4.ia hcil, oOpt_e, hv4.ld hcil, oOpt_e, ci_getE b hil, oInt_lss]
        refine oIf_dec (fun h5 => ?_) (fun h5 => ?_)
        · have hqb : q < b[i] := by omega
          obtain ⟨u, s1, s2⟩ := sl_pre hv4 ho (by rw [ci_length]; omega) (i := i) (by rw [ci_length]; omega)
          rw [ci_take] at s2
          rw [s1, oOpt_e]
          refine has_sp _ hlf s2 (by rw [ci_length, List.length_take]; omega) ?_
          rw [filter_lt_succ hs] at hself2
          by_cases hm : q ∈ b.take i
          · rw [if_neg fun hh => (lft_mem.1 hh).2 hm, List.append_nil] at hself2
            try simp (disch := first | omega | with_unfolding_all exact id rfl | with_unfolding_all exact Nat.le_of_ble_eq_true rfl | (simp only [Jd, Je, Jr, Js, Jt, Nat.reduceAdd, allOne, oneCell, Bool.and_self, Jc]; first | done | omega)) only [decide_eq_true (mem_ci.2 hm), ↓Qa, ↓Qb, ↓Qc, Qd, Qe, Qf, Qg, Qh, Qi, Qj, Qk, Ql, Qm, Qn, Qo, Qp, Qq, Qr, Qs, Qt, Qu, Qv, Qw, Qx, Qy, ptrTo, Qz, QA, QB, QC, QD, QE, QF, QG, QH, QI, QJ, QK, QL, QM, QN, QO, QP, QQ, QR, QS, QT, QU, QV, QW, QX, QY, QZ, Ja, Jb, Jc, Jd, Je, Jf, Jg, Jh, Ji, Jj, Jk, Jl, Jm, Jn, Jo, Jp, Jq, Jr, Js, Jt, Nat.reduceAdd]
            rw [hadd]
            exact hself2 hqb _ _ ⟨rfl, e4⟩
          · rw [if_pos (lft_mem.2 ⟨by omega, hm⟩), sm1_app] at hself2
            have he1 : sm1 (fun x => cntR b.length (b.length - i - 1) (b.take i ++ [x])) [q] = cntR b.length (b.length - i - 1) (b.take i ++ [q]) := rfl
            rw [he1] at hself2
            try simp (disch := first | omega | with_unfolding_all exact id rfl | with_unfolding_all exact Nat.le_of_ble_eq_true rfl | (simp only [Jd, Je, Jr, Js, Jt, Nat.reduceAdd, allOne, oneCell, Bool.and_self, Jc]; first | done | omega)) only [decide_eq_false fun hh => hm (mem_ci.1 hh), ↓Qa, ↓Qb, ↓Qc, Qd, Qe, Qf, Qg, Qh, Qi, Qj, Qk, Ql, Qm, Qn, Qo, Qp, Qq, Qr, Qs, Qt, Qu, Qv, Qw, Qx, Qy, ptrTo, Qz, QA, QB, QC, QD, QE, QF, QG, QH, QI, QJ, QK, QL, QM, QN, QO, QP, QQ, QR, QS, QT, QU, QV, QW, QX, QY, QZ, Ja, Jb, Jc, Jd, Je, Jf, Jg, Jh, Ji, Jj, Jk, Jl, Jm, Jn, Jo, Jp, Jq, Jr, Js, Jt, Nat.reduceAdd]
            try rw [hln]
            try rw [oOpt_e]
            rw [bs220, oRes_e]
            try rw [s1]
            try rw [oOpt_e]
            obtain ⟨w1, x1, u', x2, a1, a2, a3, a4, a5⟩ := app2 (L := L) (L' := L) (m := m4) (q : Int) (by omega) s2 (by rw [ci_length, List.length_take]; omega)
            rw [a1, oRes_e, bs22, oRes_e, a3, oRes_e]
            have nx := a4.next
            have hu := a5.il
            rw [ci_snoc] at hu
            rw [show n + 12 = (n + (10 - (b.length - i - 1))) + (b.length - i - 1) + 2 by omega]
            refine count82_sp hlf h9 (b.length - i - 1) (by rw [List.length_append, List.length_take]; simp; omega) hu (by omega) fun m5 e5 => ?_
            have hcb := cnt_bd (n := b.length) (m := b.length - i - 1) (b := b.take i ++ [q]) h9 (by omega)
            rw [oInt_addN (by omega)]
            try simp (disch := first | omega | with_unfolding_all exact id rfl | with_unfolding_all exact Nat.le_of_ble_eq_true rfl | (simp only [Jd, Je, Jr, Js, Jt, Nat.reduceAdd, allOne, oneCell, Bool.and_self, Jc]; first | done | omega)) only [↓Qa, ↓Qb, ↓Qc, Qd, Qe, Qf, Qg, Qh, Qi, Qj, Qk, Ql, Qm, Qn, Qo, Qp, Qq, Qr, Qs, Qt, Qu, Qv, Qw, Qx, Qy, ptrTo, Qz, QA, QB, QC, QD, QE, QF, QG, QH, QI, QJ, QK, QL, QM, QN, QO, QP, QQ, QR, QS, QT, QU, QV, QW, QX, QY, QZ, Ja, Jb, Jc, Jd, Je, Jf, Jg, Jh, Ji, Jj, Jk, Jl, Jm, Jn, Jo, Jp, Jq, Jr, Js, Jt, Nat.reduceAdd]
            rw [hadd, Nat.add_assoc]
            exact hself2 hqb _ _ ⟨rfl, (e4.trans a4).trans e5⟩
        · have hqb : q = b[i] := by omega
          subst hqb
          rw [oInt_add ⟨by omega, by omega⟩, ← hnst]
          exact hself hil _ _ ⟨rfl, e3.trans e4⟩
      · have hin : i = b.length := by omega
        subst hin
        exact hk _ e3
  · simp only [if_neg h] at hk
    try simp (disch := first | omega | with_unfolding_all exact id rfl | with_unfolding_all exact Nat.le_of_ble_eq_true rfl | (simp only [Jd, Je, Jr, Js, Jt, Nat.reduceAdd, allOne, oneCell, Bool.and_self, Jc]; first | done | omega)) only [decide_eq_false h, ↓Qa, ↓Qb, ↓Qc, Qd, Qe, Qf, Qg, Qh, Qi, Qj, Qk, Ql, Qm, Qn, Qo, Qp, Qq, Qr, Qs, Qt, Qu, Qv, Qw, Qx, Qy, ptrTo, Qz, QA, QB, QC, QD, QE, QF, QG, QH, QI, QJ, QK, QL, QM, QN, QO, QP, QQ, QR, QS, QT, QU, QV, QW, QX, QY, QZ, Ja, Jb, Jc, Jd, Je, Jf, Jg, Jh, Ji, Jj, Jk, Jl, Jm, Jn, Jo, Jp, Jq, Jr, Js, Jt, Nat.reduceAdd]
    exact hk m (Gt.refl _)
end
end Go.Vit
