/- Walks: turning orders told, and counted, as the reference does; orders checked both ways. -/
import Derived.Test.YtffomiamkiakcaaW15
set_option linter.unusedSimpArgs false
set_option linter.unusedVariables false
set_option maxRecDepth 20000
namespace Go.Vit
open Go Go.Proofs
attribute [local irreducible] runT loopS
theorem neqB (x y : Bool) : abin Try.prog .neq 4 (.bool x) (.bool y) = some (.bool (!(x == y))) := by cases x <;> cases y <;> kernel_rfl
theorem mem_ci {x : Nat} {b : List Nat} : ((x : Int) ∈ ci b) ↔ x ∈ b := by
  unfold ci
  rw [List.mem_map]
  constructor
  · rintro ⟨y, hy, h⟩
    have : y = x := by omega
    exact this ▸ hy
  · intro h; exact ⟨x, h, rfl⟩
theorem ci_snoc (b : List Nat) (x : Nat) : ci b ++ [(x : Int)] = ci (b ++ [x]) := by simp [ci]
theorem ci_take (b : List Nat) (i : Nat) : (ci b).take i = ci (b.take i) := by unfold ci; rw [List.map_take]
theorem ci_getE (b : List Nat) {i : Nat} (h : i < b.length) (h' : i < (ci b).length) : (ci b)[i] = (b[i] : Int) := List.getElem_map _
/-- One more of them is told. -/
theorem trn_take {b : List Nat} {i : Nat} (h : i + 1 < b.length) : trnB true (b.take (i + 2)) = (trnB true (b.take (i + 1)) && (decide (b[i] < b[i + 1]) == decide (i % 2 = 0))) := by
  have h1 : b.take (i + 1) = b.take i ++ [b[i]] := by rw [List.take_add_one, List.getElem?_eq_getElem (by omega)]; rfl
  have h2 : b.take (i + 2) = b.take i ++ [b[i], b[i + 1]] := by rw [List.take_add_one, List.getElem?_eq_getElem h, h1, Option.toList_some, List.append_assoc]; rfl
  rw [h2, h1, trnB_snoc, List.length_take, show min i b.length = i by omega]
  congr 2
  unfold oddB
  by_cases hi : i % 2 = 0
  · rw [decide_eq_true hi, decide_eq_true (show (i + 1) % 2 = 1 by omega)]; rfl
  · rw [decide_eq_false hi, decide_eq_false (show ¬ (i + 1) % 2 = 1 by omega)]; rfl
theorem trn_pre : ∀ {b : List Nat} (i j : Nat), i ≤ j → trnB true (b.take j) = true → trnB true (b.take i) = true := by
  intro b i j
  induction j with
  | zero => intro h; have : i = 0 := by omega
            subst this; exact fun h => h
  | succ j ih =>
    intro hij ht
    by_cases e : i = j + 1
    · subst e; exact ht
    · refine ih (by omega) ?_
      by_cases hj : j < b.length
      · rw [List.take_add_one, List.getElem?_eq_getElem hj] at ht
        have ht : trnB true (b.take j ++ [b[j]]) = true := ht
        rw [trnB_next, Bool.and_eq_true] at ht
        exact ht.1
      · rw [List.take_of_length_le (by omega)] at ht ⊢
        exact ht
section
variable {lf L : Nat}
theorem turning80_sp {n : Nat} {m : Mem} {v : Value} {b : List Nat} {k : Value → Mem → Option Unit} (hlf : 1000000 ≤ lf) (hv : IL m v (ci b)) (hl : b.length < 1000) (hk : k (.bool (trnB true b)) m = some ()) : runT (tab lf) (n + 1) 80 [v] L m k = some () := by
  rw [r80]; dsimp only [S80, iofNat, inegSucc]
  rw [uc_e, un0_e]
  have hln := hv.ln
  rw [ci_length] at hln
  refine loop_up b.length (fun i vs m' => vs = [.int .i64 (i : Int)] ∧ m' = m ∧ trnB true (b.take (i + 1)) = true) (by omega) ⟨rfl, rfl, ?_⟩ ?_
  · cases b with
    | nil => rfl
    | cons x b => rfl
  · rintro i vs m' hi ⟨rfl, rfl, ht⟩ self hself
    rw [uc_e, oInt_add ⟨by omega, by omega⟩, hln, oOpt_e, oInt_lss]
    refine oIf_dec (fun h => ?_) (fun h => ?_)
    · have hi1 : i + 1 < b.length := by omega
      have hil : i < b.length := by omega
      have hc0 : i < (ci b).length := by rw [ci_length]; exact hil
      have hc1 : i + 1 < (ci b).length := by rw [ci_length]; exact hi1
      rw [hv.ia hc0, oOpt_e, hv.ld hc0, oOpt_e]
      try rw [oInt_add ⟨by omega, by omega⟩]
      rw [show (i : Int) + 1 = ((i + 1 : Nat) : Int) by omega, hv.ia hc1, oOpt_e, hv.ld hc1, oOpt_e, oInt_lss, show (2 : Int) = ((2 : Nat) : Int) from rfl, oInt_remN (by omega), oInt_eql, ci_getE b hil, ci_getE b hi1]
      rw [show decide (((b[i] : Nat) : Int) < ((b[i + 1] : Nat) : Int)) = decide (b[i] < b[i + 1]) from decide_eq_decide.2 (by omega), show decide ((((i % 2 : Nat)) : Int) = 0) = decide (i % 2 = 0) from decide_eq_decide.2 (by omega), neqB, oOpt_e]
      have hst := trn_take hi1
      rw [ht, Bool.true_and] at hst
      rw [← hst]
      cases hc : trnB true (b.take (i + 2)) with
      | true =>
        rw [Bool.not_true, oIf_f]
        try rw [oInt_add ⟨by omega, by omega⟩]
        exact hself hil _ _ ⟨rfl, rfl, hc⟩
      | false =>
        rw [Bool.not_false, oIf_t]
        have : trnB true b = false := by
          cases hb : trnB true b with
          | false => rfl
          | true =>
            have h2 : trnB true (b.take b.length) = true := by rw [List.take_length]; exact hb
            have := trn_pre (b := b) (i + 2) b.length (by omega) h2
            rw [hc] at this; cases this
        rw [this] at hk
        exact hk
    · rw [List.take_of_length_le (by omega)] at ht
      rw [ht] at hk
      exact hk
set_option maxHeartbeats 1000000 in
theorem count82_sp {N : Nat} (hlf : 1000000 ≤ lf) (hN : N ≤ 9) : ∀ (mm : Nat) {n : Nat} {m : Mem} {v : Value} {b : List Nat} {k : Value → Mem → Option Unit}, b.length + mm = N → IL m v (ci b) → L ≤ m.next → (∀ m', Gt m m' → k (.int .i64 (cntR N mm b : Int)) m' = some ()) →
    runT (tab lf) (n + mm + 2) 82 [.int .i64 (N : Int), v] L m k = some () := by
  intro mm
  induction mm with
  | zero =>
    intro n m v b k hb hv hL hk
    rw [r82]; dsimp only [S82, iofNat, inegSucc]
    have hln := hv.ln
    rw [ci_length] at hln
    rw [uc_e, uc_e, un0_e]
    refine turning80_sp hlf hv (by omega) ?_
    have hk0 := hk m (Gt.refl _)
    cases ht : trnB true b with
    | false =>
      rw [show cntR N 0 b = 0 from cntR_no ht] at hk0
      try simp (disch := first | omega | with_unfolding_all exact id rfl | with_unfolding_all exact Nat.le_of_ble_eq_true rfl | (simp only [Jd, Je, Jr, Js, Jt, Nat.reduceAdd, allOne, oneCell, Bool.and_self, Jc]; first | done | omega)) only [↓Qa, ↓Qb, ↓Qc, Qd, Qe, Qf, Qg, Qh, Qi, Qj, Qk, Ql, Qm, Qn, Qo, Qp, Qq, Qr, Qs, Qt, Qu, Qv, Qw, Qx, Qy, ptrTo, Qz, QA, QB, QC, QD, QE, QF, QG, QH, QI, QJ, QK, QL, QM, QN, QO, QP, QQ, QR, QS, QT, QU, QV, QW, QX, QY, QZ, Ja, Jb, Jc, Jd, Je, Jf, Jg, Jh, Ji, Jj, Jk, Jl, Jm, Jn, Jo, Jp, Jq, Jr, Js, Jt, Nat.reduceAdd]
      exact hk0
    | true =>
      rw [show cntR N 0 b = 1 by simp [cntR, ht]] at hk0
      try simp (disch := first | omega | with_unfolding_all exact id rfl | with_unfolding_all exact Nat.le_of_ble_eq_true rfl | (simp only [Jd, Je, Jr, Js, Jt, Nat.reduceAdd, allOne, oneCell, Bool.and_self, Jc]; first | done | omega)) only [hln, decide_eq_true (show ((b.length : Nat) : Int) = (N : Int) by omega), ↓Qa, ↓Qb, ↓Qc, Qd, Qe, Qf, Qg, Qh, Qi, Qj, Qk, Ql, Qm, Qn, Qo, Qp, Qq, Qr, Qs, Qt, Qu, Qv, Qw, Qx, Qy, ptrTo, Qz, QA, QB, QC, QD, QE, QF, QG, QH, QI, QJ, QK, QL, QM, QN, QO, QP, QQ, QR, QS, QT, QU, QV, QW, QX, QY, QZ, Ja, Jb, Jc, Jd, Je, Jf, Jg, Jh, Ji, Jj, Jk, Jl, Jm, Jn, Jo, Jp, Jq, Jr, Js, Jt, Nat.reduceAdd]
      exact hk0
  | succ mm ih =>
    intro n m v b k hb hv hL hk
    rw [show n + (mm + 1) + 2 = (n + mm + 2) + 1 by omega, r82]; dsimp only [S82, iofNat, inegSucc]
    have hln := hv.ln
    rw [ci_length] at hln
    rw [uc_e, uc_e, un0_e]
    refine turning80_sp hlf hv (by omega) ?_
    cases ht : trnB true b with
    | false =>
      have hk0 := hk m (Gt.refl _)
      rw [cntR_no ht] at hk0
      try simp (disch := first | omega | with_unfolding_all exact id rfl | with_unfolding_all exact Nat.le_of_ble_eq_true rfl | (simp only [Jd, Je, Jr, Js, Jt, Nat.reduceAdd, allOne, oneCell, Bool.and_self, Jc]; first | done | omega)) only [↓Qa, ↓Qb, ↓Qc, Qd, Qe, Qf, Qg, Qh, Qi, Qj, Qk, Ql, Qm, Qn, Qo, Qp, Qq, Qr, Qs, Qt, Qu, Qv, Qw, Qx, Qy, ptrTo, Qz, QA, QB, QC, QD, QE, QF, QG, QH, QI, QJ, QK, QL, QM, QN, QO, QP, QQ, QR, QS, QT, QU, QV, QW, QX, QY, QZ, Ja, Jb, Jc, Jd, Je, Jf, Jg, Jh, Ji, Jj, Jk, Jl, Jm, Jn, Jo, Jp, Jq, Jr, Js, Jt, Nat.reduceAdd]
      exact hk0
    | true =>
      have hcs : cntR N (mm + 1) b = sm1 (fun x => if x ∈ b then 0 else cntR N mm (b ++ [x])) (List.range N) := by
        show (if trnB true b = true then _ else 0) = _
        rw [if_pos ht]
      rw [hcs] at hk
      have hpow : N ^ mm ≤ 9 ^ 9 := Nat.le_trans (Nat.pow_le_pow_left hN mm) (Nat.pow_le_pow_right (by omega) (by omega))
      have hbd : ∀ i, sm1 (fun x => if x ∈ b then 0 else cntR N mm (b ++ [x])) (List.range i) ≤ i * 9 ^ 9 := fun i => sm1_range_le i fun x hx => by
        split
        · exact Nat.zero_le _
        · exact Nat.le_trans (cntR_le mm _) hpow
      try simp (disch := first | omega | with_unfolding_all exact id rfl | with_unfolding_all exact Nat.le_of_ble_eq_true rfl | (simp only [Jd, Je, Jr, Js, Jt, Nat.reduceAdd, allOne, oneCell, Bool.and_self, Jc]; first | done | omega)) only [hln, decide_eq_false (show ¬ ((b.length : Nat) : Int) = (N : Int) by omega), ↓Qa, ↓Qb, ↓Qc, Qd, Qe, Qf, Qg, Qh, Qi, Qj, Qk, Ql, Qm, Qn, Qo, Qp, Qq, Qr, Qs, Qt, Qu, Qv, Qw, Qx, Qy, ptrTo, Qz, QA, QB, QC, QD, QE, QF, QG, QH, QI, QJ, QK, QL, QM, QN, QO, QP, QQ, QR, QS, QT, QU, QV, QW, QX, QY, QZ, Ja, Jb, Jc, Jd, Je, Jf, Jg, Jh, Ji, Jj, Jk, Jl, Jm, Jn, Jo, Jp, Jq, Jr, Js, Jt, Nat.reduceAdd]
      refine loop_up N (fun i vs m' => vs = [.int .i64 (sm1 (fun x => if x ∈ b then 0 else cntR N mm (b ++ [x])) (List.range i) : Int), .int .i64 (i : Int)] ∧ Gt m m') (by omega) ⟨rfl, Gt.refl _⟩ ?_
      rintro i vs m2 hi ⟨rfl, e2⟩ self hself
      have n2 := e2.next
      have hb1 := hbd i
      have h99 : (9 : Nat) ^ 9 = 387420489 := by decide
      rw [h99] at hb1
      rw [uc_e, uc_e, oInt_lss]
      refine oIf_dec (fun h => ?_) (fun h => ?_)
      · have hiN : i < N := by omega
        have hv2 := hv.mono e2
        have hadd : ∀ K : Value → Option Unit, oInt .add .i64 (.int .i64 (i : Int)) (.int .i64 1) K = K (.int .i64 ((i + 1 : Nat) : Int)) := fun K => by rw [oInt_add ⟨by omega, by omega⟩]; rfl
        have hst : sm1 (fun x => if x ∈ b then 0 else cntR N mm (b ++ [x])) (List.range (i + 1)) = sm1 (fun x => if x ∈ b then 0 else cntR N mm (b ++ [x])) (List.range i) + (if i ∈ b then 0 else cntR N mm (b ++ [i])) := by
          rw [List.range_succ, sm1_app]; rfl
        rw [hst] at hself
        generalize sm1 (fun x => if x ∈ b then 0 else cntR N mm (b ++ [x])) (List.range i) = acc at hb1 hself ⊢
        refine has_sp _ hlf hv2 (by rw [ci_length]; omega) ?_
        by_cases hm : i ∈ b
        · rw [if_pos hm] at hself
          rw [decide_eq_true (mem_ci.2 hm)]
          try simp (disch := first | omega | with_unfolding_all exact id rfl | with_unfolding_all exact Nat.le_of_ble_eq_true rfl | (simp only [Jd, Je, Jr, Js, Jt, Nat.reduceAdd, allOne, oneCell, Bool.and_self, Jc]; first | done | omega)) only [↓Qa, ↓Qb, ↓Qc, Qd, Qe, Qf, Qg, Qh, Qi, Qj, Qk, Ql, Qm, Qn, Qo, Qp, Qq, Qr, Qs, Qt, Qu, Qv, Qw, Qx, Qy, ptrTo, Qz, QA, QB, QC, QD, QE, QF, QG, QH, QI, QJ, QK, QL, QM, QN, QO, QP, QQ, QR, QS, QT, QU, QV, QW, QX, QY, QZ, Ja, Jb, Jc, Jd, Je, Jf, Jg, Jh, Ji, Jj, Jk, Jl, Jm, Jn, Jo, Jp, Jq, Jr, Js, Jt, Nat.reduceAdd]
          rw [hadd]
          exact hself hiN _ _ ⟨rfl, e2⟩
        · rw [if_neg hm] at hself
          rw [decide_eq_false fun hh => hm (mem_ci.1 hh)]
          try simp (disch := first | omega | with_unfolding_all exact id rfl | with_unfolding_all exact Nat.le_of_ble_eq_true rfl | (simp only [Jd, Je, Jr, Js, Jt, Nat.reduceAdd, allOne, oneCell, Bool.and_self, Jc]; first | done | omega)) only [↓Qa, ↓Qb, ↓Qc, Qd, Qe, Qf, Qg, Qh, Qi, Qj, Qk, Ql, Qm, Qn, Qo, Qp, Qq, Qr, Qs, Qt, Qu, Qv, Qw, Qx, Qy, ptrTo, Qz, QA, QB, QC, QD, QE, QF, QG, QH, QI, QJ, QK, QL, QM, QN, QO, QP, QQ, QR, QS, QT, QU, QV, QW, QX, QY, QZ, Ja, Jb, Jc, Jd, Je, Jf, Jg, Jh, Ji, Jj, Jk, Jl, Jm, Jn, Jo, Jp, Jq, Jr, Js, Jt, Nat.reduceAdd]
          rw [bs220, oRes_e]
          obtain ⟨w1, x1, u, x2, a1, a2, a3, a4, a5⟩ := app2 (L := L) (L' := L) (m := m2) (i : Int) (by omega) hv2 (by rw [ci_length]; omega)
          rw [a1, oRes_e, bs22, oRes_e, a3, oRes_e]
          have nx := a4.next
          have hcb := cntR_le (n := N) mm (b ++ [i])
          have hu := a5.il
          rw [ci_snoc] at hu
          refine ih (by simp; omega) hu (by omega) fun m3 e3 => ?_
          have hcb2 : cntR N mm (b ++ [i]) ≤ 387420489 := by have := Nat.le_trans hcb hpow; rw [h99] at this; exact this
          generalize cntR N mm (b ++ [i]) = c at hself hcb2 ⊢
          rw [oInt_addN (by omega)]
          try simp (disch := first | omega | with_unfolding_all exact id rfl | with_unfolding_all exact Nat.le_of_ble_eq_true rfl | (simp only [Jd, Je, Jr, Js, Jt, Nat.reduceAdd, allOne, oneCell, Bool.and_self, Jc]; first | done | omega)) only [↓Qa, ↓Qb, ↓Qc, Qd, Qe, Qf, Qg, Qh, Qi, Qj, Qk, Ql, Qm, Qn, Qo, Qp, Qq, Qr, Qs, Qt, Qu, Qv, Qw, Qx, Qy, ptrTo, Qz, QA, QB, QC, QD, QE, QF, QG, QH, QI, QJ, QK, QL, QM, QN, QO, QP, QQ, QR, QS, QT, QU, QV, QW, QX, QY, QZ, Ja, Jb, Jc, Jd, Je, Jf, Jg, Jh, Ji, Jj, Jk, Jl, Jm, Jn, Jo, Jp, Jq, Jr, Js, Jt, Nat.reduceAdd]
          rw [hadd]
          exact hself hiN _ _ ⟨rfl, (e2.trans a4).trans e3⟩
      · have hiN : i = N := by omega
        subst hiN
        exact hk _ e2
theorem rcount_sp {n : Nat} {m : Mem} {c : Int} {k : Value → Mem → Option Unit} (hlf : 1000000 ≤ lf) (hL : L ≤ m.next) (hk : ∀ m', Gt m m' → k (.tuple ⟨[.int .i64 (cntX c), .int .i64 (cntE c)]⟩) m' = some ()) : runT (tab lf) (n + 12) 38 [.int .i64 c] L m k = some () := by
  rw [r38]; dsimp only [S38, iofNat, inegSucc]
  unfold cntX cntE at hk
  try simp (disch := first | omega | with_unfolding_all exact id rfl | with_unfolding_all exact Nat.le_of_ble_eq_true rfl | (simp only [Jd, Je, Jr, Js, Jt, Nat.reduceAdd, allOne, oneCell, Bool.and_self, Jc]; first | done | omega)) only [↓Qa, ↓Qb, ↓Qc, Qd, Qe, Qf, Qg, Qh, Qi, Qj, Qk, Ql, Qm, Qn, Qo, Qp, Qq, Qr, Qs, Qt, Qu, Qv, Qw, Qx, Qy, ptrTo, Qz, QA, QB, QC, QD, QE, QF, QG, QH, QI, QJ, QK, QL, QM, QN, QO, QP, QQ, QR, QS, QT, QU, QV, QW, QX, QY, QZ, Ja, Jb, Jc, Jd, Je, Jf, Jg, Jh, Ji, Jj, Jk, Jl, Jm, Jn, Jo, Jp, Jq, Jr, Js, Jt, Nat.reduceAdd]
  refine in_sp _ _ _ ?_
  by_cases h : inI c 1 9
  · simp only [if_pos h] at hk
    obtain ⟨N, rfl⟩ : ∃ N : Nat, c = N := ⟨c.toNat, by have := h.1; omega⟩
    have h9 : N ≤ 9 := by have := h.2; omega
    rw [Int.toNat_natCast] at hk
    try simp (disch := first | omega | with_unfolding_all exact id rfl | with_unfolding_all exact Nat.le_of_ble_eq_true rfl | (simp only [Jd, Je, Jr, Js, Jt, Nat.reduceAdd, allOne, oneCell, Bool.and_self, Jc]; first | done | omega)) only [decide_eq_true h, ↓Qa, ↓Qb, ↓Qc, Qd, Qe, Qf, Qg, Qh, Qi, Qj, Qk, Ql, Qm, Qn, Qo, Qp, Qq, Qr, Qs, Qt, Qu, Qv, Qw, Qx, Qy, ptrTo, Qz, QA, QB, QC, QD, QE, QF, QG, QH, QI, QJ, QK, QL, QM, QN, QO, QP, QQ, QR, QS, QT, QU, QV, QW, QX, QY, QZ, Ja, Jb, Jc, Jd, Je, Jf, Jg, Jh, Ji, Jj, Jk, Jl, Jm, Jn, Jo, Jp, Jq, Jr, Js, Jt, Nat.reduceAdd]
    rw [show n + 11 = (n + (9 - N)) + N + 2 by omega]
    refine count82_sp hlf h9 N (b := []) (by simp) (IL.nil m) hL fun m1 e1 => ?_
    exact hk m1 e1
  · simp only [if_neg h] at hk
    try simp (disch := first | omega | with_unfolding_all exact id rfl | with_unfolding_all exact Nat.le_of_ble_eq_true rfl | (simp only [Jd, Je, Jr, Js, Jt, Nat.reduceAdd, allOne, oneCell, Bool.and_self, Jc]; first | done | omega)) only [decide_eq_false h, ↓Qa, ↓Qb, ↓Qc, Qd, Qe, Qf, Qg, Qh, Qi, Qj, Qk, Ql, Qm, Qn, Qo, Qp, Qq, Qr, Qs, Qt, Qu, Qv, Qw, Qx, Qy, ptrTo, Qz, QA, QB, QC, QD, QE, QF, QG, QH, QI, QJ, QK, QL, QM, QN, QO, QP, QQ, QR, QS, QT, QU, QV, QW, QX, QY, QZ, Ja, Jb, Jc, Jd, Je, Jf, Jg, Jh, Ji, Jj, Jk, Jl, Jm, Jn, Jo, Jp, Jq, Jr, Js, Jt, Nat.reduceAdd]
    exact hk m (Gt.refl _)
theorem rbegin_sp {n : Nat} {m : Mem} {c f : Int} {k : Value → Mem → Option Unit} (hlf : 1000000 ≤ lf) (hL : L ≤ m.next) (hk : ∀ m', Gt m m' → k (.tuple ⟨[.int .i64 (begX c f), .int .i64 (begE c f)]⟩) m' = some ()) : runT (tab lf) (n + 12) 40 [.int .i64 c, .int .i64 f] L m k = some () := by
  rw [r40]; dsimp only [S40, iofNat, inegSucc]
  unfold begX begE at hk
  try simp (disch := first | omega | with_unfolding_all exact id rfl | with_unfolding_all exact Nat.le_of_ble_eq_true rfl | (simp only [Jd, Je, Jr, Js, Jt, Nat.reduceAdd, allOne, oneCell, Bool.and_self, Jc]; first | done | omega)) only [↓Qa, ↓Qb, ↓Qc, Qd, Qe, Qf, Qg, Qh, Qi, Qj, Qk, Ql, Qm, Qn, Qo, Qp, Qq, Qr, Qs, Qt, Qu, Qv, Qw, Qx, Qy, ptrTo, Qz, QA, QB, QC, QD, QE, QF, QG, QH, QI, QJ, QK, QL, QM, QN, QO, QP, QQ, QR, QS, QT, QU, QV, QW, QX, QY, QZ, Ja, Jb, Jc, Jd, Je, Jf, Jg, Jh, Ji, Jj, Jk, Jl, Jm, Jn, Jo, Jp, Jq, Jr, Js, Jt, Nat.reduceAdd]
  refine in_sp _ _ _ ?_
  by_cases h : inI c 1 9
  · try simp (disch := first | omega | with_unfolding_all exact id rfl | with_unfolding_all exact Nat.le_of_ble_eq_true rfl | (simp only [Jd, Je, Jr, Js, Jt, Nat.reduceAdd, allOne, oneCell, Bool.and_self, Jc]; first | done | omega)) only [decide_eq_true h, ↓Qa, ↓Qb, ↓Qc, Qd, Qe, Qf, Qg, Qh, Qi, Qj, Qk, Ql, Qm, Qn, Qo, Qp, Qq, Qr, Qs, Qt, Qu, Qv, Qw, Qx, Qy, ptrTo, Qz, QA, QB, QC, QD, QE, QF, QG, QH, QI, QJ, QK, QL, QM, QN, QO, QP, QQ, QR, QS, QT, QU, QV, QW, QX, QY, QZ, Ja, Jb, Jc, Jd, Je, Jf, Jg, Jh, Ji, Jj, Jk, Jl, Jm, Jn, Jo, Jp, Jq, Jr, Js, Jt, Nat.reduceAdd]
    have h1 := h.1
    have h9' := h.2
    rw [oInt_sub ⟨by omega, by omega⟩]
    refine in_sp _ _ _ ?_
    by_cases h2 : inI f 0 (c - 1)
    · simp only [if_pos (And.intro h h2)] at hk
      obtain ⟨N, rfl⟩ : ∃ N : Nat, c = N := ⟨c.toNat, by omega⟩
      have h21 := h2.1
      have h22 := h2.2
      obtain ⟨F, rfl⟩ : ∃ F : Nat, f = F := ⟨f.toNat, by omega⟩
      rw [Int.toNat_natCast, Int.toNat_natCast, ← cnt_begin (by omega)] at hk
      try simp (disch := first | omega | with_unfolding_all exact id rfl | with_unfolding_all exact Nat.le_of_ble_eq_true rfl | (simp only [Jd, Je, Jr, Js, Jt, Nat.reduceAdd, allOne, oneCell, Bool.and_self, Jc]; first | done | omega)) only [decide_eq_true h2, ↓Qa, ↓Qb, ↓Qc, Qd, Qe, Qf, Qg, Qh, Qi, Qj, Qk, Ql, Qm, Qn, Qo, Qp, Qq, Qr, Qs, Qt, Qu, Qv, Qw, Qx, Qy, ptrTo, Qz, QA, QB, QC, QD, QE, QF, QG, QH, QI, QJ, QK, QL, QM, QN, QO, QP, QQ, QR, QS, QT, QU, QV, QW, QX, QY, QZ, Ja, Jb, Jc, Jd, Je, Jf, Jg, Jh, Ji, Jj, Jk, Jl, Jm, Jn, Jo, Jp, Jq, Jr, Js, Jt, Nat.reduceAdd]
      rw [bs22, oRes_e]
      have g1 := Mem.gt_push m ⟨1, [.int .i64 (F : Int)], none⟩
      have hv : IL (m.push ⟨1, [.int .i64 (F : Int)], none⟩) (slTo 1 m.next) (ci [F]) := Gs.sl (L := m.next) (.inr ⟨m.next, Nat.le_refl _, rfl, Mem.rd_push _ _, rfl, by simp [ci]⟩)
      have n1 := g1.next
      generalize m.push ⟨1, [.int .i64 (F : Int)], none⟩ = m1 at g1 hv n1 ⊢
      rw [show n + 11 = (n + (10 - N)) + (N - 1) + 2 by omega]
      refine count82_sp hlf (by omega) (N - 1) (b := [F]) (by simp; omega) hv (by omega) fun m2 e2 => ?_
      exact hk m2 (g1.trans e2)
    · simp only [if_neg (fun hh : inI c 1 9 ∧ inI f 0 (c - 1) => h2 hh.2)] at hk
      try simp (disch := first | omega | with_unfolding_all exact id rfl | with_unfolding_all exact Nat.le_of_ble_eq_true rfl | (simp only [Jd, Je, Jr, Js, Jt, Nat.reduceAdd, allOne, oneCell, Bool.and_self, Jc]; first | done | omega)) only [decide_eq_false h2, ↓Qa, ↓Qb, ↓Qc, Qd, Qe, Qf, Qg, Qh, Qi, Qj, Qk, Ql, Qm, Qn, Qo, Qp, Qq, Qr, Qs, Qt, Qu, Qv, Qw, Qx, Qy, ptrTo, Qz, QA, QB, QC, QD, QE, QF, QG, QH, QI, QJ, QK, QL, QM, QN, QO, QP, QQ, QR, QS, QT, QU, QV, QW, QX, QY, QZ, Ja, Jb, Jc, Jd, Je, Jf, Jg, Jh, Ji, Jj, Jk, Jl, Jm, Jn, Jo, Jp, Jq, Jr, Js, Jt, Nat.reduceAdd]
      exact hk m (Gt.refl _)
  · simp only [if_neg (fun hh : inI c 1 9 ∧ inI f 0 (c - 1) => h hh.1)] at hk
    try simp (disch := first | omega | with_unfolding_all exact id rfl | with_unfolding_all exact Nat.le_of_ble_eq_true rfl | (simp only [Jd, Je, Jr, Js, Jt, Nat.reduceAdd, allOne, oneCell, Bool.and_self, Jc]; first | done | omega)) only [decide_eq_false h, ↓Qa, ↓Qb, ↓Qc, Qd, Qe, Qf, Qg, Qh, Qi, Qj, Qk, Ql, Qm, Qn, Qo, Qp, Qq, Qr, Qs, Qt, Qu, Qv, Qw, Qx, Qy, ptrTo, Qz, QA, QB, QC, QD, QE, QF, QG, QH, QI, QJ, QK, QL, QM, QN, QO, QP, QQ, QR, QS, QT, QU, QV, QW, QX, QY, QZ, Ja, Jb, Jc, Jd, Je, Jf, Jg, Jh, Ji, Jj, Jk, Jl, Jm, Jn, Jo, Jp, Jq, Jr, Js, Jt, Nat.reduceAdd]
    exact hk m (Gt.refl _)
end
end Go.Vit
