/- Joined: W19 W22 W23 W24. -/
import Derived.Test.YtgimcgdehgbljaaWB
import Derived.Test.YtgimcgdehgbljaaPA
set_option linter.unusedSimpArgs false
set_option linter.unusedVariables false
set_option maxRecDepth 20000
/- Walks: what so many exchanges reach. -/
namespace Go.Vit
open Go Go.Proofs
attribute [local irreducible] runT loopS
theorem isort_nat (out : List Nat) : ∃ l : List Nat, isortI (ci out) = ci l ∧ l.Perm out ∧ l.Pairwise (· ≤ ·) := by
  have hp := isortI_perm (ci out)
  have hs := isortI_sorted (ci out)
  have hnn : ∀ x ∈ isortI (ci out), ∃ g : Nat, x = (g : Int) := fun x hx => by
    have := hp.mem_iff.1 hx
    simp only [ci, List.mem_map] at this
    obtain ⟨g, _, rfl⟩ := this
    exact ⟨g, rfl⟩
  have key : ∀ L : List Int, (∀ x ∈ L, ∃ g : Nat, x = (g : Int)) → ∃ l : List Nat, L = ci l := by
    intro L
    induction L with
    | nil => intro _; exact ⟨[], rfl⟩
    | cons x L ih =>
      intro h
      obtain ⟨g, rfl⟩ := h x (by simp)
      obtain ⟨l, rfl⟩ := ih fun y hy => h y (by simp [hy])
      exact ⟨g :: l, rfl⟩
  obtain ⟨l, hl⟩ := key _ hnn
  rw [hl] at hp hs
  refine ⟨l, hl, ?_, ?_⟩
  · have h0 := hp.map Int.toNat
    have h1 : (Int.toNat ∘ fun g : Nat => (g : Int)) = id := by funext g; rfl
    simpa [ci, h1] using h0
  · unfold ci at hs
    rw [List.pairwise_map] at hs
    exact hs.imp fun h => by omega
theorem GN.keepB {L : Nat} {m m' : Mem} {v : Value} {l : List Nat} (h : GN L m v l) (hk : ∀ c, bid v = some c → m'.rd c = m.rd c) : GN L m' v l := by
  rcases h with h | ⟨b, h1, h2, h3, h4⟩
  · exact .inl h
  · exact .inr ⟨b, h1, h2, (hk b (by rw [h2]; rfl)).trans h3, h4⟩
theorem min3_e (a b c : Nat) : abuiltin Try.prog .min #[3, 3, 3] [.int .i64 (a : Int), .int .i64 (b : Int), .int .i64 (c : Int)] = some (.int .i64 ((min (min a b) c : Nat) : Int)) := by
  show aleast true .i64 (a : Int) [.int .i64 (b : Int), .int .i64 (c : Int)] = _
  simp only [aleast, ilt_e]
  by_cases h : (b : Int) < (a : Int)
  · rw [decide_eq_true h]
    simp only []
    rw [Nat.min_eq_right (show b ≤ a by omega)]
    by_cases h2 : (c : Int) < (b : Int)
    · rw [decide_eq_true h2]; simp only []
      rw [mkI_e, Nat.min_eq_right (by omega)]
    · rw [decide_eq_false h2]; simp only []
      rw [mkI_e, Nat.min_eq_left (by omega)]
  · rw [decide_eq_false h]
    simp only []
    rw [Nat.min_eq_left (show a ≤ b by omega)]
    by_cases h2 : (c : Int) < (a : Int)
    · rw [decide_eq_true h2]; simp only []
      rw [mkI_e, Nat.min_eq_right (by omega)]
    · rw [decide_eq_false h2]; simp only []
      rw [mkI_e, Nat.min_eq_left (by omega)]
theorem minI_e (a b : Int) : abuiltin Try.prog .min #[3, 3] [.int .i64 a, .int .i64 b] = some (.int .i64 (min a b)) := by
  show aleast true .i64 a [.int .i64 b] = _
  simp only [aleast, ilt_e]
  by_cases h : b < a
  · rw [decide_eq_true h]; simp only []
    rw [mkI_e, Int.min_eq_right (by omega)]
  · rw [decide_eq_false h]; simp only []
    rw [mkI_e, Int.min_eq_left (by omega)]
theorem maxI_e (a b : Int) : abuiltin Try.prog .max #[3, 3] [.int .i64 a, .int .i64 b] = some (.int .i64 (max a b)) := by
  show aleast false .i64 a [.int .i64 b] = _
  simp only [aleast, ilt_e]
  by_cases h : a < b
  · rw [decide_eq_true h]; simp only []
    rw [mkI_e, Int.max_eq_right (by omega)]
  · rw [decide_eq_false h]; simp only []
    rw [mkI_e, Int.max_eq_left (by omega)]
def ownW (ws b : List Nat) (x : Nat) : List Nat := ((List.range x).filter fun y => decide (y ∈ b)).map (wOf ws)
def othW (ws b : List Nat) (x : Nat) : List Nat := ((List.range x).filter fun y => !decide (y ∈ b)).map (wOf ws)
theorem ownW_le (ws b : List Nat) (x : Nat) : (ownW ws b x).length ≤ x := by
  unfold ownW
  have := List.length_filter_le (fun y => decide (y ∈ b)) (List.range x)
  rw [List.length_range] at this
  rw [List.length_map]; exact this
theorem othW_le (ws b : List Nat) (x : Nat) : (othW ws b x).length ≤ x := by
  unfold othW
  have := List.length_filter_le (fun y => !decide (y ∈ b)) (List.range x)
  rw [List.length_range] at this
  rw [List.length_map]; exact this
theorem ownW_t {ws b : List Nat} {x : Nat} (h : x ∈ b) : ownW ws b (x + 1) = ownW ws b x ++ [wOf ws x] ∧ othW ws b (x + 1) = othW ws b x := by
  unfold ownW othW
  rw [List.range_succ, List.filter_append, List.filter_append]
  simp [h]
theorem ownW_f {ws b : List Nat} {x : Nat} (h : x ∉ b) : ownW ws b (x + 1) = ownW ws b x ∧ othW ws b (x + 1) = othW ws b x ++ [wOf ws x] := by
  unfold ownW othW
  rw [List.range_succ, List.filter_append, List.filter_append]
  simp [h]
theorem msum_bd (D : Nat → Int) (h : ∀ i, -50 ≤ D i) : ∀ i : Nat, -(50 * (i : Int)) ≤ msum D i ∧ msum D i ≤ 0
  | 0 => by simp [msum]
  | i + 1 => by
    have := msum_bd D h i
    have := h i
    unfold msum
    omega
section
variable {lf n L : Nat} {m : Mem} {k : Value → Mem → Option Unit}
theorem reach40_sp {wv v : Value} {l b : List Int} {lo hi j : Int} (hlf : 1000000 ≤ lf) (hL : L ≤ m.next) (hw : IL m wv l) (hv : IL m v b) (hb : b.length < 1000000)
    (hk0 : bldE l lo hi b = 0 → 0 ≤ j → j ≤ 10 → ∀ zl zh m', Gt m m' → IsLo (nni l) (nni b) l.length b.length j.toNat zl → IsHi (nni l) (nni b) l.length b.length j.toNat zh → k (.tuple ⟨[.int .i64 zl, .int .i64 zh, .int .i64 0]⟩) m' = some ())
    (hk1 : ∀ m', Gt m m' → bldE l lo hi b = 0 → ¬ (0 ≤ j ∧ j ≤ 10) → k (.tuple ⟨[.int .i64 0, .int .i64 0, .int .i64 1]⟩) m' = some ())
    (hk2 : ∀ m', Gt m m' → bldE l lo hi b ≠ 0 → k (.tuple ⟨[.int .i64 0, .int .i64 0, .int .i64 (bldE l lo hi b)]⟩) m' = some ()) :
    runT (tab lf) (n + 10) 40 [rcp wv lo hi, v, .int .i64 j] L m k = some () := by
  rw [r40]; dsimp only [S40, iofNat, inegSucc]
  rw [uc_e, uc_e, uc_e, un0_e, abox_e, oRes_e, cells_agg]
  have g1 := Mem.gt_push m ⟨1, rcC wv lo hi, none⟩
  have hA : At (m.push ⟨1, rcC wv lo hi, none⟩) m.next (rcC wv lo hi) := At.push m _
  have n1 : (m.push ⟨1, rcC wv lo hi, none⟩).next = m.next + 1 := Mem.push_next _ _
  generalize m.push ⟨1, rcC wv lo hi, none⟩ = m1 at g1 hA n1 ⊢
  unfold ptrTo
  have c0 : (rcC wv lo hi)[0]? = some wv := rfl
  rw [ldN_u, hA.rd, rdn3, oOpt_e]
  refine blended_sp hlf (hw.mono g1) (hv.mono g1) hb fun m2 e2 => ?_
  have G := g1.trans e2
  have n2 := e2.next
  have hA2 := hA.mono e2
  have hw2 := hw.mono G
  have hv2 := hv.mono G
  by_cases h : bldE l lo hi b = 0
  · have hk0 := hk0 h
    obtain ⟨ws, t, rfl, rfl, q1, q2, q3, q4, q5⟩ := bldE_ok h
    rw [nni_ci, nni_ci, ci_length, ci_length] at hk0
    have hs := q5.le
    have hw2 : IN m2 wv ws := hw2
    have hv2 : IN m2 v t := hv2
    rw [h]
    try simp (disch := first | omega | with_unfolding_all exact id rfl | with_unfolding_all exact Nat.le_of_ble_eq_true rfl | (simp only [Jd, Je, Jr, Js, Jt, Nat.reduceAdd, allOne, oneCell, Bool.and_self, Jc]; first | done | omega)) only [hA2.rd, c0, ↓Qa, ↓Qb, Qd, Qe, Qf, Qg, Qh, Qi, Qj, Qk, Ql, Qm, Qn, Qo, Qp, Qq, Qr, Qs, Qt, Qu, Qv, Qw, Qx, Qy, ptrTo, Qz, QA, QB, QC, QD, QE, QF, QG, QH, QI, QJ, QK, QL, QM, QN, QO, QP, QQ, QR, QS, QT, QU, QV, QW, QX, QY, QZ, Ja, Jb, Jc, Jd, Je, Jf, Jg, Jh, Ji, Jj, Jk, Jl, Jm, Jn, Jo, Jp, Jq, Jr, Js, Jt, Nat.reduceAdd]
    refine within_sp _ _ _ ?_
    by_cases hj : 0 ≤ j ∧ j ≤ 10
    · have hk0 := hk0 hj.1 hj.2
      obtain ⟨j, rfl⟩ : ∃ i : Nat, j = i := ⟨j.toNat, by omega⟩
      rw [Int.toNat_natCast] at hk0
      rw [decide_eq_true hj]
      try simp (disch := first | omega | with_unfolding_all exact id rfl | with_unfolding_all exact Nat.le_of_ble_eq_true rfl | (simp only [Jd, Je, Jr, Js, Jt, Nat.reduceAdd, allOne, oneCell, Bool.and_self, Jc]; first | done | omega)) only [hA2.rd, c0, hw2.ln, ↓Qa, ↓Qb, Qd, Qe, Qf, Qg, Qh, Qi, Qj, Qk, Ql, Qm, Qn, Qo, Qp, Qq, Qr, Qs, Qt, Qu, Qv, Qw, Qx, Qy, ptrTo, Qz, QA, QB, QC, QD, QE, QF, QG, QH, QI, QJ, QK, QL, QM, QN, QO, QP, QQ, QR, QS, QT, QU, QV, QW, QX, QY, QZ, Ja, Jb, Jc, Jd, Je, Jf, Jg, Jh, Ji, Jj, Jk, Jl, Jm, Jn, Jo, Jp, Jq, Jr, Js, Jt, Nat.reduceAdd]
      refine loop_up ws.length (fun x vs m' => ∃ w1 w2, vs = [w1, w2, .int .i64 (x : Int)] ∧ Gt m2 m' ∧ GN m2.next m' w1 (ownW ws t x) ∧ GN m2.next m' w2 (othW ws t x) ∧ Apt w1 w2) (by omega) ⟨_, _, rfl, Gt.refl _, GN.nil _ _, GN.nil _ _, Apt.nil _⟩ ?_
      rintro x vs m3 hx ⟨w1, w2, rfl, e3, hw1, hw2', hap⟩ self hself
      have n3 := e3.next
      have hw3 := hw2.mono e3
      have hv3 := hv2.mono e3
      try simp (disch := first | omega | with_unfolding_all exact id rfl | with_unfolding_all exact Nat.le_of_ble_eq_true rfl | (simp only [Jd, Je, Jr, Js, Jt, Nat.reduceAdd, allOne, oneCell, Bool.and_self, Jc]; first | done | omega)) only [↓Qa, ↓Qb, Qd, Qe, Qf, Qg, Qh, Qi, Qj, Qk, Ql, Qm, Qn, Qo, Qp, Qq, Qr, Qs, Qt, Qu, Qv, Qw, Qx, Qy, ptrTo, Qz, QA, QB, QC, QD, QE, QF, QG, QH, QI, QJ, QK, QL, QM, QN, QO, QP, QQ, QR, QS, QT, QU, QV, QW, QX, QY, QZ, Ja, Jb, Jc, Jd, Je, Jf, Jg, Jh, Ji, Jj, Jk, Jl, Jm, Jn, Jo, Jp, Jq, Jr, Js, Jt, Nat.reduceAdd]
      refine oIf_dec (fun h2 => ?_) (fun h2 => ?_)
      · have hxN : x < ws.length := by omega
        have hwx : wOf ws x = ws[x] := getD_at hxN
        have l1 := ownW_le ws t x
        have l2 := othW_le ws t x
        have hf6 : ∀ K : Value → Option Unit, oInt .add .i64 (.int .i64 (x : Int)) (.int .i64 1) K = K (.int .i64 ((x + 1 : Nat) : Int)) := fun K => by rw [oInt_add ⟨by omega, by omega⟩]; rfl
        rw [hw3.ia hxN, oOpt_e, hw3.ld hxN, oOpt_e]
        refine contains_sp hlf hv3 (by omega) ?_
        by_cases hxt : x ∈ t
        · obtain ⟨o1, o2⟩ := ownW_t (ws := ws) hxt
          obtain ⟨u1, m4, s1, s2, e4, s4, s5⟩ := GN.snoc2 (P := Try.prog) (t := 22) (L := L) (m0 := m2) ws[x] ael22 (by omega) hw1 (by omega) (by omega) e3 (Nat.le_refl _)
          obtain ⟨s6, s7⟩ := s5 w2 _ _ hw2' hap
          try simp (disch := first | omega | with_unfolding_all exact id rfl | with_unfolding_all exact Nat.le_of_ble_eq_true rfl | (simp only [Jd, Je, Jr, Js, Jt, Nat.reduceAdd, allOne, oneCell, Bool.and_self, Jc]; first | done | omega)) only [decide_eq_true hxt, bs22, s1, hf6, ↓Qa, ↓Qb, Qd, Qe, Qf, Qg, Qh, Qi, Qj, Qk, Ql, Qm, Qn, Qo, Qp, Qq, Qr, Qs, Qt, Qu, Qv, Qw, Qx, Qy, ptrTo, Qz, QA, QB, QC, QD, QE, QF, QG, QH, QI, QJ, QK, QL, QM, QN, QO, QP, QQ, QR, QS, QT, QU, QV, QW, QX, QY, QZ, Ja, Jb, Jc, Jd, Je, Jf, Jg, Jh, Ji, Jj, Jk, Jl, Jm, Jn, Jo, Jp, Jq, Jr, Js, Jt, Nat.reduceAdd]
          repeat (rw [join_e]; try simp (disch := first | omega | with_unfolding_all exact id rfl | with_unfolding_all exact Nat.le_of_ble_eq_true rfl | (simp only [Jd, Je, Jr, Js, Jt, Nat.reduceAdd, allOne, oneCell, Bool.and_self, Jc]; first | done | omega)) only [decide_eq_true hxt, bs22, s1, hf6, ↓Qa, ↓Qb, Qd, Qe, Qf, Qg, Qh, Qi, Qj, Qk, Ql, Qm, Qn, Qo, Qp, Qq, Qr, Qs, Qt, Qu, Qv, Qw, Qx, Qy, ptrTo, Qz, QA, QB, QC, QD, QE, QF, QG, QH, QI, QJ, QK, QL, QM, QN, QO, QP, QQ, QR, QS, QT, QU, QV, QW, QX, QY, QZ, Ja, Jb, Jc, Jd, Je, Jf, Jg, Jh, Ji, Jj, Jk, Jl, Jm, Jn, Jo, Jp, Jq, Jr, Js, Jt, Nat.reduceAdd])
          try simp (disch := first | omega | with_unfolding_all exact id rfl | with_unfolding_all exact Nat.le_of_ble_eq_true rfl | (simp only [Jd, Je, Jr, Js, Jt, Nat.reduceAdd, allOne, oneCell, Bool.and_self, Jc]; first | done | omega)) only [decide_eq_true hxt, bs22, s1, hf6, ↓Qa, ↓Qb, Qd, Qe, Qf, Qg, Qh, Qi, Qj, Qk, Ql, Qm, Qn, Qo, Qp, Qq, Qr, Qs, Qt, Qu, Qv, Qw, Qx, Qy, ptrTo, Qz, QA, QB, QC, QD, QE, QF, QG, QH, QI, QJ, QK, QL, QM, QN, QO, QP, QQ, QR, QS, QT, QU, QV, QW, QX, QY, QZ, Ja, Jb, Jc, Jd, Je, Jf, Jg, Jh, Ji, Jj, Jk, Jl, Jm, Jn, Jo, Jp, Jq, Jr, Js, Jt, Nat.reduceAdd]
          refine hself hxN _ _ ⟨u1, w2, rfl, e4, ?_, ?_, s7⟩
          · rw [o1, hwx]; exact s2.le n3
          · rw [o2]; exact s6
        · obtain ⟨o1, o2⟩ := ownW_f (ws := ws) hxt
          obtain ⟨u1, m4, s1, s2, e4, s4, s5⟩ := GN.snoc2 (P := Try.prog) (t := 22) (L := L) (m0 := m2) ws[x] ael22 (by omega) hw2' (by omega) (by omega) e3 (Nat.le_refl _)
          obtain ⟨s6, s7⟩ := s5 w1 _ _ hw1 hap.symm
          try simp (disch := first | omega | with_unfolding_all exact id rfl | with_unfolding_all exact Nat.le_of_ble_eq_true rfl | (simp only [Jd, Je, Jr, Js, Jt, Nat.reduceAdd, allOne, oneCell, Bool.and_self, Jc]; first | done | omega)) only [decide_eq_false hxt, bs22, s1, hf6, ↓Qa, ↓Qb, Qd, Qe, Qf, Qg, Qh, Qi, Qj, Qk, Ql, Qm, Qn, Qo, Qp, Qq, Qr, Qs, Qt, Qu, Qv, Qw, Qx, Qy, ptrTo, Qz, QA, QB, QC, QD, QE, QF, QG, QH, QI, QJ, QK, QL, QM, QN, QO, QP, QQ, QR, QS, QT, QU, QV, QW, QX, QY, QZ, Ja, Jb, Jc, Jd, Je, Jf, Jg, Jh, Ji, Jj, Jk, Jl, Jm, Jn, Jo, Jp, Jq, Jr, Js, Jt, Nat.reduceAdd]
          repeat (rw [join_e]; try simp (disch := first | omega | with_unfolding_all exact id rfl | with_unfolding_all exact Nat.le_of_ble_eq_true rfl | (simp only [Jd, Je, Jr, Js, Jt, Nat.reduceAdd, allOne, oneCell, Bool.and_self, Jc]; first | done | omega)) only [decide_eq_false hxt, bs22, s1, hf6, ↓Qa, ↓Qb, Qd, Qe, Qf, Qg, Qh, Qi, Qj, Qk, Ql, Qm, Qn, Qo, Qp, Qq, Qr, Qs, Qt, Qu, Qv, Qw, Qx, Qy, ptrTo, Qz, QA, QB, QC, QD, QE, QF, QG, QH, QI, QJ, QK, QL, QM, QN, QO, QP, QQ, QR, QS, QT, QU, QV, QW, QX, QY, QZ, Ja, Jb, Jc, Jd, Je, Jf, Jg, Jh, Ji, Jj, Jk, Jl, Jm, Jn, Jo, Jp, Jq, Jr, Js, Jt, Nat.reduceAdd])
          try simp (disch := first | omega | with_unfolding_all exact id rfl | with_unfolding_all exact Nat.le_of_ble_eq_true rfl | (simp only [Jd, Je, Jr, Js, Jt, Nat.reduceAdd, allOne, oneCell, Bool.and_self, Jc]; first | done | omega)) only [decide_eq_false hxt, bs22, s1, hf6, ↓Qa, ↓Qb, Qd, Qe, Qf, Qg, Qh, Qi, Qj, Qk, Ql, Qm, Qn, Qo, Qp, Qq, Qr, Qs, Qt, Qu, Qv, Qw, Qx, Qy, ptrTo, Qz, QA, QB, QC, QD, QE, QF, QG, QH, QI, QJ, QK, QL, QM, QN, QO, QP, QQ, QR, QS, QT, QU, QV, QW, QX, QY, QZ, Ja, Jb, Jc, Jd, Je, Jf, Jg, Jh, Ji, Jj, Jk, Jl, Jm, Jn, Jo, Jp, Jq, Jr, Js, Jt, Nat.reduceAdd]
          refine hself hxN _ _ ⟨w1, u1, rfl, e4, ?_, ?_, s7.symm⟩
          · rw [o1]; exact s6
          · rw [o2, hwx]; exact s2.le n3
      · have hxN : x = ws.length := by omega
        subst hxN
        clear hself h2
        have l1 := ownW_le ws t ws.length
        have l2 := othW_le ws t ws.length
        rw [r55]
        refine sort_sp hw1 (L := L) (by omega) e3 (Nat.le_refl _) (by rw [ci_length]; omega) fun m4 e4 h4 n4 k4 => ?_
        have hw2'' := hw2'.keepB (m' := m4) fun c hc => k4 c fun h => hap c h hc
        refine sort_sp hw2'' (L := L) (by omega) e4 (Nat.le_refl _) (by rw [ci_length]; omega) fun m5 e5 h5 n5 k5 => ?_
        obtain ⟨A, a1, a2, a3⟩ := isort_nat (ownW ws t ws.length)
        obtain ⟨O, o1, o2, o3⟩ := isort_nat (othW ws t ws.length)
        rw [a1] at h4
        rw [o1] at h5
        have h4 : GN m2.next m4 w1 A := h4
        have hO : GN m2.next m5 w2 O := h5
        have hAg := h4.keepB (m' := m5) fun c hc => k5 c fun h => hap c hc h
        have pA : A.Perm (t.map (wOf ws)) := by
          have := a2
          unfold ownW at this
          rwa [q5.eq] at this
        have pO : O.Perm ((oth ws.length t).map (wOf ws)) := o2
        have hlo := lo_is (j := j) q5 pA a3 pO o3
        have hhi := hi_is (j := j) q5 pA a3 pO o3
        have hAl : A.length = t.length := by rw [pA.length_eq, List.length_map]
        have hOl : O.length = ws.length - t.length := by rw [pO.length_eq, List.length_map, (oth_bl q5).len]
        have hA50 : ∀ x ∈ A, x ≤ 50 := fun x hx => by
          obtain ⟨y, _, rfl⟩ := List.mem_map.1 (pA.mem_iff.1 hx)
          exact getD_le q3 y
        have hO50 : ∀ x ∈ O, x ≤ 50 := fun x hx => by
          obtain ⟨y, _, rfl⟩ := List.mem_map.1 (pO.mem_iff.1 hx)
          exact getD_le q3 y
        have hbA := msum_bd (dLo A O t.length) fun i => by have := getD_le hA50 (t.length - 1 - i); unfold dLo; omega
        have hbO := msum_bd (dHi A O) fun i => by have := getD_le hO50 (O.length - 1 - i); unfold dHi; omega
        have hA5 := hA2.mono e5
        rw [hA5.rd, rdn3, oOpt_e]
        refine weight_sp hlf (hw2.mono e5) q3 q2 (hv2.mono e5) q5 fun m6 e6 => ?_
        have hAg6 := hAg.mono e6
        have hO6 := hO.mono e6
        have hmin := min3_e j A.length O.length
        rw [hAg6.ln, oOpt_e, hO6.ln, oOpt_e, hmin, oOpt_e]
        have hWb := wgt_le q3 t
        rw [hAl]
        refine loop_up (min (min j t.length) O.length) (fun i vs m' => vs = [.int .i64 ((wgt ws t : Int) + msum (dLo A O t.length) i), .int .i64 ((wgt ws t : Int) - msum (dHi A O) i), .int .i64 (i : Int)] ∧ m' = m6) (by omega) ⟨by simp [msum], rfl⟩ ?_
        rintro i vs m' hi' ⟨rfl, rfl⟩ self hself
        have b1 := hbA i
        have b2 := hbO i
        try simp (disch := first | omega | with_unfolding_all exact id rfl | with_unfolding_all exact Nat.le_of_ble_eq_true rfl | (simp only [Jd, Je, Jr, Js, Jt, Nat.reduceAdd, allOne, oneCell, Bool.and_self, Jc]; first | done | omega)) only [↓Qa, ↓Qb, ↓Qc, Qd, Qe, Qf, Qg, Qh, Qi, Qj, Qk, Ql, Qm, Qn, Qo, Qp, Qq, Qr, Qs, Qt, Qu, Qv, Qw, Qx, Qy, ptrTo, Qz, QA, QB, QC, QD, QE, QF, QG, QH, QI, QJ, QK, QL, QM, QN, QO, QP, QQ, QR, QS, QT, QU, QV, QW, QX, QY, QZ, Ja, Jb, Jc, Jd, Je, Jf, Jg, Jh, Ji, Jj, Jk, Jl, Jm, Jn, Jo, Jp, Jq, Jr, Js, Jt, Nat.reduceAdd]
        refine oIf_dec (fun h2 => ?_) (fun h2 => ?_)
        · have hiO : i < O.length := by omega
          have hiA : i < A.length := by omega
          have hiA2 : t.length - 1 - i < A.length := by omega
          have hiO2 : O.length - 1 - i < O.length := by omega
          have b3 := hbA (i + 1)
          have b4 := hbO (i + 1)
          have d1 : dLo A O t.length i = (O[i] : Int) - (A[t.length - 1 - i] : Int) := by unfold dLo; rw [getD_at hiO, getD_at hiA2]
          have d2 : dHi A O i = (A[i] : Int) - (O[O.length - 1 - i] : Int) := by unfold dHi; rw [getD_at hiA, getD_at hiO2]
          have m1 : msum (dLo A O t.length) (i + 1) = msum (dLo A O t.length) i + min 0 (dLo A O t.length i) := rfl
          have m2 : msum (dHi A O) (i + 1) = msum (dHi A O) i + min 0 (dHi A O i) := rfl
          have x1 := hA50 _ (List.getElem_mem hiA2)
          have x2 := hO50 _ (List.getElem_mem hiO)
          have x3 := hA50 _ (List.getElem_mem hiA)
          have x4 := hO50 _ (List.getElem_mem hiO2)
          rw [hO6.inn.ia hiO, oOpt_e, hO6.inn.ld hiO, oOpt_e, oInt_sub ⟨by omega, by omega⟩, oInt_sub ⟨by omega, by omega⟩, show (t.length : Int) - 1 - (i : Int) = ((t.length - 1 - i : Nat) : Int) by omega, hAg6.inn.ia hiA2, oOpt_e, hAg6.inn.ld hiA2, oOpt_e, oInt_sub ⟨by omega, by omega⟩, ← d1, minI_e, oOpt_e, oInt_add ⟨by omega, by omega⟩,
            oInt_sub ⟨by omega, by omega⟩, oInt_sub ⟨by omega, by omega⟩, show (O.length : Int) - 1 - (i : Int) = ((O.length - 1 - i : Nat) : Int) by omega, hO6.inn.ia hiO2, oOpt_e, hO6.inn.ld hiO2, oOpt_e, hAg6.inn.ia hiA, oOpt_e, hAg6.inn.ld hiA, oOpt_e, oInt_sub ⟨by omega, by omega⟩, maxI_e, oOpt_e, oInt_add ⟨by omega, by omega⟩, oInt_add ⟨by omega, by omega⟩]
          refine hself (by omega) _ _ ⟨?_, rfl⟩
          rw [m1, m2, show (wgt ws t : Int) + msum (dLo A O t.length) i + min 0 (dLo A O t.length i) = (wgt ws t : Int) + (msum (dLo A O t.length) i + min 0 (dLo A O t.length i)) by omega,
            show (wgt ws t : Int) - msum (dHi A O) i + max 0 ((O[O.length - 1 - i] : Int) - (A[i] : Int)) = (wgt ws t : Int) - (msum (dHi A O) i + min 0 (dHi A O i)) by omega]
          rfl
        · have : i = min (min j t.length) O.length := by omega
          subst this
          exact hk0 _ _ _ (G.trans (e5.trans e6)) hlo hhi
    · rw [decide_eq_false hj]
      try simp (disch := first | omega | with_unfolding_all exact id rfl | with_unfolding_all exact Nat.le_of_ble_eq_true rfl | (simp only [Jd, Je, Jr, Js, Jt, Nat.reduceAdd, allOne, oneCell, Bool.and_self, Jc]; first | done | omega)) only [↓Qa, ↓Qb, Qd, Qe, Qf, Qg, Qh, Qi, Qj, Qk, Ql, Qm, Qn, Qo, Qp, Qq, Qr, Qs, Qt, Qu, Qv, Qw, Qx, Qy, ptrTo, Qz, QA, QB, QC, QD, QE, QF, QG, QH, QI, QJ, QK, QL, QM, QN, QO, QP, QQ, QR, QS, QT, QU, QV, QW, QX, QY, QZ, Ja, Jb, Jc, Jd, Je, Jf, Jg, Jh, Ji, Jj, Jk, Jl, Jm, Jn, Jo, Jp, Jq, Jr, Js, Jt, Nat.reduceAdd]
      exact hk1 _ G h hj
  · try simp (disch := first | omega | with_unfolding_all exact id rfl | with_unfolding_all exact Nat.le_of_ble_eq_true rfl | (simp only [Jd, Je, Jr, Js, Jt, Nat.reduceAdd, allOne, oneCell, Bool.and_self, Jc]; first | done | omega)) only [decide_eq_false h, ↓Qa, ↓Qb, Qd, Qe, Qf, Qg, Qh, Qi, Qj, Qk, Ql, Qm, Qn, Qo, Qp, Qq, Qr, Qs, Qt, Qu, Qv, Qw, Qx, Qy, ptrTo, Qz, QA, QB, QC, QD, QE, QF, QG, QH, QI, QJ, QK, QL, QM, QN, QO, QP, QQ, QR, QS, QT, QU, QV, QW, QX, QY, QZ, Ja, Jb, Jc, Jd, Je, Jf, Jg, Jh, Ji, Jj, Jk, Jl, Jm, Jn, Jo, Jp, Jq, Jr, Js, Jt, Nat.reduceAdd]
    exact hk2 _ G h
end
end Go.Vit

/- Walks: the sets of bits and the blends they hold. -/
namespace Go.Vit
open Go Go.Proofs
attribute [local irreducible] runT loopS
theorem oOpt_as {β : Type} (x : Option Value) (f : Value → Option Value) (g : Value → Option β) : oOpt (oOpt x f) g = oOpt x fun v => oOpt (f v) g := by
  cases x <;> rfl
theorem oIntG (op : BinOp) (k : IntKind) (a b : Int) {β : Type} (f : Value → Option β) : oInt op k (.int k a) (.int k b) f = oOpt (aint op k a b) f := by
  cases k <;> rfl
theorem oInt16 (op : BinOp) (a b : Int) (f : Value → Option Unit) : oInt op .u16 (.int .u16 a) (.int .u16 b) f = oOpt (aint op .u16 a b) f := rfl
theorem shr16 (a x : Nat) (kd : IntKind) (hx : x ≤ 16) : abin Try.prog .shr 63 (.int .u16 (a : Int)) (.int kd (x : Int)) = some (.int .u16 ((a >>> x : Nat) : Int)) := by
  show ashift .shr .u16 (Int.ofNat a) ((x : Nat) : Int) = _
  unfold ashift
  have h0 : ilt ((x : Nat) : Int) 0 = false := by rw [ilt_e]; simp
  rw [h0]
  show mkI .u16 (ashr (Int.ofNat a) (nmin (Int.toNat (x : Int)) 16)) = _
  have hmin : nmin x 16 = x := by unfold nmin; rw [ble_t hx]
  rw [Int.toNat_natCast, hmin, mkI_e]
  rfl
theorem fits16 {m : Nat} (h : m < 65536) : fits .u16 (Int.ofNat m) = true := by
  show Nat.blt m 65536 = true
  simpa using h
theorem and16 {a b : Nat} (ha : a < 65536) (hb : b < 65536) (f : Value → Option Unit) : oInt .and .u16 (.int .u16 (a : Int)) (.int .u16 (b : Int)) f = f (.int .u16 ((a &&& b : Nat) : Int)) := by
  rw [oInt16]
  show oOpt (mkI .u16 (abits .and .u16 (Int.ofNat a) (Int.ofNat b))) f = _
  unfold abits
  simp only [fits16 ha, fits16 hb, Bool.and_self, fastBits]
  rw [mkI_e, oOpt_e]; rfl
theorem eql16 (a b : Int) (f : Value → Option Unit) : oInt .eql .u16 (.int .u16 a) (.int .u16 b) f = f (.bool (decide (a = b))) := by
  rw [oInt16]; simp only [aint, ieq_e, mkB_e, oOpt_e]
theorem lss16 (a b : Int) (f : Value → Option Unit) : oInt .lss .u16 (.int .u16 a) (.int .u16 b) f = f (.bool (decide (a < b))) := by
  rw [oInt16]; simp only [aint, ilt_e, mkB_e, oOpt_e]
theorem add16 {a b : Nat} (h : a + b < 65536) (f : Value → Option Unit) : oInt .add .u16 (.int .u16 (a : Int)) (.int .u16 (b : Int)) f = f (.int .u16 ((a + b : Nat) : Int)) := by
  rw [oInt16]
  show oOpt (mkI .u16 (fwrap .u16 (Int.ofNat (a + b)))) f = _
  unfold fwrap
  rw [fits16 h]
  simp only []
  rw [mkI_e, oOpt_e]; rfl
theorem shl16 : ∀ N : Nat, N < 10 → abin Try.prog .shl 63 (.int .u16 1) (.int .i64 (N : Int)) = some (.int .u16 ((2 ^ N : Nat) : Int))
  | 0, _ => by kernel_rfl
  | 1, _ => by kernel_rfl
  | 2, _ => by kernel_rfl
  | 3, _ => by kernel_rfl
  | 4, _ => by kernel_rfl
  | 5, _ => by kernel_rfl
  | 6, _ => by kernel_rfl
  | 7, _ => by kernel_rfl
  | 8, _ => by kernel_rfl
  | 9, _ => by kernel_rfl
  | n + 10, h => absurd h (by omega)
/-- The number of bits, by a table. -/
noncomputable def g84 {β : Type} (T x : Value) (f : Value → Option β) : Option β :=
  oOpt (abin Try.prog .shr 63 x (.int .u64 (.ofNat 8))) fun t2 => oOpt (aindex Try.prog 9 T t2) fun t3 => oInt .and .u16 x (.int .u16 (.ofNat 255)) fun t4 => oOpt (aindex Try.prog 9 T t4) fun t5 => oInt .add .u8 t3 t5 fun t6 => oCv .i64 t6 f
theorem S84_g : ∃ T : Value, ∀ (β : Type) (lf : Nat) (cK : CallK β) (x : Value) (L : Nat) (m : Mem) (k : Value → Mem → Option β), S84 lf cK [x] L m k = g84 T x fun v => k v m := ⟨_, fun _ _ _ _ _ _ _ => rfl⟩
theorem ik_as {β : Type} (kd : IntKind) (x : Value) (F : Int → Option Value) (g : Value → Option β) : oOpt (ik kd x F) g = ik kd x fun a => oOpt (F a) g := by
  cases x with
  | int j a =>
    show oOpt (match Nat.beq (kix j) (kix kd) with | true => F a | false => none) g = match Nat.beq (kix j) (kix kd) with | true => oOpt (F a) g | false => none
    cases Nat.beq (kix j) (kix kd) <;> rfl
  | _ => rfl
theorem oOpt_id {β : Type} (x : Option Value) (f : Value → Option β) : oOpt (oOpt x some) f = oOpt x f := by cases x <;> rfl
theorem oInt_as {β : Type} (op : BinOp) (kd : IntKind) (x y : Value) (f : Value → Option β) : oInt op kd x y f = oOpt (oInt op kd x y some) f := by
  unfold oInt
  rw [ik_as]
  congr 1; funext a
  rw [ik_as]
  congr 1; funext b
  rw [oOpt_id]
theorem oCv_as {β : Type} (kd : IntKind) (x : Value) (f : Value → Option β) : oCv kd x f = oOpt (oCv kd x some) f := by
  cases x with
  | int j a =>
    show oOpt _ f = oOpt (oOpt _ some) f
    rw [oOpt_id]
  | _ => rfl
theorem oInt_bind {β : Type} (op : BinOp) (kd : IntKind) (x y : Value) (F : Value → Option Value) (g : Value → Option β) : oOpt (oInt op kd x y F) g = oInt op kd x y fun v => oOpt (F v) g := by
  rw [oInt_as op kd x y F, oOpt_as, ← oInt_as]
theorem g84_as {β : Type} (T x : Value) (f : Value → Option β) : g84 T x f = oOpt (g84 T x some) f := by
  unfold g84
  rw [oOpt_as]
  congr 1; funext t2
  rw [oOpt_as]
  congr 1; funext t3
  rw [oInt_bind]
  congr 1; funext t4
  rw [oOpt_as]
  congr 1; funext t5
  rw [oInt_bind]
  congr 1; funext t6
  exact oCv_as _ _ _
/-- The number of bits, by the tables. -/
noncomputable def pop84 (x : Nat) : Option Value := S84 (β := Value) 0 (fun _ _ _ _ _ => none) [.int .u16 (Int.ofNat x)] 0 ⟨.e, 0⟩ fun v _ => some v
noncomputable def chk84 (x : Nat) : Bool := match pop84 x with
  | some (.int k z) => (match k with | .i64 => true | _ => false) && ieq z (Int.ofNat (popN x))
  | _ => false
theorem chk84_all : ((List.range 512).all chk84) = true := by kernel_rfl
theorem pop84_e {x : Nat} (hx : x < 512) : pop84 x = some (.int .i64 (popN x : Int)) := by
  have h := List.all_eq_true.1 chk84_all x (List.mem_range.2 hx)
  unfold chk84 at h
  split at h
  · rename_i k z hz
    rw [hz]
    simp only [Bool.and_eq_true] at h
    obtain ⟨h1, h2⟩ := h
    rw [ieq_e, decide_eq_true_eq] at h2
    split at h1
    · rw [h2]; rfl
    · cases h1
  · cases h
section
variable {lf n L : Nat} {m : Mem} {k : Value → Mem → Option Unit}
theorem pop_sp {x : Nat} (hx : x < 512) (hk : k (.int .i64 (popN x : Int)) m = some ()) : runT (tab lf) (n + 1) 84 [.int .u16 (x : Int)] L m k = some () := by
  rw [r84]
  have h : S84 lf (runT (tab lf) n) [.int .u16 (x : Int)] L m k = oOpt (pop84 x) fun v => k v m := by
    obtain ⟨T, hT⟩ := S84_g
    unfold pop84
    rw [hT, hT, g84_as]
    rfl
  rw [h, pop84_e hx, oOpt_e]
  exact hk
end
end Go.Vit

/- Walks: all blends are gone through, by their bits; what a round of the law does. -/
namespace Go.Vit
open Go Go.Proofs
attribute [local irreducible] runT loopS
theorem bit_e (x i : Nat) : decide ((((x >>> i) &&& 1 : Nat) : Int) = 1) = x.testBit i := by
  rw [Nat.and_one_is_mod, Nat.testBit_eq_decide_div_mod_eq, Nat.shiftRight_eq_div_pow]
  refine decide_eq_decide.2 ?_
  omega
section
variable {lf n L : Nat} {m : Mem} {k : Value → Mem → Option Unit}
theorem held_sp {x N : Nat} (hlf : 1000000 ≤ lf) (hL : L ≤ m.next) (hx : x < 512) (hN : N ≤ 9) (hk : ∀ u m', Gt m m' → GN m.next m' u (heldN x N) → k u m' = some ()) : runT (tab lf) (n + 1) 85 [.int .u16 (x : Int), .int .i64 (N : Int)] L m k = some () := by
  rw [r85]; dsimp only [S85, iofNat, inegSucc]
  try simp (disch := first | omega | with_unfolding_all exact id rfl | with_unfolding_all exact Nat.le_of_ble_eq_true rfl | (simp only [Jd, Je, Jr, Js, Jt, Nat.reduceAdd, allOne, oneCell, Bool.and_self, Jc]; first | done | omega)) only [↓Qa, ↓Qb, ↓Qc, Qd, Qe, Qf, Qg, Qh, Qi, Qj, Qk, Ql, Qm, Qn, Qo, Qp, Qq, Qr, Qs, Qt, Qu, Qv, Qw, Qx, Qy, ptrTo, Qz, QA, QB, QC, QD, QE, QF, QG, QH, QI, QJ, QK, QL, QM, QN, QO, QP, QQ, QR, QS, QT, QU, QV, QW, QX, QY, QZ, Ja, Jb, Jc, Jd, Je, Jf, Jg, Jh, Ji, Jj, Jk, Jl, Jm, Jn, Jo, Jp, Jq, Jr, Js, Jt, Nat.reduceAdd]
  refine loop_up N (fun i vs m' => ∃ w, vs = [w, .int .i64 (i : Int)] ∧ Gt m m' ∧ GN m.next m' w (heldN x i)) (by omega) ⟨_, rfl, Gt.refl _, GN.nil _ _⟩ ?_
  rintro i vs m5 hi ⟨w, rfl, e5, hw⟩ self hself
  have n5 := e5.next
  try simp (disch := first | omega | with_unfolding_all exact id rfl | with_unfolding_all exact Nat.le_of_ble_eq_true rfl | (simp only [Jd, Je, Jr, Js, Jt, Nat.reduceAdd, allOne, oneCell, Bool.and_self, Jc]; first | done | omega)) only [↓Qa, ↓Qb, ↓Qc, Qd, Qe, Qf, Qg, Qh, Qi, Qj, Qk, Ql, Qm, Qn, Qo, Qp, Qq, Qr, Qs, Qt, Qu, Qv, Qw, Qx, Qy, ptrTo, Qz, QA, QB, QC, QD, QE, QF, QG, QH, QI, QJ, QK, QL, QM, QN, QO, QP, QQ, QR, QS, QT, QU, QV, QW, QX, QY, QZ, Ja, Jb, Jc, Jd, Je, Jf, Jg, Jh, Ji, Jj, Jk, Jl, Jm, Jn, Jo, Jp, Jq, Jr, Js, Jt, Nat.reduceAdd]
  refine oIf_dec (fun h => ?_) (fun h => ?_)
  · have hiN : i < N := by omega
    have hle : (heldN x i).length ≤ i := by
      have := List.length_filter_le (fun i => x.testBit i) (List.range i)
      rw [List.length_range] at this
      exact this
    have hsx : x >>> i < 65536 := by
      rw [Nat.shiftRight_eq_div_pow]
      have := Nat.div_le_self x (2 ^ i)
      omega
    have hf6 : ∀ K : Value → Option Unit, oInt .add .i64 (.int .i64 (i : Int)) (.int .i64 1) K = K (.int .i64 ((i + 1 : Nat) : Int)) := fun K => by rw [oInt_add ⟨by omega, by omega⟩]; rfl
    have hsh := shr16 x i .i64 (by omega)
    rw [hsh, oOpt_e, show (1 : Int) = ((1 : Nat) : Int) from rfl, and16 hsx (by omega), eql16, show ((1 : Nat) : Int) = 1 from rfl, bit_e]
    have hst : heldN x (i + 1) = heldN x i ++ if x.testBit i = true then [i] else [] := by
      unfold heldN
      rw [List.range_succ, List.filter_append]
      congr 1
      by_cases hb : x.testBit i = true <;> simp [hb]
    cases hb : x.testBit i with
    | true =>
      rw [hb, if_pos rfl] at hst
      obtain ⟨w2, m6, h8, h9, h10, h11⟩ := GN.snoc (P := Try.prog) (t := 22) (L := L) (m0 := m) i ael22 (by omega) hw (by omega) (by omega) e5 (Nat.le_refl _)
      try simp (disch := first | omega | with_unfolding_all exact id rfl | with_unfolding_all exact Nat.le_of_ble_eq_true rfl | (simp only [Jd, Je, Jr, Js, Jt, Nat.reduceAdd, allOne, oneCell, Bool.and_self, Jc]; first | done | omega)) only [bs22, h8, hf6, ↓Qa, ↓Qb, Qd, Qe, Qf, Qg, Qh, Qi, Qj, Qk, Ql, Qm, Qn, Qo, Qp, Qq, Qr, Qs, Qt, Qu, Qv, Qw, Qx, Qy, ptrTo, Qz, QA, QB, QC, QD, QE, QF, QG, QH, QI, QJ, QK, QL, QM, QN, QO, QP, QQ, QR, QS, QT, QU, QV, QW, QX, QY, QZ, Ja, Jb, Jc, Jd, Je, Jf, Jg, Jh, Ji, Jj, Jk, Jl, Jm, Jn, Jo, Jp, Jq, Jr, Js, Jt, Nat.reduceAdd]
      repeat (rw [join_e]; try simp (disch := first | omega | with_unfolding_all exact id rfl | with_unfolding_all exact Nat.le_of_ble_eq_true rfl | (simp only [Jd, Je, Jr, Js, Jt, Nat.reduceAdd, allOne, oneCell, Bool.and_self, Jc]; first | done | omega)) only [bs22, h8, hf6, ↓Qa, ↓Qb, Qd, Qe, Qf, Qg, Qh, Qi, Qj, Qk, Ql, Qm, Qn, Qo, Qp, Qq, Qr, Qs, Qt, Qu, Qv, Qw, Qx, Qy, ptrTo, Qz, QA, QB, QC, QD, QE, QF, QG, QH, QI, QJ, QK, QL, QM, QN, QO, QP, QQ, QR, QS, QT, QU, QV, QW, QX, QY, QZ, Ja, Jb, Jc, Jd, Je, Jf, Jg, Jh, Ji, Jj, Jk, Jl, Jm, Jn, Jo, Jp, Jq, Jr, Js, Jt, Nat.reduceAdd])
      try simp (disch := first | omega | with_unfolding_all exact id rfl | with_unfolding_all exact Nat.le_of_ble_eq_true rfl | (simp only [Jd, Je, Jr, Js, Jt, Nat.reduceAdd, allOne, oneCell, Bool.and_self, Jc]; first | done | omega)) only [bs22, h8, hf6, ↓Qa, ↓Qb, Qd, Qe, Qf, Qg, Qh, Qi, Qj, Qk, Ql, Qm, Qn, Qo, Qp, Qq, Qr, Qs, Qt, Qu, Qv, Qw, Qx, Qy, ptrTo, Qz, QA, QB, QC, QD, QE, QF, QG, QH, QI, QJ, QK, QL, QM, QN, QO, QP, QQ, QR, QS, QT, QU, QV, QW, QX, QY, QZ, Ja, Jb, Jc, Jd, Je, Jf, Jg, Jh, Ji, Jj, Jk, Jl, Jm, Jn, Jo, Jp, Jq, Jr, Js, Jt, Nat.reduceAdd]
      refine hself hiN _ _ ⟨w2, rfl, h10, ?_⟩
      rw [hst]; exact h9.le n5
    | false =>
      rw [hb, if_neg (by decide), List.append_nil] at hst
      try simp (disch := first | omega | with_unfolding_all exact id rfl | with_unfolding_all exact Nat.le_of_ble_eq_true rfl | (simp only [Jd, Je, Jr, Js, Jt, Nat.reduceAdd, allOne, oneCell, Bool.and_self, Jc]; first | done | omega)) only [hf6, ↓Qa, ↓Qb, Qd, Qe, Qf, Qg, Qh, Qi, Qj, Qk, Ql, Qm, Qn, Qo, Qp, Qq, Qr, Qs, Qt, Qu, Qv, Qw, Qx, Qy, ptrTo, Qz, QA, QB, QC, QD, QE, QF, QG, QH, QI, QJ, QK, QL, QM, QN, QO, QP, QQ, QR, QS, QT, QU, QV, QW, QX, QY, QZ, Ja, Jb, Jc, Jd, Je, Jf, Jg, Jh, Ji, Jj, Jk, Jl, Jm, Jn, Jo, Jp, Jq, Jr, Js, Jt, Nat.reduceAdd]
      repeat (rw [join_e]; try simp (disch := first | omega | with_unfolding_all exact id rfl | with_unfolding_all exact Nat.le_of_ble_eq_true rfl | (simp only [Jd, Je, Jr, Js, Jt, Nat.reduceAdd, allOne, oneCell, Bool.and_self, Jc]; first | done | omega)) only [hf6, ↓Qa, ↓Qb, Qd, Qe, Qf, Qg, Qh, Qi, Qj, Qk, Ql, Qm, Qn, Qo, Qp, Qq, Qr, Qs, Qt, Qu, Qv, Qw, Qx, Qy, ptrTo, Qz, QA, QB, QC, QD, QE, QF, QG, QH, QI, QJ, QK, QL, QM, QN, QO, QP, QQ, QR, QS, QT, QU, QV, QW, QX, QY, QZ, Ja, Jb, Jc, Jd, Je, Jf, Jg, Jh, Ji, Jj, Jk, Jl, Jm, Jn, Jo, Jp, Jq, Jr, Js, Jt, Nat.reduceAdd])
      try simp (disch := first | omega | with_unfolding_all exact id rfl | with_unfolding_all exact Nat.le_of_ble_eq_true rfl | (simp only [Jd, Je, Jr, Js, Jt, Nat.reduceAdd, allOne, oneCell, Bool.and_self, Jc]; first | done | omega)) only [hf6, ↓Qa, ↓Qb, Qd, Qe, Qf, Qg, Qh, Qi, Qj, Qk, Ql, Qm, Qn, Qo, Qp, Qq, Qr, Qs, Qt, Qu, Qv, Qw, Qx, Qy, ptrTo, Qz, QA, QB, QC, QD, QE, QF, QG, QH, QI, QJ, QK, QL, QM, QN, QO, QP, QQ, QR, QS, QT, QU, QV, QW, QX, QY, QZ, Ja, Jb, Jc, Jd, Je, Jf, Jg, Jh, Ji, Jj, Jk, Jl, Jm, Jn, Jo, Jp, Jq, Jr, Js, Jt, Nat.reduceAdd]
      exact hself hiN _ _ ⟨w, rfl, e5, by rw [hst]; exact hw⟩
  · have : i = N := by omega
    subst this
    exact hk _ _ e5 hw
/-- All blends of a size are handed to a function, one after another. -/
theorem blends_sp {X : Nat → Prop} {J : List (List Nat) → Mem → Prop} {N kk : Nat} {caps : List Value} (hlf : 1000000 ≤ lf) (hL : L ≤ m.next) (hN1 : 1 ≤ N) (hN : N ≤ 9) (hX : ∀ c, X c → c < m.next) (hJ0 : J [] m) (hJm : ∀ seen m m', J seen m → Gt m m' → J seen m')
    (hy : ∀ {m1 u b seen K}, GtX X m m1 → J seen m1 → seen.length ≤ 600 → (∀ c ∈ seen, Bl N kk c) → IN m1 u b → Bl N kk b → (∀ c, bid u = some c → ¬ X c) → (∀ m2, GtX X m1 m2 → J (seen ++ [b]) m2 → K (.tuple ⟨[]⟩) m2 = some ()) → runT (tab lf) (n + 8) 56 (u :: caps) L m1 K = some ())
    (hk : ∀ m', GtX X m m' → J (allH N kk) m' → k (.tuple ⟨[]⟩) m' = some ()) :
    runT (tab lf) (n + 9) 44 [.int .i64 (N : Int), .int .i64 (kk : Int), .func (.func 56) #[] ⟨caps⟩] L m k = some () := by
  rw [r44]; dsimp only [S44, iofNat, inegSucc]
  have hp : 2 ^ N ≤ 512 := by
    have : 2 ^ N ≤ 2 ^ 9 := Nat.pow_le_pow_right (by omega) hN
    omega
  have hsl := shl16 N (by omega)
  rw [uc_e, uc_e, uc_e, un0_e, hsl, oOpt_e]
  refine loop_up (2 ^ N) (fun x vs m' => vs = [.int .u16 (x : Int)] ∧ GtX X m m' ∧ J (allI N kk x) m') (by omega) ⟨rfl, GtX.refl _, hJ0⟩ ?_
  rintro x vs m1 hx' ⟨rfl, e1, hj⟩ self hself
  have n1 := e1.next
  rw [uc_e, lss16]
  refine oIf_dec (fun h => ?_) (fun h => ?_)
  · have hx : x < 2 ^ N := by omega
    have hf6 : ∀ K : Value → Option Unit, oInt .add .u16 (.int .u16 (x : Int)) (.int .u16 1) K = K (.int .u16 ((x + 1 : Nat) : Int)) := fun K => add16 (b := 1) (by omega) K
    refine pop_sp (by omega) ?_
    rw [oInt_eql, join_e]
    by_cases hp : popN x = kk
    · have hbl := held_bl hN hx hp
      rw [decide_eq_true (show (popN x : Int) = (kk : Int) by omega), oIf_t]
      refine held_sp hlf (by omega) (by omega) hN fun u m2 e2 hu => ?_
      have n2 := e2.next
      have hub := hu.bid_lt
      rw [oCallV_e (hf := rfl)]
      show runT (tab lf) (n + 8) 56 (u :: caps) L m2 _ = some ()
      have hlen : (allI N kk x).length ≤ x := by
        unfold allI
        have := List.length_filter_le (fun x => decide (popN x = kk)) (List.range x)
        rw [List.length_range] at this
        rw [List.length_map]; exact this
      refine hy (e1.trans (GtX.of e2)) (hJm _ _ _ hj e2) (by omega) (fun c hc => ?_) hu.inn hbl (fun c hc hxc => by have := hub c hc; have := hX c hxc; omega) fun m3 e3 hj3 => ?_
      · unfold allI at hc
        obtain ⟨y, hy, rfl⟩ := List.mem_map.1 hc
        obtain ⟨hy1, hy2⟩ := List.mem_filter.1 hy
        exact held_bl hN (by have := List.mem_range.1 hy1; omega) (of_decide_eq_true hy2)
      show (oInt .add .u16 (.int .u16 (x : Int)) (.int .u16 1) fun t19 => self [t19] _) = some ()
      rw [hf6]
      exact hself (by omega) _ _ ⟨rfl, (e1.trans (GtX.of e2)).trans e3, by rw [allI_t hp]; exact hj3⟩
    · rw [decide_eq_false (show ¬ (popN x : Int) = (kk : Int) by omega), oIf_f]
      show (oInt .add .u16 (.int .u16 (x : Int)) (.int .u16 1) fun t19 => self [t19] _) = some ()
      rw [hf6]
      exact hself (by omega) _ _ ⟨rfl, e1, by rw [allI_f hp]; exact hj⟩
  · have : x = 2 ^ N := by omega
    subst this
    exact hk _ e1 hj
theorem weigh57_sp {wv u : Value} {ws b : List Nat} {kk : Nat} {lo hi : Int} (hlf : 1000000 ≤ lf) (hw : IN m wv ws) (hws : ∀ w ∈ ws, w ≤ 50) (h10 : ws.length ≤ 10) (hu : IN m u b) (hb : Bl ws.length kk b)
    (hk : ∀ m', Gt m m' → k (.int .i64 (wgt ws b : Int)) m' = some ()) : runT (tab lf) (n + 1) 57 [rcp wv lo hi, u] L m k = some () := by
  rw [r57]
  have h := weight_sp (L := L) (n := n) (lo := lo) (hi := hi) hlf hw hws h10 hu hb hk
  rw [r77] at h
  exact h
end
end Go.Vit

/- Walks: what a round of the law BlendFound does. -/
namespace Go.Vit
open Go Go.Proofs
attribute [local irreducible] runT loopS
theorem join_of {jb : List Value → Mem → Option Unit} {f : (List Value → Mem → Option Unit) → Option Unit} (P : Mem → Prop) (hj : ∀ m', P m' → jb [] m' = some ()) (hf : ∀ j' : List Value → Mem → Option Unit, (∀ m', P m' → j' [] m' = some ()) → f j' = some ()) : join jb f = some () := hf jb hj
/-- One cell. -/
abbrev Cel (m : Mem) (b : Nat) (v : Value) : Prop := m.rd b = some ⟨1, [v], none⟩
theorem stw_cel {L : Nat} {m : Mem} {b : Nat} {v x : Value} (h : Cel m b v) (hL : L ≤ b) (hx : x.cells.toList = [x]) (ho : oneCell x = true) : stw 1 L m b 0 [x] (m.rd b) = some (Go.undef, m.put b (some ⟨1, [x], none⟩)) := by
  have := st_set (L := L) (x := x) h Nat.zero_lt_one hL hx ho
  rw [st1_u, hx] at this
  exact this
def fnd (ws t : List Nat) (lo hi : Int) (seen : List (List Nat)) : List Nat × Nat := (seen.filter (fitB ws lo hi)).foldl (nearS t) ([], 100)
structure FJ (X : Nat → Prop) (ws t : List Nat) (lo hi : Int) (j lc hc cc fc bc : Nat) (seen : List (List Nat)) (m : Mem) : Prop where
  low : Cel m lc (.int .i64 (seen.foldl (lowS ws t j) 1000))
  high : Cel m hc (.int .i64 (seen.foldl (highS ws t j) (-1)))
  cnt : Cel m cc (.int .i64 ((seen.filter (fitB ws lo hi)).length : Int))
  far : Cel m fc (.int .i64 ((fnd ws t lo hi seen).2 : Int))
  best : ∃ bv, Cel m bc bv ∧ IN m bv (fnd ws t lo hi seen).1 ∧ ∀ c, bid bv = some c → ¬ X c
section
variable {lf n L : Nat} {m : Mem} {k : Value → Mem → Option Unit}
set_option maxHeartbeats 4000000 in
theorem round56_sp {X : Nat → Prop} {rb bb jb lc hc cc fc bc : Nat} {u tv wv : Value} {ws t c : List Nat} {lo hi : Int} {seen : List (List Nat)} {j kk : Nat} (hlf : 1000000 ≤ lf) (hL : L ≤ bc) (h1 : bc < fc) (h2 : fc < cc) (h3 : cc < lc) (h4 : lc < hc) (hr1 : rb < bc) (hr2 : bb < bc) (hr3 : jb < bc)
    (hX : ∀ c, X c ↔ c = lc ∨ c = hc ∨ c = cc ∨ c = fc ∨ c = bc) (hR : At m rb (rcC wv lo hi)) (hB : At m bb [tv]) (hJ : At m jb [.int .i64 (j : Int)]) (hw : IN m wv ws) (hws : ∀ w ∈ ws, w ≤ 50) (h10 : ws.length ≤ 10) (hwX : ∀ c, bid wv = some c → ¬ X c)
    (ht : IN m tv t) (htl : Bl ws.length kk t) (htX : 0 < t.length → ∀ c, bid tv = some c → ¬ X c) (hj : FJ X ws t lo hi j lc hc cc fc bc seen m) (hsl : seen.length ≤ 600) (hseen : ∀ c ∈ seen, Bl ws.length kk c) (hu : IN m u c) (hcb : Bl ws.length kk c) (hub : ∀ c, bid u = some c → ¬ X c)
    (hk : ∀ m', GtX X m m' → FJ X ws t lo hi j lc hc cc fc bc (seen ++ [c]) m' → k (.tuple ⟨[]⟩) m' = some ()) :
    runT (tab lf) (n + 8) 56 [u, .pointer (some ⟨rb, 0, none⟩), .pointer (some ⟨bb, 0, none⟩), .pointer (some ⟨jb, 0, none⟩), .pointer (some ⟨lc, 0, none⟩), .pointer (some ⟨hc, 0, none⟩), .pointer (some ⟨cc, 0, none⟩), .pointer (some ⟨fc, 0, none⟩), .pointer (some ⟨bc, 0, none⟩)] L m k = some () := by
  rw [r56]; dsimp only [S56, iofNat, inegSucc]
  have hcl := hcb.len
  have htl2 := htl.len
  have hkk := hcb.le
  have hnX : ∀ {x : Nat}, x < bc → ¬ X x := fun {x} hx h => by rcases (hX x).1 h with h | h | h | h | h <;> omega
  rw [uc_e, uc_e, uc_e, uc_e, uc_e, uc_e, uc_e, uc_e, uc_e, un0_e, ldN_u, hR.rd, rdn3, oOpt_e]
  refine weigh57_sp hlf hw hws h10 hu hcb fun m1 e1 => ?_
  have cB : ([tv] : List Value)[0]? = some tv := rfl
  have cJ : ([.int .i64 (j : Int)] : List Value)[0]? = some (.int .i64 (j : Int)) := rfl
  rw [ld1_u, (hB.mono e1).rd, rdo_e, cB, oOpt_e]
  have hu1 := hu.mono e1
  have ht1 := ht.mono e1
  refine apart_sp hlf hu1 ht1 (by omega) (by omega) ?_
  rw [ld1_u, (hJ.mono e1).rd, rdo_e, cJ, oOpt_e, oInt_leq]
  have hwb := wgt_le hws c
  have hdl := (away_le hcb htl).1
  obtain ⟨bv, hb1, hb2, hb3⟩ := hj.best
  have hlow1 : Cel m1 lc _ := (e1.kept _ (Mem.rd_lt hj.low)).trans hj.low
  have hhigh1 : Cel m1 hc _ := (e1.kept _ (Mem.rd_lt hj.high)).trans hj.high
  have hcnt1 : Cel m1 cc _ := (e1.kept _ (Mem.rd_lt hj.cnt)).trans hj.cnt
  have hfar1 : Cel m1 fc _ := (e1.kept _ (Mem.rd_lt hj.far)).trans hj.far
  have hb11 : Cel m1 bc _ := (e1.kept _ (Mem.rd_lt hb1)).trans hb1
  have hsnoc : (seen ++ [c]).foldl (lowS ws t j) 1000 = lowS ws t j (seen.foldl (lowS ws t j) 1000) c ∧ (seen ++ [c]).foldl (highS ws t j) (-1) = highS ws t j (seen.foldl (highS ws t j) (-1)) c := by
    rw [List.foldl_append, List.foldl_append]; exact ⟨rfl, rfl⟩
  generalize hzl : seen.foldl (lowS ws t j) 1000 = zl at hlow1 hsnoc
  generalize hzh : seen.foldl (highS ws t j) (-1) = zh at hhigh1 hsnoc
  have hcl0 : ∀ v : Value, ([v] : List Value)[0]? = some v := fun _ => rfl
  refine join_of (fun m' => GtX X m m' ∧ Cel m' lc (.int .i64 (lowS ws t j zl c)) ∧ Cel m' hc (.int .i64 (highS ws t j zh c)) ∧ (∀ x, x ≠ lc → x ≠ hc → m'.rd x = m1.rd x) ∧ m'.next = m1.next) ?_ ?_
  · -- weighed, compared
    rintro m2 ⟨e2, l2, g2, r2, n2⟩
    have hcnt2 : Cel m2 cc _ := (r2 cc (by omega) (by omega)).trans hcnt1
    have hfar2 : Cel m2 fc _ := (r2 fc (by omega) (by omega)).trans hfar1
    have hb12 : Cel m2 bc _ := (r2 bc (by omega) (by omega)).trans hb11
    have hR2 : At m2 rb (rcC wv lo hi) := hR.monoX e2 (hnX hr1)
    have hu2 := hu.monoX e2 (fun _ => hub)
    have hb22 := hb2.monoX e2 (fun _ => hb3)
    have hfilt : (seen ++ [c]).filter (fitB ws lo hi) = seen.filter (fitB ws lo hi) ++ if fitB ws lo hi c = true then [c] else [] := by
      rw [List.filter_append]
      congr 1
      by_cases hb : fitB ws lo hi c = true <;> simp [hb]
    obtain ⟨f3, f0, f1, f2⟩ := rc_facts hR2
    have hout : fitB ws lo hi c = false → k (.tuple ⟨[]⟩) m2 = some () := fun hb => by
      rw [hb, if_neg (by decide), List.append_nil] at hfilt
      have hfn : fnd ws t lo hi (seen ++ [c]) = fnd ws t lo hi seen := by unfold fnd; rw [hfilt]
      refine hk m2 e2 ⟨by rw [hsnoc.1]; exact l2, by rw [hsnoc.2]; exact g2, by rw [hfilt]; exact hcnt2, by rw [hfn]; exact hfar2, bv, hb12, by rw [hfn]; exact hb22, hb3⟩
    try simp (disch := first | omega | with_unfolding_all exact id rfl | with_unfolding_all exact Nat.le_of_ble_eq_true rfl | (simp only [Jd, Je, Jr, Js, Jt, Nat.reduceAdd, allOne, oneCell, Bool.and_self, Jc]; first | done | omega)) only [↓Qa, ↓Qb, Qd, Qe, Qf, Qg, Qh, Qi, Qj, Qk, Ql, Qm, Qn, Qo, Qp, Qq, Qr, Qs, Qt, Qu, Qv, Qw, Qx, Qy, ptrTo, Qz, QA, QB, QC, QD, QE, QF, QG, QH, QI, QJ, QK, QL, QM, QN, QO, QP, QQ, QR, QS, QT, QU, QV, QW, QX, QY, QZ, Ja, Jb, Jc, Jd, Je, Jf, Jg, Jh, Ji, Jj, Jk, Jl, Jm, Jn, Jo, Jp, Jq, Jr, Js, Jt, Nat.reduceAdd]
    rw [f1, oOpt_e, oInt_lss]
    by_cases q1 : (wgt ws c : Int) < lo
    · have hb : fitB ws lo hi c = false := decide_eq_false (by omega)
      rw [decide_eq_true q1]
      try simp (disch := first | omega | with_unfolding_all exact id rfl | with_unfolding_all exact Nat.le_of_ble_eq_true rfl | (simp only [Jd, Je, Jr, Js, Jt, Nat.reduceAdd, allOne, oneCell, Bool.and_self, Jc]; first | done | omega)) only [↓Qa, ↓Qb, Qd, Qe, Qf, Qg, Qh, Qi, Qj, Qk, Ql, Qm, Qn, Qo, Qp, Qq, Qr, Qs, Qt, Qu, Qv, Qw, Qx, Qy, ptrTo, Qz, QA, QB, QC, QD, QE, QF, QG, QH, QI, QJ, QK, QL, QM, QN, QO, QP, QQ, QR, QS, QT, QU, QV, QW, QX, QY, QZ, Ja, Jb, Jc, Jd, Je, Jf, Jg, Jh, Ji, Jj, Jk, Jl, Jm, Jn, Jo, Jp, Jq, Jr, Js, Jt, Nat.reduceAdd]
      repeat (rw [join_e]; try simp (disch := first | omega | with_unfolding_all exact id rfl | with_unfolding_all exact Nat.le_of_ble_eq_true rfl | (simp only [Jd, Je, Jr, Js, Jt, Nat.reduceAdd, allOne, oneCell, Bool.and_self, Jc]; first | done | omega)) only [↓Qa, ↓Qb, Qd, Qe, Qf, Qg, Qh, Qi, Qj, Qk, Ql, Qm, Qn, Qo, Qp, Qq, Qr, Qs, Qt, Qu, Qv, Qw, Qx, Qy, ptrTo, Qz, QA, QB, QC, QD, QE, QF, QG, QH, QI, QJ, QK, QL, QM, QN, QO, QP, QQ, QR, QS, QT, QU, QV, QW, QX, QY, QZ, Ja, Jb, Jc, Jd, Je, Jf, Jg, Jh, Ji, Jj, Jk, Jl, Jm, Jn, Jo, Jp, Jq, Jr, Js, Jt, Nat.reduceAdd])
      try simp (disch := first | omega | with_unfolding_all exact id rfl | with_unfolding_all exact Nat.le_of_ble_eq_true rfl | (simp only [Jd, Je, Jr, Js, Jt, Nat.reduceAdd, allOne, oneCell, Bool.and_self, Jc]; first | done | omega)) only [↓Qa, ↓Qb, Qd, Qe, Qf, Qg, Qh, Qi, Qj, Qk, Ql, Qm, Qn, Qo, Qp, Qq, Qr, Qs, Qt, Qu, Qv, Qw, Qx, Qy, ptrTo, Qz, QA, QB, QC, QD, QE, QF, QG, QH, QI, QJ, QK, QL, QM, QN, QO, QP, QQ, QR, QS, QT, QU, QV, QW, QX, QY, QZ, Ja, Jb, Jc, Jd, Je, Jf, Jg, Jh, Ji, Jj, Jk, Jl, Jm, Jn, Jo, Jp, Jq, Jr, Js, Jt, Nat.reduceAdd]
      exact hout hb
    rw [decide_eq_false q1]
    try simp (disch := first | omega | with_unfolding_all exact id rfl | with_unfolding_all exact Nat.le_of_ble_eq_true rfl | (simp only [Jd, Je, Jr, Js, Jt, Nat.reduceAdd, allOne, oneCell, Bool.and_self, Jc]; first | done | omega)) only [f2, ↓Qa, ↓Qb, Qd, Qe, Qf, Qg, Qh, Qi, Qj, Qk, Ql, Qm, Qn, Qo, Qp, Qq, Qr, Qs, Qt, Qu, Qv, Qw, Qx, Qy, ptrTo, Qz, QA, QB, QC, QD, QE, QF, QG, QH, QI, QJ, QK, QL, QM, QN, QO, QP, QQ, QR, QS, QT, QU, QV, QW, QX, QY, QZ, Ja, Jb, Jc, Jd, Je, Jf, Jg, Jh, Ji, Jj, Jk, Jl, Jm, Jn, Jo, Jp, Jq, Jr, Js, Jt, Nat.reduceAdd]
    rw [join_e]
    try simp (disch := first | omega | with_unfolding_all exact id rfl | with_unfolding_all exact Nat.le_of_ble_eq_true rfl | (simp only [Jd, Je, Jr, Js, Jt, Nat.reduceAdd, allOne, oneCell, Bool.and_self, Jc]; first | done | omega)) only [f2, ↓Qa, ↓Qb, Qd, Qe, Qf, Qg, Qh, Qi, Qj, Qk, Ql, Qm, Qn, Qo, Qp, Qq, Qr, Qs, Qt, Qu, Qv, Qw, Qx, Qy, ptrTo, Qz, QA, QB, QC, QD, QE, QF, QG, QH, QI, QJ, QK, QL, QM, QN, QO, QP, QQ, QR, QS, QT, QU, QV, QW, QX, QY, QZ, Ja, Jb, Jc, Jd, Je, Jf, Jg, Jh, Ji, Jj, Jk, Jl, Jm, Jn, Jo, Jp, Jq, Jr, Js, Jt, Nat.reduceAdd]
    by_cases q2 : hi < (wgt ws c : Int)
    · have hb : fitB ws lo hi c = false := decide_eq_false (by omega)
      try simp (disch := first | omega | with_unfolding_all exact id rfl | with_unfolding_all exact Nat.le_of_ble_eq_true rfl | (simp only [Jd, Je, Jr, Js, Jt, Nat.reduceAdd, allOne, oneCell, Bool.and_self, Jc]; first | done | omega)) only [decide_eq_true q2, ↓Qa, ↓Qb, Qd, Qe, Qf, Qg, Qh, Qi, Qj, Qk, Ql, Qm, Qn, Qo, Qp, Qq, Qr, Qs, Qt, Qu, Qv, Qw, Qx, Qy, ptrTo, Qz, QA, QB, QC, QD, QE, QF, QG, QH, QI, QJ, QK, QL, QM, QN, QO, QP, QQ, QR, QS, QT, QU, QV, QW, QX, QY, QZ, Ja, Jb, Jc, Jd, Je, Jf, Jg, Jh, Ji, Jj, Jk, Jl, Jm, Jn, Jo, Jp, Jq, Jr, Js, Jt, Nat.reduceAdd]
      repeat (rw [join_e]; try simp (disch := first | omega | with_unfolding_all exact id rfl | with_unfolding_all exact Nat.le_of_ble_eq_true rfl | (simp only [Jd, Je, Jr, Js, Jt, Nat.reduceAdd, allOne, oneCell, Bool.and_self, Jc]; first | done | omega)) only [decide_eq_true q2, ↓Qa, ↓Qb, Qd, Qe, Qf, Qg, Qh, Qi, Qj, Qk, Ql, Qm, Qn, Qo, Qp, Qq, Qr, Qs, Qt, Qu, Qv, Qw, Qx, Qy, ptrTo, Qz, QA, QB, QC, QD, QE, QF, QG, QH, QI, QJ, QK, QL, QM, QN, QO, QP, QQ, QR, QS, QT, QU, QV, QW, QX, QY, QZ, Ja, Jb, Jc, Jd, Je, Jf, Jg, Jh, Ji, Jj, Jk, Jl, Jm, Jn, Jo, Jp, Jq, Jr, Js, Jt, Nat.reduceAdd])
      try simp (disch := first | omega | with_unfolding_all exact id rfl | with_unfolding_all exact Nat.le_of_ble_eq_true rfl | (simp only [Jd, Je, Jr, Js, Jt, Nat.reduceAdd, allOne, oneCell, Bool.and_self, Jc]; first | done | omega)) only [decide_eq_true q2, ↓Qa, ↓Qb, Qd, Qe, Qf, Qg, Qh, Qi, Qj, Qk, Ql, Qm, Qn, Qo, Qp, Qq, Qr, Qs, Qt, Qu, Qv, Qw, Qx, Qy, ptrTo, Qz, QA, QB, QC, QD, QE, QF, QG, QH, QI, QJ, QK, QL, QM, QN, QO, QP, QQ, QR, QS, QT, QU, QV, QW, QX, QY, QZ, Ja, Jb, Jc, Jd, Je, Jf, Jg, Jh, Ji, Jj, Jk, Jl, Jm, Jn, Jo, Jp, Jq, Jr, Js, Jt, Nat.reduceAdd]
      exact hout hb
    have hb : fitB ws lo hi c = true := decide_eq_true (by omega)
    rw [hb, if_pos rfl] at hfilt
    have hfn : fnd ws t lo hi (seen ++ [c]) = nearS t (fnd ws t lo hi seen) c := by unfold fnd; rw [hfilt, List.foldl_append]; rfl
    have hflen : (seen.filter (fitB ws lo hi)).length ≤ 600 := Nat.le_trans (List.length_filter_le _ _) hsl
    have hlen2 : ((seen ++ [c]).filter (fitB ws lo hi)).length = (seen.filter (fitB ws lo hi)).length + 1 := by rw [hfilt, List.length_append]; rfl
    have hfarb := near_inv t (seen.filter (fitB ws lo hi)) ([], 100)
    have hbest : (fnd ws t lo hi seen).1.length < 100 := by
      rcases hfarb.2.2 with h | ⟨h, _⟩
      · have : fnd ws t lo hi seen = ([], 100) := h
        rw [this]; decide
      · have := (hseen _ (List.mem_filter.1 h).1).len
        have e : ((seen.filter (fitB ws lo hi)).foldl (nearS t) ([], 100)).1 = (fnd ws t lo hi seen).1 := rfl
        rw [e] at this
        omega
    have hfar100 : (fnd ws t lo hi seen).2 ≤ 100 := hfarb.1
    generalize (seen.filter (fitB ws lo hi)).length = cn at hcnt2 hflen hlen2
    generalize fnd ws t lo hi seen = st at hfar2 hb22 hfn hbest hfar100
    try simp (disch := first | omega | with_unfolding_all exact id rfl | with_unfolding_all exact Nat.le_of_ble_eq_true rfl | (simp only [Jd, Je, Jr, Js, Jt, Nat.reduceAdd, allOne, oneCell, Bool.and_self, Jc]; first | done | omega)) only [decide_eq_false q2, ↓Qa, ↓Qb, Qd, Qe, Qf, Qg, Qh, Qi, Qj, Qk, Ql, Qm, Qn, Qo, Qp, Qq, Qr, Qs, Qt, Qu, Qv, Qw, Qx, Qy, ptrTo, Qz, QA, QB, QC, QD, QE, QF, QG, QH, QI, QJ, QK, QL, QM, QN, QO, QP, QQ, QR, QS, QT, QU, QV, QW, QX, QY, QZ, Ja, Jb, Jc, Jd, Je, Jf, Jg, Jh, Ji, Jj, Jk, Jl, Jm, Jn, Jo, Jp, Jq, Jr, Js, Jt, Nat.reduceAdd]
    repeat (rw [join_e]; try simp (disch := first | omega | with_unfolding_all exact id rfl | with_unfolding_all exact Nat.le_of_ble_eq_true rfl | (simp only [Jd, Je, Jr, Js, Jt, Nat.reduceAdd, allOne, oneCell, Bool.and_self, Jc]; first | done | omega)) only [decide_eq_false q2, ↓Qa, ↓Qb, Qd, Qe, Qf, Qg, Qh, Qi, Qj, Qk, Ql, Qm, Qn, Qo, Qp, Qq, Qr, Qs, Qt, Qu, Qv, Qw, Qx, Qy, ptrTo, Qz, QA, QB, QC, QD, QE, QF, QG, QH, QI, QJ, QK, QL, QM, QN, QO, QP, QQ, QR, QS, QT, QU, QV, QW, QX, QY, QZ, Ja, Jb, Jc, Jd, Je, Jf, Jg, Jh, Ji, Jj, Jk, Jl, Jm, Jn, Jo, Jp, Jq, Jr, Js, Jt, Nat.reduceAdd])
    try simp (disch := first | omega | with_unfolding_all exact id rfl | with_unfolding_all exact Nat.le_of_ble_eq_true rfl | (simp only [Jd, Je, Jr, Js, Jt, Nat.reduceAdd, allOne, oneCell, Bool.and_self, Jc]; first | done | omega)) only [decide_eq_false q2, ↓Qa, ↓Qb, Qd, Qe, Qf, Qg, Qh, Qi, Qj, Qk, Ql, Qm, Qn, Qo, Qp, Qq, Qr, Qs, Qt, Qu, Qv, Qw, Qx, Qy, ptrTo, Qz, QA, QB, QC, QD, QE, QF, QG, QH, QI, QJ, QK, QL, QM, QN, QO, QP, QQ, QR, QS, QT, QU, QV, QW, QX, QY, QZ, Ja, Jb, Jc, Jd, Je, Jf, Jg, Jh, Ji, Jj, Jk, Jl, Jm, Jn, Jo, Jp, Jq, Jr, Js, Jt, Nat.reduceAdd]
    have hrc : rdo (m2.rd cc) 0 = some (.int .i64 (cn : Int)) := by rw [hcnt2]; rfl
    rw [hrc, oOpt_e, oInt_add ⟨by omega, by omega⟩, show (cn : Int) + 1 = ((cn + 1 : Nat) : Int) from rfl, cells_int, stw_cel hcnt2 (by omega) rfl rfl, oRes_e]
    have c3 : Cel (m2.put cc (some ⟨1, [.int .i64 ((cn + 1 : Nat) : Int)], none⟩)) cc (.int .i64 ((cn + 1 : Nat) : Int)) := Mem.rd_put_eq _ _ (Mem.rd_lt hcnt2)
    have r3 : ∀ x, x ≠ cc → (m2.put cc (some ⟨1, [.int .i64 ((cn + 1 : Nat) : Int)], none⟩)).rd x = m2.rd x := fun x hx => Mem.rd_put _ _ _ _ (Ne.symm hx)
    have e3 : GtX X m (m2.put cc (some ⟨1, [.int .i64 ((cn + 1 : Nat) : Int)], none⟩)) := e2.put ((hX cc).2 (.inr (.inr (.inl rfl)))) _
    have e23 : GtX X m2 (m2.put cc (some ⟨1, [.int .i64 ((cn + 1 : Nat) : Int)], none⟩)) := (GtX.refl m2).put ((hX cc).2 (.inr (.inr (.inl rfl)))) _
    have n3 : (m2.put cc (some ⟨1, [.int .i64 ((cn + 1 : Nat) : Int)], none⟩)).next = m2.next := rfl
    generalize m2.put cc (some ⟨1, [.int .i64 ((cn + 1 : Nat) : Int)], none⟩) = m3 at c3 r3 e3 e23 n3 ⊢
    have l3 := (r3 lc (by omega)).trans l2
    have g3 := (r3 hc (by omega)).trans g2
    have hfar3 : Cel m3 fc _ := (r3 fc (by omega)).trans hfar2
    have hb13 : Cel m3 bc _ := (r3 bc (by omega)).trans hb12
    have hu3 := hu2.monoX e23 (fun _ => hub)
    have hb23 := hb22.monoX e23 (fun _ => hb3)
    have hrf : rdo (m3.rd fc) 0 = some (.int .i64 (st.2 : Int)) := by rw [hfar3]; rfl
    have hrb : rdo (m3.rd bc) 0 = some bv := by rw [hb13]; rfl
    have hno : nearS t st c = st → k (.tuple ⟨[]⟩) m3 = some () := fun hst => by
      rw [hst] at hfn
      exact hk m3 e3 ⟨by rw [hsnoc.1]; exact l3, by rw [hsnoc.2]; exact g3, by rw [hlen2]; exact c3, by rw [hfn]; exact hfar3, bv, hb13, by rw [hfn]; exact hb23, hb3⟩
    have hyes : nearS t st c = (c, awayN c t) → (oRes (stw 1 L m3 bc 0 u.cells.toList (m3.rd bc)) fun t63 m64 => oRes (stw 1 L m64 fc 0 [.int .i64 (awayN c t : Int)] (m64.rd fc)) fun t65 m66 => k (.tuple ⟨[]⟩) m66) = some () := fun hst => by
      rw [hst] at hfn
      obtain ⟨pu, cu, eu⟩ := hu3.ex
      have hcu : u.cells.toList = [u] := by rw [eu]; rfl
      rw [hcu, stw_cel hb13 hL hcu (by rw [eu]; rfl), oRes_e]
      have b4 : Cel (m3.put bc (some ⟨1, [u], none⟩)) bc u := Mem.rd_put_eq _ _ (Mem.rd_lt hb13)
      have r4 : ∀ x, x ≠ bc → (m3.put bc (some ⟨1, [u], none⟩)).rd x = m3.rd x := fun x hx => Mem.rd_put _ _ _ _ (Ne.symm hx)
      have e4 : GtX X m (m3.put bc (some ⟨1, [u], none⟩)) := e3.put ((hX bc).2 (.inr (.inr (.inr (.inr rfl))))) _
      have e34 : GtX X m3 (m3.put bc (some ⟨1, [u], none⟩)) := (GtX.refl m3).put ((hX bc).2 (.inr (.inr (.inr (.inr rfl))))) _
      generalize m3.put bc (some ⟨1, [u], none⟩) = m4 at b4 r4 e4 e34 ⊢
      have hfar4 : Cel m4 fc _ := (r4 fc (by omega)).trans hfar3
      rw [stw_cel hfar4 (by omega) rfl rfl, oRes_e]
      have f5 : Cel (m4.put fc (some ⟨1, [.int .i64 (awayN c t : Int)], none⟩)) fc (.int .i64 (awayN c t : Int)) := Mem.rd_put_eq _ _ (Mem.rd_lt hfar4)
      have r5 : ∀ x, x ≠ fc → (m4.put fc (some ⟨1, [.int .i64 (awayN c t : Int)], none⟩)).rd x = m4.rd x := fun x hx => Mem.rd_put _ _ _ _ (Ne.symm hx)
      have e5 : GtX X m (m4.put fc (some ⟨1, [.int .i64 (awayN c t : Int)], none⟩)) := e4.put ((hX fc).2 (.inr (.inr (.inr (.inl rfl))))) _
      have e35 : GtX X m3 (m4.put fc (some ⟨1, [.int .i64 (awayN c t : Int)], none⟩)) := e34.put ((hX fc).2 (.inr (.inr (.inr (.inl rfl))))) _
      generalize m4.put fc (some ⟨1, [.int .i64 (awayN c t : Int)], none⟩) = m5 at f5 r5 e5 e35 ⊢
      have r35 : ∀ x, x ≠ bc → x ≠ fc → m5.rd x = m3.rd x := fun x hx hx2 => (r5 x hx2).trans (r4 x hx)
      exact hk m5 e5 ⟨by rw [hsnoc.1]; exact (r35 lc (by omega) (by omega)).trans l3, by rw [hsnoc.2]; exact (r35 hc (by omega) (by omega)).trans g3, by rw [hlen2]; exact (r35 cc (by omega) (by omega)).trans c3, by rw [hfn]; exact f5, u, (r5 bc (by omega)).trans b4, by rw [hfn]; exact hu3.monoX e35 (fun _ => hub), hub⟩
    rw [hrf, oOpt_e, oInt_lss]
    by_cases q3 : awayN c t < st.2
    · have d3 : decide ((awayN c t : Int) < (st.2 : Int)) = true := decide_eq_true (by omega)
      have := hyes (if_pos (.inl q3))
      rw [d3]
      try simp (disch := first | omega | with_unfolding_all exact id rfl | with_unfolding_all exact Nat.le_of_ble_eq_true rfl | (simp only [Jd, Je, Jr, Js, Jt, Nat.reduceAdd, allOne, oneCell, Bool.and_self, Jc]; first | done | omega)) only [↓Qa, ↓Qb, Qd, Qe, Qf, Qg, Qh, Qi, Qj, Qk, Ql, Qm, Qn, Qo, Qp, Qq, Qr, Qs, Qt, Qu, Qv, Qw, Qx, Qy, ptrTo, Qz, QA, QB, QC, QD, QE, QF, QG, QH, QI, QJ, QK, QL, QM, QN, QO, QP, QQ, QR, QS, QT, QU, QV, QW, QX, QY, QZ, Ja, Jb, Jc, Jd, Je, Jf, Jg, Jh, Ji, Jj, Jk, Jl, Jm, Jn, Jo, Jp, Jq, Jr, Js, Jt, Nat.reduceAdd]
      repeat (rw [join_e]; try simp (disch := first | omega | with_unfolding_all exact id rfl | with_unfolding_all exact Nat.le_of_ble_eq_true rfl | (simp only [Jd, Je, Jr, Js, Jt, Nat.reduceAdd, allOne, oneCell, Bool.and_self, Jc]; first | done | omega)) only [↓Qa, ↓Qb, Qd, Qe, Qf, Qg, Qh, Qi, Qj, Qk, Ql, Qm, Qn, Qo, Qp, Qq, Qr, Qs, Qt, Qu, Qv, Qw, Qx, Qy, ptrTo, Qz, QA, QB, QC, QD, QE, QF, QG, QH, QI, QJ, QK, QL, QM, QN, QO, QP, QQ, QR, QS, QT, QU, QV, QW, QX, QY, QZ, Ja, Jb, Jc, Jd, Je, Jf, Jg, Jh, Ji, Jj, Jk, Jl, Jm, Jn, Jo, Jp, Jq, Jr, Js, Jt, Nat.reduceAdd])
      try simp (disch := first | omega | with_unfolding_all exact id rfl | with_unfolding_all exact Nat.le_of_ble_eq_true rfl | (simp only [Jd, Je, Jr, Js, Jt, Nat.reduceAdd, allOne, oneCell, Bool.and_self, Jc]; first | done | omega)) only [↓Qa, ↓Qb, Qd, Qe, Qf, Qg, Qh, Qi, Qj, Qk, Ql, Qm, Qn, Qo, Qp, Qq, Qr, Qs, Qt, Qu, Qv, Qw, Qx, Qy, ptrTo, Qz, QA, QB, QC, QD, QE, QF, QG, QH, QI, QJ, QK, QL, QM, QN, QO, QP, QQ, QR, QS, QT, QU, QV, QW, QX, QY, QZ, Ja, Jb, Jc, Jd, Je, Jf, Jg, Jh, Ji, Jj, Jk, Jl, Jm, Jn, Jo, Jp, Jq, Jr, Js, Jt, Nat.reduceAdd]
      exact this
    have d3 : decide ((awayN c t : Int) < (st.2 : Int)) = false := decide_eq_false (by omega)
    rw [d3]
    try simp (disch := first | omega | with_unfolding_all exact id rfl | with_unfolding_all exact Nat.le_of_ble_eq_true rfl | (simp only [Jd, Je, Jr, Js, Jt, Nat.reduceAdd, allOne, oneCell, Bool.and_self, Jc]; first | done | omega)) only [hrf, ↓Qa, ↓Qb, Qd, Qe, Qf, Qg, Qh, Qi, Qj, Qk, Ql, Qm, Qn, Qo, Qp, Qq, Qr, Qs, Qt, Qu, Qv, Qw, Qx, Qy, ptrTo, Qz, QA, QB, QC, QD, QE, QF, QG, QH, QI, QJ, QK, QL, QM, QN, QO, QP, QQ, QR, QS, QT, QU, QV, QW, QX, QY, QZ, Ja, Jb, Jc, Jd, Je, Jf, Jg, Jh, Ji, Jj, Jk, Jl, Jm, Jn, Jo, Jp, Jq, Jr, Js, Jt, Nat.reduceAdd]
    rw [join_e]
    try simp (disch := first | omega | with_unfolding_all exact id rfl | with_unfolding_all exact Nat.le_of_ble_eq_true rfl | (simp only [Jd, Je, Jr, Js, Jt, Nat.reduceAdd, allOne, oneCell, Bool.and_self, Jc]; first | done | omega)) only [hrf, ↓Qa, ↓Qb, Qd, Qe, Qf, Qg, Qh, Qi, Qj, Qk, Ql, Qm, Qn, Qo, Qp, Qq, Qr, Qs, Qt, Qu, Qv, Qw, Qx, Qy, ptrTo, Qz, QA, QB, QC, QD, QE, QF, QG, QH, QI, QJ, QK, QL, QM, QN, QO, QP, QQ, QR, QS, QT, QU, QV, QW, QX, QY, QZ, Ja, Jb, Jc, Jd, Je, Jf, Jg, Jh, Ji, Jj, Jk, Jl, Jm, Jn, Jo, Jp, Jq, Jr, Js, Jt, Nat.reduceAdd]
    by_cases q4 : awayN c t = st.2
    · have d4 : decide ((awayN c t : Int) = (st.2 : Int)) = true := decide_eq_true (by omega)
      try simp (disch := first | omega | with_unfolding_all exact id rfl | with_unfolding_all exact Nat.le_of_ble_eq_true rfl | (simp only [Jd, Je, Jr, Js, Jt, Nat.reduceAdd, allOne, oneCell, Bool.and_self, Jc]; first | done | omega)) only [d4, ↓Qa, ↓Qb, Qd, Qe, Qf, Qg, Qh, Qi, Qj, Qk, Ql, Qm, Qn, Qo, Qp, Qq, Qr, Qs, Qt, Qu, Qv, Qw, Qx, Qy, ptrTo, Qz, QA, QB, QC, QD, QE, QF, QG, QH, QI, QJ, QK, QL, QM, QN, QO, QP, QQ, QR, QS, QT, QU, QV, QW, QX, QY, QZ, Ja, Jb, Jc, Jd, Je, Jf, Jg, Jh, Ji, Jj, Jk, Jl, Jm, Jn, Jo, Jp, Jq, Jr, Js, Jt, Nat.reduceAdd]
      repeat (rw [join_e]; try simp (disch := first | omega | with_unfolding_all exact id rfl | with_unfolding_all exact Nat.le_of_ble_eq_true rfl | (simp only [Jd, Je, Jr, Js, Jt, Nat.reduceAdd, allOne, oneCell, Bool.and_self, Jc]; first | done | omega)) only [d4, hrb, ↓Qa, ↓Qb, Qd, Qe, Qf, Qg, Qh, Qi, Qj, Qk, Ql, Qm, Qn, Qo, Qp, Qq, Qr, Qs, Qt, Qu, Qv, Qw, Qx, Qy, ptrTo, Qz, QA, QB, QC, QD, QE, QF, QG, QH, QI, QJ, QK, QL, QM, QN, QO, QP, QQ, QR, QS, QT, QU, QV, QW, QX, QY, QZ, Ja, Jb, Jc, Jd, Je, Jf, Jg, Jh, Ji, Jj, Jk, Jl, Jm, Jn, Jo, Jp, Jq, Jr, Js, Jt, Nat.reduceAdd])
      try simp (disch := first | omega | with_unfolding_all exact id rfl | with_unfolding_all exact Nat.le_of_ble_eq_true rfl | (simp only [Jd, Je, Jr, Js, Jt, Nat.reduceAdd, allOne, oneCell, Bool.and_self, Jc]; first | done | omega)) only [d4, hrb, ↓Qa, ↓Qb, Qd, Qe, Qf, Qg, Qh, Qi, Qj, Qk, Ql, Qm, Qn, Qo, Qp, Qq, Qr, Qs, Qt, Qu, Qv, Qw, Qx, Qy, ptrTo, Qz, QA, QB, QC, QD, QE, QF, QG, QH, QI, QJ, QK, QL, QM, QN, QO, QP, QQ, QR, QS, QT, QU, QV, QW, QX, QY, QZ, Ja, Jb, Jc, Jd, Je, Jf, Jg, Jh, Ji, Jj, Jk, Jl, Jm, Jn, Jo, Jp, Jq, Jr, Js, Jt, Nat.reduceAdd]
      refine compare_sp hlf hu3 hb23 (by omega) (by omega) ?_
      by_cases q5 : cmpL c st.1 < 0
      · have := hyes (if_pos (.inr ⟨q4, q5⟩))
        try simp (disch := first | omega | with_unfolding_all exact id rfl | with_unfolding_all exact Nat.le_of_ble_eq_true rfl | (simp only [Jd, Je, Jr, Js, Jt, Nat.reduceAdd, allOne, oneCell, Bool.and_self, Jc]; first | done | omega)) only [decide_eq_true q5, ↓Qa, ↓Qb, Qd, Qe, Qf, Qg, Qh, Qi, Qj, Qk, Ql, Qm, Qn, Qo, Qp, Qq, Qr, Qs, Qt, Qu, Qv, Qw, Qx, Qy, ptrTo, Qz, QA, QB, QC, QD, QE, QF, QG, QH, QI, QJ, QK, QL, QM, QN, QO, QP, QQ, QR, QS, QT, QU, QV, QW, QX, QY, QZ, Ja, Jb, Jc, Jd, Je, Jf, Jg, Jh, Ji, Jj, Jk, Jl, Jm, Jn, Jo, Jp, Jq, Jr, Js, Jt, Nat.reduceAdd]
        repeat (rw [join_e]; try simp (disch := first | omega | with_unfolding_all exact id rfl | with_unfolding_all exact Nat.le_of_ble_eq_true rfl | (simp only [Jd, Je, Jr, Js, Jt, Nat.reduceAdd, allOne, oneCell, Bool.and_self, Jc]; first | done | omega)) only [decide_eq_true q5, ↓Qa, ↓Qb, Qd, Qe, Qf, Qg, Qh, Qi, Qj, Qk, Ql, Qm, Qn, Qo, Qp, Qq, Qr, Qs, Qt, Qu, Qv, Qw, Qx, Qy, ptrTo, Qz, QA, QB, QC, QD, QE, QF, QG, QH, QI, QJ, QK, QL, QM, QN, QO, QP, QQ, QR, QS, QT, QU, QV, QW, QX, QY, QZ, Ja, Jb, Jc, Jd, Je, Jf, Jg, Jh, Ji, Jj, Jk, Jl, Jm, Jn, Jo, Jp, Jq, Jr, Js, Jt, Nat.reduceAdd])
        try simp (disch := first | omega | with_unfolding_all exact id rfl | with_unfolding_all exact Nat.le_of_ble_eq_true rfl | (simp only [Jd, Je, Jr, Js, Jt, Nat.reduceAdd, allOne, oneCell, Bool.and_self, Jc]; first | done | omega)) only [decide_eq_true q5, ↓Qa, ↓Qb, Qd, Qe, Qf, Qg, Qh, Qi, Qj, Qk, Ql, Qm, Qn, Qo, Qp, Qq, Qr, Qs, Qt, Qu, Qv, Qw, Qx, Qy, ptrTo, Qz, QA, QB, QC, QD, QE, QF, QG, QH, QI, QJ, QK, QL, QM, QN, QO, QP, QQ, QR, QS, QT, QU, QV, QW, QX, QY, QZ, Ja, Jb, Jc, Jd, Je, Jf, Jg, Jh, Ji, Jj, Jk, Jl, Jm, Jn, Jo, Jp, Jq, Jr, Js, Jt, Nat.reduceAdd]
        exact this
      · have := hno (if_neg (fun h => h.elim q3 fun h => q5 h.2))
        try simp (disch := first | omega | with_unfolding_all exact id rfl | with_unfolding_all exact Nat.le_of_ble_eq_true rfl | (simp only [Jd, Je, Jr, Js, Jt, Nat.reduceAdd, allOne, oneCell, Bool.and_self, Jc]; first | done | omega)) only [decide_eq_false q5, ↓Qa, ↓Qb, Qd, Qe, Qf, Qg, Qh, Qi, Qj, Qk, Ql, Qm, Qn, Qo, Qp, Qq, Qr, Qs, Qt, Qu, Qv, Qw, Qx, Qy, ptrTo, Qz, QA, QB, QC, QD, QE, QF, QG, QH, QI, QJ, QK, QL, QM, QN, QO, QP, QQ, QR, QS, QT, QU, QV, QW, QX, QY, QZ, Ja, Jb, Jc, Jd, Je, Jf, Jg, Jh, Ji, Jj, Jk, Jl, Jm, Jn, Jo, Jp, Jq, Jr, Js, Jt, Nat.reduceAdd]
        repeat (rw [join_e]; try simp (disch := first | omega | with_unfolding_all exact id rfl | with_unfolding_all exact Nat.le_of_ble_eq_true rfl | (simp only [Jd, Je, Jr, Js, Jt, Nat.reduceAdd, allOne, oneCell, Bool.and_self, Jc]; first | done | omega)) only [decide_eq_false q5, ↓Qa, ↓Qb, Qd, Qe, Qf, Qg, Qh, Qi, Qj, Qk, Ql, Qm, Qn, Qo, Qp, Qq, Qr, Qs, Qt, Qu, Qv, Qw, Qx, Qy, ptrTo, Qz, QA, QB, QC, QD, QE, QF, QG, QH, QI, QJ, QK, QL, QM, QN, QO, QP, QQ, QR, QS, QT, QU, QV, QW, QX, QY, QZ, Ja, Jb, Jc, Jd, Je, Jf, Jg, Jh, Ji, Jj, Jk, Jl, Jm, Jn, Jo, Jp, Jq, Jr, Js, Jt, Nat.reduceAdd])
        try simp (disch := first | omega | with_unfolding_all exact id rfl | with_unfolding_all exact Nat.le_of_ble_eq_true rfl | (simp only [Jd, Je, Jr, Js, Jt, Nat.reduceAdd, allOne, oneCell, Bool.and_self, Jc]; first | done | omega)) only [decide_eq_false q5, ↓Qa, ↓Qb, Qd, Qe, Qf, Qg, Qh, Qi, Qj, Qk, Ql, Qm, Qn, Qo, Qp, Qq, Qr, Qs, Qt, Qu, Qv, Qw, Qx, Qy, ptrTo, Qz, QA, QB, QC, QD, QE, QF, QG, QH, QI, QJ, QK, QL, QM, QN, QO, QP, QQ, QR, QS, QT, QU, QV, QW, QX, QY, QZ, Ja, Jb, Jc, Jd, Je, Jf, Jg, Jh, Ji, Jj, Jk, Jl, Jm, Jn, Jo, Jp, Jq, Jr, Js, Jt, Nat.reduceAdd]
        exact this
    · have d4 : decide ((awayN c t : Int) = (st.2 : Int)) = false := decide_eq_false (by omega)
      have := hno (if_neg (fun h => h.elim q3 fun h => q4 h.1))
      try simp (disch := first | omega | with_unfolding_all exact id rfl | with_unfolding_all exact Nat.le_of_ble_eq_true rfl | (simp only [Jd, Je, Jr, Js, Jt, Nat.reduceAdd, allOne, oneCell, Bool.and_self, Jc]; first | done | omega)) only [d4, ↓Qa, ↓Qb, Qd, Qe, Qf, Qg, Qh, Qi, Qj, Qk, Ql, Qm, Qn, Qo, Qp, Qq, Qr, Qs, Qt, Qu, Qv, Qw, Qx, Qy, ptrTo, Qz, QA, QB, QC, QD, QE, QF, QG, QH, QI, QJ, QK, QL, QM, QN, QO, QP, QQ, QR, QS, QT, QU, QV, QW, QX, QY, QZ, Ja, Jb, Jc, Jd, Je, Jf, Jg, Jh, Ji, Jj, Jk, Jl, Jm, Jn, Jo, Jp, Jq, Jr, Js, Jt, Nat.reduceAdd]
      repeat (rw [join_e]; try simp (disch := first | omega | with_unfolding_all exact id rfl | with_unfolding_all exact Nat.le_of_ble_eq_true rfl | (simp only [Jd, Je, Jr, Js, Jt, Nat.reduceAdd, allOne, oneCell, Bool.and_self, Jc]; first | done | omega)) only [d4, ↓Qa, ↓Qb, Qd, Qe, Qf, Qg, Qh, Qi, Qj, Qk, Ql, Qm, Qn, Qo, Qp, Qq, Qr, Qs, Qt, Qu, Qv, Qw, Qx, Qy, ptrTo, Qz, QA, QB, QC, QD, QE, QF, QG, QH, QI, QJ, QK, QL, QM, QN, QO, QP, QQ, QR, QS, QT, QU, QV, QW, QX, QY, QZ, Ja, Jb, Jc, Jd, Je, Jf, Jg, Jh, Ji, Jj, Jk, Jl, Jm, Jn, Jo, Jp, Jq, Jr, Js, Jt, Nat.reduceAdd])
      try simp (disch := first | omega | with_unfolding_all exact id rfl | with_unfolding_all exact Nat.le_of_ble_eq_true rfl | (simp only [Jd, Je, Jr, Js, Jt, Nat.reduceAdd, allOne, oneCell, Bool.and_self, Jc]; first | done | omega)) only [d4, ↓Qa, ↓Qb, Qd, Qe, Qf, Qg, Qh, Qi, Qj, Qk, Ql, Qm, Qn, Qo, Qp, Qq, Qr, Qs, Qt, Qu, Qv, Qw, Qx, Qy, ptrTo, Qz, QA, QB, QC, QD, QE, QF, QG, QH, QI, QJ, QK, QL, QM, QN, QO, QP, QQ, QR, QS, QT, QU, QV, QW, QX, QY, QZ, Ja, Jb, Jc, Jd, Je, Jf, Jg, Jh, Ji, Jj, Jk, Jl, Jm, Jn, Jo, Jp, Jq, Jr, Js, Jt, Nat.reduceAdd]
      exact this
  · intro j28 hj28
    have e01 : GtX X m m1 := GtX.of e1
    by_cases hd : awayN c t ≤ j
    · have hl : lowS ws t j zl c = min zl (wgt ws c) := if_pos hd
      have hh : highS ws t j zh c = max zh (wgt ws c) := if_pos hd
      rw [decide_eq_true (show (awayN c t : Int) ≤ (j : Int) by omega), oIf_t, ld1_u, hlow1, rdo_e, hcl0, oOpt_e, minI_e, oOpt_e, ld1_u, hhigh1, rdo_e, hcl0, oOpt_e, maxI_e, oOpt_e, st_int hlow1 Nat.zero_lt_one (by omega), oRes_e]
      have l2 : Cel (m1.put lc (some ⟨1, [Value.int .i64 zl].set 0 (.int .i64 (min zl (wgt ws c : Int))), none⟩)) lc (.int .i64 (min zl (wgt ws c : Int))) := Mem.rd_put_eq _ _ (Mem.rd_lt hlow1)
      have r2 : ∀ x, x ≠ lc → (m1.put lc (some ⟨1, [Value.int .i64 zl].set 0 (.int .i64 (min zl (wgt ws c : Int))), none⟩)).rd x = m1.rd x := fun x hx => Mem.rd_put _ _ _ _ (Ne.symm hx)
      have e2 : GtX X m (m1.put lc (some ⟨1, [Value.int .i64 zl].set 0 (.int .i64 (min zl (wgt ws c : Int))), none⟩)) := e01.put ((hX lc).2 (.inl rfl)) _
      have n2 : (m1.put lc (some ⟨1, [Value.int .i64 zl].set 0 (.int .i64 (min zl (wgt ws c : Int))), none⟩)).next = m1.next := rfl
      generalize m1.put lc (some ⟨1, [Value.int .i64 zl].set 0 (.int .i64 (min zl (wgt ws c : Int))), none⟩) = m2 at l2 r2 e2 n2 ⊢
      have g2 : Cel m2 hc _ := (r2 hc (by omega)).trans hhigh1
      rw [oSm_u, g2, hhigh1, bEq_ss, veqL_cons, veq_int, veqL_nil, Bool.and_self, oIf_t, st_int g2 Nat.zero_lt_one (by omega), oRes_e]
      refine hj28 _ ⟨e2.put ((hX hc).2 (.inr (.inl rfl))) _, ?_, ?_, fun x h1 h2 => (Mem.rd_put _ _ _ _ (Ne.symm h2)).trans (r2 x h1), ?_⟩
      · rw [hl]; exact (Mem.rd_put _ _ _ _ (by omega)).trans l2
      · rw [hh]; exact Mem.rd_put_eq _ _ (Mem.rd_lt g2)
      · rw [Mem.put_next']; exact n2
    · have hl : lowS ws t j zl c = zl := if_neg hd
      have hh : highS ws t j zh c = zh := if_neg hd
      rw [decide_eq_false (show ¬ (awayN c t : Int) ≤ (j : Int) by omega), oIf_f]
      exact hj28 _ ⟨e01, by rw [hl]; exact hlow1, by rw [hh]; exact hhigh1, fun _ _ _ => rfl, rfl⟩
end
end Go.Vit

