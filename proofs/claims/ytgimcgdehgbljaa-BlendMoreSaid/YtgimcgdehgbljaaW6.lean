/- Walks: the reference's way, lists of lists compared, and what is too large. -/
import Derived.Test.YtgimcgdehgbljaaW5
set_option linter.unusedSimpArgs false
set_option linter.unusedVariables false
set_option maxRecDepth 20000
namespace Go.Vit
open Go Go.Proofs
attribute [local irreducible] runT loopS
theorem veqL_ints : ∀ l : List Int, veqL (l.map (Value.int .i64)) (l.map (Value.int .i64)) = true
  | [] => rfl
  | x :: l => by
    show veqL (.int .i64 x :: _) (.int .i64 x :: _) = true
    rw [veqL_cons, veq_int, veqL_ints l]; rfl
/-- A load that comes after a call that left its block alone. -/
theorem oSm_keep {m m' : Mem} {b o : Nat} {l : List Int} {kk : Option Unit} (h : m.rd b = some ⟨1, l.map (Value.int .i64), none⟩) (h' : m'.rd b = m.rd b) : oSm m m' (.pointer (some ⟨b, o, none⟩)) kk = kk := by
  rw [oSm_u, h', h, bEq_ss, veqL_ints, oIf_t]
theorem app_empty {L : Nat} {m : Mem} {v : Value} {l : List Nat} (hL : L ≤ m.next) (hv : IN m v l) (hl : l.length < 1000000) :
    ∃ u m', aappend Try.prog L (m.push ⟨1, [], none⟩) 22 (slTo 0 m.next) v = some (u, m') ∧ Gt m m' ∧ IN m' u l ∧ ∀ c, bid u = some c → m.next ≤ c ∧ c < m'.next := by
  have g1 := Mem.gt_push m ⟨1, [], none⟩
  have hx : IN (m.push ⟨1, [], none⟩) v l := hv.mono g1
  have h1 : Sl 1 (m.push ⟨1, [], none⟩) v l.length ((ci l).map (Value.int .i64)) := by
    have := hx; unfold IN IL at this; rwa [ci_length] at this
  cases hl0 : l.length with
  | zero =>
    have h0 : l = [] := List.length_eq_zero_iff.1 hl0
    subst h0
    refine ⟨slTo 0 m.next, m.push ⟨1, [], none⟩, ?_, g1, ⟨rfl, .inr ⟨_, _, _, _, rfl⟩⟩, fun c hc => ?_⟩
    · unfold aappend slTo
      rw [ael22]
      have := h1.1
      simp only [List.length_nil] at this
      simp only [this, natK_eq]
    · cases hc
      exact ⟨Nat.le_refl _, by rw [Mem.push_next]; omega⟩
  | succ j =>
    have hap : aappend Try.prog L (m.push ⟨1, [], none⟩) 22 (slTo 0 m.next) v = some (slTo l.length ((m.push ⟨1, [], none⟩).put m.next none).next, ((m.push ⟨1, [], none⟩).put m.next none).push ⟨1, (ci l).map (Value.int .i64), none⟩) := by
      have hr := roomy_of (n := l.length) (y := 8) (by omega) (by omega)
      unfold aappend slTo
      rw [ael22]
      rw [hl0] at h1 hr ⊢
      simp only [h1.1, natK_eq]
      have hrd : rdc (m.push ⟨1, [], none⟩) m.next 0 (Nat.mul 0 1) = some [] := rdc_e (s := 1) (Mem.rd_push m ⟨1, [], none⟩) (by decide)
      have hn0 : Nat.add 0 (Nat.succ j) = j + 1 := Nat.zero_add _
      simp only [hn0, hr, hrd, ble_t (show L ≤ m.next from hL), Mem.rd_push, Nat.ble_eq_true_of_le (Nat.le_refl 0), List.nil_append, anew_eq, allOne_map]
      rfl
    have hnx : ((m.push ⟨1, [], none⟩).put m.next none).next = m.next + 1 := by rw [Mem.put_next', Mem.push_next]
    have hgn : GN m.next (((m.push ⟨1, [], none⟩).put m.next none).push ⟨1, (ci l).map (Value.int .i64), none⟩) (slTo l.length ((m.push ⟨1, [], none⟩).put m.next none).next) l := by
      refine .inr ⟨_, ?_, ?_, Mem.rd_push _ _, ?_, ?_⟩
      · rw [hnx]; omega
      · rw [ci_length]; rfl
      · simp [ci]
      · rw [ci_length]; omega
    exact ⟨_, _, hap, (Mem.put_gt g1 none (Nat.le_refl _)).trans (Mem.gt_push _ _), hgn.inn, Gs.bid_lt hgn⟩
theorem bs372 (m : Mem) (p q : Option Addr) (n c n' c' : Nat) : bs Try.prog m 37 2 [(0, .slice p n c), (1, .slice q n' c')] = some (slTo 2 m.next, m.push ⟨1, [.slice p n c, .slice q n' c'], none⟩) :=
  (show _ = anew m 1 [.slice p n c, .slice q n' c'] (slTo 2) by kernel_rfl).trans (anew_eq ..)
section
variable {lf n L : Nat} {m : Mem} {k : Value → Mem → Option Unit}
/-- Some list is longer than sixty. -/
theorem large_sp {u : Value} {vs : List Value} {ns : List Nat} (hlf : 1000000 ≤ lf) (hs : Sl 1 m u vs.length vs) (hv : vs.length < 1000) (hln : ∀ i (h : i < vs.length), Vit.ln vs[i] = some (.int .i64 ((ns.getD i 0 : Nat) : Int)))
    (hk : k (.bool ((List.range vs.length).any fun i => decide (60 < ns.getD i 0))) m = some ()) : runT (tab lf) (n + 1) 14 [u] L m k = some () := by
  rw [r14]; dsimp only [S14, iofNat, inegSucc]
  try simp (disch := first | omega | with_unfolding_all exact id rfl | with_unfolding_all exact Nat.le_of_ble_eq_true rfl | (simp only [Jd, Je, Jr, Js, Jt, Nat.reduceAdd, allOne, oneCell, Bool.and_self, Jc]; first | done | omega)) only [↓Qa, ↓Qb, ↓Qc, Qd, Qe, Qf, Qg, Qh, Qi, Qj, Qk, Ql, Qm, Qn, Qo, Qp, Qq, Qr, Qs, Qt, Qu, Qv, Qw, Qx, Qy, ptrTo, Qz, QA, QB, QC, QD, QE, QF, QG, QH, QI, QJ, QK, QL, QM, QN, QO, QP, QQ, QR, QS, QT, QU, QV, QW, QX, QY, QZ, Ja, Jb, Jc, Jd, Je, Jf, Jg, Jh, Ji, Jj, Jk, Jl, Jm, Jn, Jo, Jp, Jq, Jr, Js, Jt, Nat.reduceAdd]
  refine loop_up vs.length (fun i vs' m' => vs' = [.int .i64 (i : Int)] ∧ m' = m ∧ ∀ j, j < i → ¬ 60 < ns.getD j 0) (by omega) ⟨rfl, rfl, fun j hj => by omega⟩ ?_
  rintro i vs' m' hi ⟨rfl, rfl, hI⟩ self hself
  try simp (disch := first | omega | with_unfolding_all exact id rfl | with_unfolding_all exact Nat.le_of_ble_eq_true rfl | (simp only [Jd, Je, Jr, Js, Jt, Nat.reduceAdd, allOne, oneCell, Bool.and_self, Jc]; first | done | omega)) only [hs.ln, ↓Qa, ↓Qb, ↓Qc, Qd, Qe, Qf, Qg, Qh, Qi, Qj, Qk, Ql, Qm, Qn, Qo, Qp, Qq, Qr, Qs, Qt, Qu, Qv, Qw, Qx, Qy, ptrTo, Qz, QA, QB, QC, QD, QE, QF, QG, QH, QI, QJ, QK, QL, QM, QN, QO, QP, QQ, QR, QS, QT, QU, QV, QW, QX, QY, QZ, Ja, Jb, Jc, Jd, Je, Jf, Jg, Jh, Ji, Jj, Jk, Jl, Jm, Jn, Jo, Jp, Jq, Jr, Js, Jt, Nat.reduceAdd]
  refine oIf_dec (fun h => ?_) (fun h => ?_)
  · have hil : i < vs.length := by omega
    have hld := hs.ld hil (List.getElem?_eq_getElem hil)
    rw [hs.ia hil, oOpt_e, hld, oOpt_e, hln i hil, oOpt_e, oInt_gtr]
    refine oIf_dec (fun h1 => ?_) (fun h1 => ?_)
    · have : ((List.range vs.length).any fun i => decide (60 < ns.getD i 0)) = true := List.any_eq_true.2 ⟨i, List.mem_range.2 hil, decide_eq_true (by omega)⟩
      rw [this] at hk
      exact hk
    · rw [oInt_add ⟨by omega, by omega⟩]
      refine hself hil _ _ ⟨rfl, rfl, fun j hj => ?_⟩
      by_cases hje : j = i
      · subst hje; omega
      · exact hI j (by omega)
  · have : ((List.range vs.length).any fun i => decide (60 < ns.getD i 0)) = false := by
      rw [List.any_eq_false]
      intro j hj
      have := hI j (by have := List.mem_range.1 hj; omega)
      simp only [decide_eq_true_eq]; exact this
    rw [this] at hk
    exact hk
/-- Two lists of the same lists. -/
theorem lists_sp {v u : Value} {ll : List (List Nat)} (hlf : 1000000 ≤ lf) (hv : LL m v ll) (hu : LL m u ll) (hl : ll.length < 1000) (hls : ∀ l ∈ ll, l.length < 1000) (hk : k (.bool true) m = some ()) : runT (tab lf) (n + 2) 31 [v, u] L m k = some () := by
  rw [r31]; dsimp only [S31, iofNat, inegSucc]
  have d1 : decide ((ll.length : Int) = (ll.length : Int)) = true := decide_eq_true rfl
  try simp (disch := first | omega | with_unfolding_all exact id rfl | with_unfolding_all exact Nat.le_of_ble_eq_true rfl | (simp only [Jd, Je, Jr, Js, Jt, Nat.reduceAdd, allOne, oneCell, Bool.and_self, Jc]; first | done | omega)) only [hv.ln, hu.ln, d1, ↓Qa, ↓Qb, ↓Qc, Qd, Qe, Qf, Qg, Qh, Qi, Qj, Qk, Ql, Qm, Qn, Qo, Qp, Qq, Qr, Qs, Qt, Qu, Qv, Qw, Qx, Qy, ptrTo, Qz, QA, QB, QC, QD, QE, QF, QG, QH, QI, QJ, QK, QL, QM, QN, QO, QP, QQ, QR, QS, QT, QU, QV, QW, QX, QY, QZ, Ja, Jb, Jc, Jd, Je, Jf, Jg, Jh, Ji, Jj, Jk, Jl, Jm, Jn, Jo, Jp, Jq, Jr, Js, Jt, Nat.reduceAdd]
  refine loop_up ll.length (fun i vs m' => vs = [.int .i64 (i : Int)] ∧ m' = m) (by omega) ⟨rfl, rfl⟩ ?_
  rintro i vs m' hi ⟨rfl, rfl⟩ self hself
  try simp (disch := first | omega | with_unfolding_all exact id rfl | with_unfolding_all exact Nat.le_of_ble_eq_true rfl | (simp only [Jd, Je, Jr, Js, Jt, Nat.reduceAdd, allOne, oneCell, Bool.and_self, Jc]; first | done | omega)) only [hv.ln, ↓Qa, ↓Qb, ↓Qc, Qd, Qe, Qf, Qg, Qh, Qi, Qj, Qk, Ql, Qm, Qn, Qo, Qp, Qq, Qr, Qs, Qt, Qu, Qv, Qw, Qx, Qy, ptrTo, Qz, QA, QB, QC, QD, QE, QF, QG, QH, QI, QJ, QK, QL, QM, QN, QO, QP, QQ, QR, QS, QT, QU, QV, QW, QX, QY, QZ, Ja, Jb, Jc, Jd, Je, Jf, Jg, Jh, Ji, Jj, Jk, Jl, Jm, Jn, Jo, Jp, Jq, Jr, Js, Jt, Nat.reduceAdd]
  refine oIf_dec (fun h => ?_) (fun h => ?_)
  · have hil : i < ll.length := by omega
    obtain ⟨x, x1, x2⟩ := hv.ld hil
    obtain ⟨y, y1, y2⟩ := hu.ld hil
    rw [hv.ia hil, oOpt_e, x1, oOpt_e, hu.ia hil, oOpt_e, y1, oOpt_e]
    refine same_sp hlf x2 y2 (by rw [ci_length]; have := hls _ (List.getElem_mem hil); omega) ?_
    rw [decide_eq_true rfl]
    try simp (disch := first | omega | with_unfolding_all exact id rfl | with_unfolding_all exact Nat.le_of_ble_eq_true rfl | (simp only [Jd, Je, Jr, Js, Jt, Nat.reduceAdd, allOne, oneCell, Bool.and_self, Jc]; first | done | omega)) only [↓Qa, ↓Qb, ↓Qc, Qd, Qe, Qf, Qg, Qh, Qi, Qj, Qk, Ql, Qm, Qn, Qo, Qp, Qq, Qr, Qs, Qt, Qu, Qv, Qw, Qx, Qy, ptrTo, Qz, QA, QB, QC, QD, QE, QF, QG, QH, QI, QJ, QK, QL, QM, QN, QO, QP, QQ, QR, QS, QT, QU, QV, QW, QX, QY, QZ, Ja, Jb, Jc, Jd, Je, Jf, Jg, Jh, Ji, Jj, Jk, Jl, Jm, Jn, Jo, Jp, Jq, Jr, Js, Jt, Nat.reduceAdd]
    rw [oInt_add ⟨by omega, by omega⟩]
    exact hself hil _ _ ⟨rfl, rfl⟩
  · exact hk
theorem refaway_sp {N kk : Nat} {v u : Value} {a b : List Nat} (hlf : 1000000 ≤ lf) (hL : L ≤ m.next) (h1 : 1 ≤ N) (h10 : N ≤ 10) (hv : IN m v a) (hu : IN m u b) (ha : Bl N kk a) (hb : Bl N kk b)
    (hk : ∀ m', Gt m m' → k (.tuple ⟨[.int .i64 (awayN a b : Int), .int .i64 0]⟩) m' = some ()) : runT (tab lf) (n + 4) 28 [.int .i64 (N : Int), v, u] L m k = some () := by
  have hkk := ha.le
  have l1 := ha.len
  have l2 := hb.len
  rw [r28]; dsimp only [S28, iofNat, inegSucc]
  try simp (disch := first | omega | with_unfolding_all exact id rfl | with_unfolding_all exact Nat.le_of_ble_eq_true rfl | (simp only [Jd, Je, Jr, Js, Jt, Nat.reduceAdd, allOne, oneCell, Bool.and_self, Jc]; first | done | omega)) only [↓Qa, ↓Qb, ↓Qc, Qd, Qe, Qf, Qg, Qh, Qi, Qj, Qk, Ql, Qm, Qn, Qo, Qp, Qq, Qr, Qs, Qt, Qu, Qv, Qw, Qx, Qy, ptrTo, Qz, QA, QB, QC, QD, QE, QF, QG, QH, QI, QJ, QK, QL, QM, QN, QO, QP, QQ, QR, QS, QT, QU, QV, QW, QX, QY, QZ, Ja, Jb, Jc, Jd, Je, Jf, Jg, Jh, Ji, Jj, Jk, Jl, Jm, Jn, Jo, Jp, Jq, Jr, Js, Jt, Nat.reduceAdd]
  refine both72_sp hlf hv hu (by rw [ci_length]; omega) (by rw [ci_length]; omega) ?_
  unfold botE
  rw [chkB_ok h1 h10 ha, chkB_ok h1 h10 hb, if_pos rfl, if_pos rfl, if_pos (by rw [ci_length, ci_length]; omega)]
  try simp (disch := first | omega | with_unfolding_all exact id rfl | with_unfolding_all exact Nat.le_of_ble_eq_true rfl | (simp only [Jd, Je, Jr, Js, Jt, Nat.reduceAdd, allOne, oneCell, Bool.and_self, Jc]; first | done | omega)) only [↓Qa, ↓Qb, ↓Qc, Qd, Qe, Qf, Qg, Qh, Qi, Qj, Qk, Ql, Qm, Qn, Qo, Qp, Qq, Qr, Qs, Qt, Qu, Qv, Qw, Qx, Qy, ptrTo, Qz, QA, QB, QC, QD, QE, QF, QG, QH, QI, QJ, QK, QL, QM, QN, QO, QP, QQ, QR, QS, QT, QU, QV, QW, QX, QY, QZ, Ja, Jb, Jc, Jd, Je, Jf, Jg, Jh, Ji, Jj, Jk, Jl, Jm, Jn, Jo, Jp, Jq, Jr, Js, Jt, Nat.reduceAdd]
  refine less_sp hlf hL hv hu (by omega) (by omega) fun w m' e hw => ?_
  rw [hw.ln, oOpt_e]
  exact hk m' e
theorem refway_sp {N kk : Nat} {v u : Value} {a b : List Nat} (hlf : 1000000 ≤ lf) (h1 : 1 ≤ N) (h10 : N ≤ 10) (hL : L ≤ m.next) (hv : IN m v a) (hu : IN m u b) (ha : Bl N kk a) (hb : Bl N kk b)
    (hk : ∀ w m', Gt m m' → LL m' w ((List.range (awayN a b + 1)).map (itr N b a)) → k (.tuple ⟨[w, .int .i64 0]⟩) m' = some ()) : runT (tab lf) (n + 4) 30 [.int .i64 (N : Int), v, u] L m k = some () := by
  have hkk := ha.le
  have l1 := ha.len
  have l2 := hb.len
  have hdk := (away_le ha hb).1
  rw [r30]; dsimp only [S30, iofNat, inegSucc]
  try simp (disch := first | omega | with_unfolding_all exact id rfl | with_unfolding_all exact Nat.le_of_ble_eq_true rfl | (simp only [Jd, Je, Jr, Js, Jt, Nat.reduceAdd, allOne, oneCell, Bool.and_self, Jc]; first | done | omega)) only [↓Qa, ↓Qb, ↓Qc, Qd, Qe, Qf, Qg, Qh, Qi, Qj, Qk, Ql, Qm, Qn, Qo, Qp, Qq, Qr, Qs, Qt, Qu, Qv, Qw, Qx, Qy, ptrTo, Qz, QA, QB, QC, QD, QE, QF, QG, QH, QI, QJ, QK, QL, QM, QN, QO, QP, QQ, QR, QS, QT, QU, QV, QW, QX, QY, QZ, Ja, Jb, Jc, Jd, Je, Jf, Jg, Jh, Ji, Jj, Jk, Jl, Jm, Jn, Jo, Jp, Jq, Jr, Js, Jt, Nat.reduceAdd]
  refine both72_sp hlf hv hu (by rw [ci_length]; omega) (by rw [ci_length]; omega) ?_
  unfold botE
  rw [chkB_ok h1 h10 ha, chkB_ok h1 h10 hb, if_pos rfl, if_pos rfl, if_pos (by rw [ci_length, ci_length]; omega)]
  try simp (disch := first | omega | with_unfolding_all exact id rfl | with_unfolding_all exact Nat.le_of_ble_eq_true rfl | (simp only [Jd, Je, Jr, Js, Jt, Nat.reduceAdd, allOne, oneCell, Bool.and_self, Jc]; first | done | omega)) only [bs220, ↓Qa, ↓Qb, ↓Qc, Qd, Qe, Qf, Qg, Qh, Qi, Qj, Qk, Ql, Qm, Qn, Qo, Qp, Qq, Qr, Qs, Qt, Qu, Qv, Qw, Qx, Qy, ptrTo, Qz, QA, QB, QC, QD, QE, QF, QG, QH, QI, QJ, QK, QL, QM, QN, QO, QP, QQ, QR, QS, QT, QU, QV, QW, QX, QY, QZ, Ja, Jb, Jc, Jd, Je, Jf, Jg, Jh, Ji, Jj, Jk, Jl, Jm, Jn, Jo, Jp, Jq, Jr, Js, Jt, Nat.reduceAdd]
  obtain ⟨w, m3, c1, e3, hw, hwb⟩ := app_empty (L := L) hL hv (by omega)
  have n3 := e3.next
  rw [c1, oRes_e, bs37L hw, oRes_e]
  have hlg : LG m.next (m3.push ⟨1, [w], none⟩) (slTo 1 m3.next) [a] := LG.one hw hwb n3
  have g4 := Mem.gt_push m3 ⟨1, [w], none⟩
  generalize m3.push ⟨1, [w], none⟩ = m4 at g4 hlg ⊢
  have G4 := e3.trans g4
  refine loop_of (fun q vs m' => ∃ i cur out, q = awayN a b - i ∧ i ≤ awayN a b ∧ vs = [cur, out] ∧ Gt m m' ∧ IN m' cur (itr N b a i) ∧ LG m.next m' out ((List.range (i + 1)).map (itr N b a))) ?_ (n := awayN a b) ⟨0, v, slTo 1 m3.next, rfl, Nat.zero_le _, rfl, G4, hv.mono G4, hlg⟩ (by omega)
  rintro q vs m5 ⟨i, cur, out, rfl, hi, rfl, e5, hcur, hout⟩ self hself
  have n5 := e5.next
  have hu5 := hu.mono e5
  obtain ⟨hA, hAw⟩ := itr_ok ha hb i hi
  have hAl := hA.len
  try simp (disch := first | omega | with_unfolding_all exact id rfl | with_unfolding_all exact Nat.le_of_ble_eq_true rfl | (simp only [Jd, Je, Jr, Js, Jt, Nat.reduceAdd, allOne, oneCell, Bool.and_self, Jc]; first | done | omega)) only [↓Qa, ↓Qb, ↓Qc, Qd, Qe, Qf, Qg, Qh, Qi, Qj, Qk, Ql, Qm, Qn, Qo, Qp, Qq, Qr, Qs, Qt, Qu, Qv, Qw, Qx, Qy, ptrTo, Qz, QA, QB, QC, QD, QE, QF, QG, QH, QI, QJ, QK, QL, QM, QN, QO, QP, QQ, QR, QS, QT, QU, QV, QW, QX, QY, QZ, Ja, Jb, Jc, Jd, Je, Jf, Jg, Jh, Ji, Jj, Jk, Jl, Jm, Jn, Jo, Jp, Jq, Jr, Js, Jt, Nat.reduceAdd]
  refine same64_sp hlf hcur hu5 (by rw [ci_length]; omega) ?_
  by_cases hid : i = awayN a b
  · rw [hid, itr_end ha hb, decide_eq_true rfl]
    rw [hid] at hout
    try simp (disch := first | omega | with_unfolding_all exact id rfl | with_unfolding_all exact Nat.le_of_ble_eq_true rfl | (simp only [Jd, Je, Jr, Js, Jt, Nat.reduceAdd, allOne, oneCell, Bool.and_self, Jc]; first | done | omega)) only [↓Qa, ↓Qb, ↓Qc, Qd, Qe, Qf, Qg, Qh, Qi, Qj, Qk, Ql, Qm, Qn, Qo, Qp, Qq, Qr, Qs, Qt, Qu, Qv, Qw, Qx, Qy, ptrTo, Qz, QA, QB, QC, QD, QE, QF, QG, QH, QI, QJ, QK, QL, QM, QN, QO, QP, QQ, QR, QS, QT, QU, QV, QW, QX, QY, QZ, Ja, Jb, Jc, Jd, Je, Jf, Jg, Jh, Ji, Jj, Jk, Jl, Jm, Jn, Jo, Jp, Jq, Jr, Js, Jt, Nat.reduceAdd]
    exact hk _ _ e5 hout.ll
  · obtain ⟨o, j, hs⟩ := itr_step ha hb (i := i) (by omega)
    have hstep : itr N b a (i + 1) = exch N (itr N b a i) o j := hs.eq
    have hnab : ci (itr N b a i) ≠ ci b := fun h => by
      have : itr N b a i = b := List.map_inj_right (fun x y h => Int.ofNat.inj h) |>.1 h
      have := (away_zero hA hb).2 this
      omega
    rw [decide_eq_false hnab]
    try simp (disch := first | omega | with_unfolding_all exact id rfl | with_unfolding_all exact Nat.le_of_ble_eq_true rfl | (simp only [Jd, Je, Jr, Js, Jt, Nat.reduceAdd, allOne, oneCell, Bool.and_self, Jc]; first | done | omega)) only [↓Qa, ↓Qb, ↓Qc, Qd, Qe, Qf, Qg, Qh, Qi, Qj, Qk, Ql, Qm, Qn, Qo, Qp, Qq, Qr, Qs, Qt, Qu, Qv, Qw, Qx, Qy, ptrTo, Qz, QA, QB, QC, QD, QE, QF, QG, QH, QI, QJ, QK, QL, QM, QN, QO, QP, QQ, QR, QS, QT, QU, QV, QW, QX, QY, QZ, Ja, Jb, Jc, Jd, Je, Jf, Jg, Jh, Ji, Jj, Jk, Jl, Jm, Jn, Jo, Jp, Jq, Jr, Js, Jt, Nat.reduceAdd]
    refine less_sp hlf (by omega) hcur hu5 (by omega) (by omega) fun w1 m6 e6 hw1 => ?_
    have n6 := e6.next
    rw [hs.l1] at hw1
    obtain ⟨b1, hb1, rfl, hr1⟩ : ∃ b1, m5.next ≤ b1 ∧ w1 = .slice (some ⟨b1, 0, none⟩) (o :: less (itr N b a (i + 1)) b).length (o :: less (itr N b a (i + 1)) b).length ∧ m6.rd b1 = some ⟨1, (ci (o :: less (itr N b a (i + 1)) b)).map (Value.int .i64), none⟩ := by
      rcases hw1 with ⟨_, h, _⟩ | ⟨b1, h1, h2, h3, _⟩
      · rw [ci_length, List.length_cons] at h; omega
      · rw [ci_length] at h2; exact ⟨b1, h1, h2, h3⟩
    have hia : ia 1 (.slice (some ⟨b1, 0, none⟩) (o :: less (itr N b a (i + 1)) b).length (o :: less (itr N b a (i + 1)) b).length) (.int .i64 0) = some (.pointer (some ⟨b1, 0, none⟩)) :=
      ia_e (sz := 1) (i := 0) (show 0 < (o :: less (itr N b a (i + 1)) b).length by simp)
    have hld : ld1 m6 (.pointer (some ⟨b1, 0, none⟩)) = some (.int .i64 (o : Int)) := by rw [ld1_u, hr1]; rfl
    rw [hia, oOpt_e, hld, oOpt_e]
    refine less_sp hlf (by omega) (hu5.mono e6) (hcur.mono e6) (by omega) (by omega) fun w2 m7 e7 hw2 => ?_
    have n7 := e7.next
    rw [oSm_keep hr1 (e7.kept _ (Mem.rd_lt hr1))]
    rw [hs.l2] at hw2
    have y3 : ia 1 w2 (.int .i64 0) = some (ep 1 w2 0) := hw2.inn.ia (i := 0) (by simp)
    have y4 : ld1 m7 (ep 1 w2 0) = some (.int .i64 (j : Int)) := hw2.inn.ld (i := 0) (by simp)
    rw [y3, oOpt_e, y4, oOpt_e]
    have E7 := e6.trans e7
    refine exch_sp hlf (by omega) h10 (hcur.mono E7) (by omega) fun w3 m8 e8 hw3 => ?_
    have n8 := e8.next
    rw [← hstep] at hw3
    have E8 := E7.trans e8
    rw [bs37L hw3.inn, oRes_e]
    have hfr := hw3.bid_lt
    obtain ⟨y, m10, s1, s2, s3, s4, s5, s6⟩ := LG.snoc (P := Try.prog) (t := 37) (L := L) (m0 := m) ael37 (by omega) (hout.mono E8) hw3.inn (fun c hc => by have := hfr c hc; omega) (fun c hc hu => by have := hfr c hc; have := hout.fr _ hu; omega) (by rw [List.length_map, List.length_range]; omega) hL (e5.trans E8) (Nat.le_refl _)
    rw [s1, oRes_e]
    refine hself (awayN a b - (i + 1)) _ _ (by omega) ⟨i + 1, w3, y, rfl, by omega, rfl, s3, ?_, ?_⟩
    · refine hw3.inn.keep fun c hc => s6 c (hfr c hc).2 (fun h => by have := hfr c hc; have := hout.fr _ h; omega)
    · rw [List.range_succ, List.map_append, List.map_cons, List.map_nil]
      exact s2
end
end Go.Vit
