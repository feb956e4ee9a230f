/- Walks: the triangle, and what is read off it. -/
import Derived.Test.YtffomiamkiakcaaW4B
import Derived.Test.YtffomiamkiakcaaP9
set_option linter.unusedSimpArgs false
set_option linter.unusedVariables false
set_option maxRecDepth 20000
namespace Go.Vit
open Go Go.Proofs
attribute [local irreducible] runT loopS
theorem iaA_w {b n s o i : Nat} (h : i < n) : iaA n s (.pointer (some ⟨b, o, none⟩)) (.int .i64 (i : Int)) = some (.pointer (some ⟨b, o + i * s, none⟩)) := by
  show iaA n s _ (.int .i64 (Int.ofNat i)) = _
  have hb : Nat.blt i n = true := by simpa using h
  simp only [iaA, hb, natK_eq]
  rfl
abbrev iv (l : List Int) : List Value := l.map (Value.int .i64)
theorem iv_get {l : List Int} {c : Nat} {x : Int} (h : l[c]? = some x) : (iv l)[c]? = some (.int .i64 x) := by
  rw [List.getElem?_map, h]; rfl
theorem u84 : Try.prog.underlying 84 = some (.array 10 3) := by kernel_rfl
theorem u85 : Try.prog.underlying 85 = some (.array 10 84) := by kernel_rfl
theorem ts84 : tsize Try.prog 84 = some 10 := by kernel_rfl
theorem tg84 : tagg Try.prog 84 = some true := by kernel_rfl
theorem tg3 : tagg Try.prog 3 = some false := by kernel_rfl
def rowL (n : Nat) : List Int := (triL.drop (n * 10)).take 10
theorem aix85 {n : Nat} (h : n < 10) : aindex Try.prog 85 (.agg ⟨iv triL⟩) (.int .i64 (n : Int)) = some (.agg ⟨iv (rowL n)⟩) := by
  show aindex Try.prog 85 _ (.int .i64 (Int.ofNat n)) = _
  have hb : Nat.blt n 10 = true := by simpa using h
  simp only [aindex, u85, hb, ts84, apart, tg84]
  rw [show Nat.mul n 10 = n * 10 from rfl]
  unfold rowL iv
  rw [← List.map_drop, ← List.map_take]
theorem aix84 {n k : Nat} (h : n < 10) (hk : k < 10) : aindex Try.prog 84 (.agg ⟨iv (rowL n)⟩) (.int .i64 (k : Int)) = some (.int .i64 (triN n k : Int)) := by
  show aindex Try.prog 84 _ (.int .i64 (Int.ofNat k)) = _
  have hb : Nat.blt k 10 = true := by simpa using hk
  simp only [aindex, u84, hb, ts3, apart, tg3, lget_eq]
  rw [show Nat.mul k 1 = k from Nat.mul_one k]
  exact iv_get (triL_get h hk)
section
variable {lf n L : Nat} {m : Mem} {k : Value → Mem → Option Unit}
set_option maxHeartbeats 2000000 in
theorem triangle_sp (hlf : 1000000 ≤ lf) (hL : L ≤ m.next) (hk : ∀ m', Gt m m' → k (.agg ⟨iv triL⟩) m' = some ()) : runT (tab lf) (n + 1) 81 [] L m k = some () := by
  rw [r81]; dsimp only [S81, iofNat, inegSucc]
  have hz : (Value.int .i64 0 :: Value.int .i64 0 :: Value.int .i64 0 :: Value.int .i64 0 :: Value.int .i64 0 :: Value.int .i64 0 :: Value.int .i64 0 :: Value.int .i64 0 :: Value.int .i64 0 :: Value.int .i64 0 :: Value.int .i64 0 :: Value.int .i64 0 :: Value.int .i64 0 :: Value.int .i64 0 :: Value.int .i64 0 :: Value.int .i64 0 :: Value.int .i64 0 :: Value.int .i64 0 :: Value.int .i64 0 :: Value.int .i64 0 :: Value.int .i64 0 :: Value.int .i64 0 :: Value.int .i64 0 :: Value.int .i64 0 :: Value.int .i64 0 :: Value.int .i64 0 :: Value.int .i64 0 :: Value.int .i64 0 :: Value.int .i64 0 :: Value.int .i64 0 :: Value.int .i64 0 :: Value.int .i64 0 :: Value.int .i64 0 :: Value.int .i64 0 :: Value.int .i64 0 :: Value.int .i64 0 :: Value.int .i64 0 :: Value.int .i64 0 :: Value.int .i64 0 :: Value.int .i64 0 :: Value.int .i64 0 :: Value.int .i64 0 :: Value.int .i64 0 :: Value.int .i64 0 :: Value.int .i64 0 :: Value.int .i64 0 :: Value.int .i64 0 :: Value.int .i64 0 :: Value.int .i64 0 :: Value.int .i64 0 :: Value.int .i64 0 :: Value.int .i64 0 :: Value.int .i64 0 :: Value.int .i64 0 :: Value.int .i64 0 :: Value.int .i64 0 :: Value.int .i64 0 :: Value.int .i64 0 :: Value.int .i64 0 :: Value.int .i64 0 :: Value.int .i64 0 :: Value.int .i64 0 :: Value.int .i64 0 :: Value.int .i64 0 :: Value.int .i64 0 :: Value.int .i64 0 :: Value.int .i64 0 :: Value.int .i64 0 :: Value.int .i64 0 :: Value.int .i64 0 :: Value.int .i64 0 :: Value.int .i64 0 :: Value.int .i64 0 :: Value.int .i64 0 :: Value.int .i64 0 :: Value.int .i64 0 :: Value.int .i64 0 :: Value.int .i64 0 :: Value.int .i64 0 :: Value.int .i64 0 :: Value.int .i64 0 :: Value.int .i64 0 :: Value.int .i64 0 :: Value.int .i64 0 :: Value.int .i64 0 :: Value.int .i64 0 :: Value.int .i64 0 :: Value.int .i64 0 :: Value.int .i64 0 :: Value.int .i64 0 :: Value.int .i64 0 :: Value.int .i64 0 :: Value.int .i64 0 :: Value.int .i64 0 :: Value.int .i64 0 :: Value.int .i64 0 :: Value.int .i64 0 :: Value.int .i64 0 :: Value.int .i64 0 :: Value.int .i64 0 :: [] : List Value) = iv (List.replicate 100 0) := rfl
  rw [hz, un0_e, anew_eq, oRes_e, anew_eq, oRes_e]
  have e1 := (Mem.gt_push m ⟨1, iv (List.replicate 100 0), none⟩).trans (Mem.gt_push (m.push ⟨1, iv (List.replicate 100 0), none⟩) ⟨1, iv (List.replicate 100 0), none⟩)
  have q0 : ((m.push ⟨1, iv (List.replicate 100 0), none⟩).push ⟨1, iv (List.replicate 100 0), none⟩).rd m.next = some ⟨1, iv (List.replicate 100 0), none⟩ := (Mem.rd_push_lt _ _ (by rw [Mem.push_next]; omega)).trans (Mem.rd_push _ _)
  have q1 : ((m.push ⟨1, iv (List.replicate 100 0), none⟩).push ⟨1, iv (List.replicate 100 0), none⟩).rd (m.next + 1) = some ⟨1, iv (List.replicate 100 0), none⟩ := Mem.rd_push _ _
  have n1 : ((m.push ⟨1, iv (List.replicate 100 0), none⟩).push ⟨1, iv (List.replicate 100 0), none⟩).next = m.next + 2 := rfl
  have hp0 : ptrTo m.next = .pointer (some ⟨m.next, 0, none⟩) := rfl
  have hp1 : ptrTo (m.push ⟨1, iv (List.replicate 100 0), none⟩).next = .pointer (some ⟨m.next + 1, 0, none⟩) := rfl
  rw [hp0, hp1]
  generalize (m.push ⟨1, iv (List.replicate 100 0), none⟩).push ⟨1, iv (List.replicate 100 0), none⟩ = m1 at e1 q0 q1 n1 ⊢
  have iw : ∀ (a b : Nat), a < 10 → iaA 10 10 (.pointer (some ⟨m.next + 1, 0, none⟩)) (.int .i64 (a : Int)) = some (.pointer (some ⟨m.next + 1, a * 10, none⟩)) := fun a b ha => by
    have := iaA_w (b := m.next + 1) (n := 10) (s := 10) (o := 0) (i := a) ha
    rw [Nat.zero_add] at this; exact this
  have iw1 : ∀ (o b : Nat), b < 10 → iaA 10 1 (.pointer (some ⟨m.next + 1, o, none⟩)) (.int .i64 (b : Int)) = some (.pointer (some ⟨m.next + 1, o + b, none⟩)) := fun o b hb => by
    have := iaA_w (b := m.next + 1) (n := 10) (s := 1) (o := o) (i := b) hb
    rw [Nat.mul_one] at this; exact this
  have j1 : iaA 10 10 (.pointer (some ⟨m.next + 1, 0, none⟩)) (.int .i64 1) = some (.pointer (some ⟨m.next + 1, 10, none⟩)) := iw 1 0 (by omega)
  have j2 : iaA 10 1 (.pointer (some ⟨m.next + 1, 10, none⟩)) (.int .i64 0) = some (.pointer (some ⟨m.next + 1, 10, none⟩)) := iw1 10 0 (by omega)
  have st : ∀ (M : Mem) (l : List Int) (q : Nat) (x : Int), M.rd (m.next + 1) = some ⟨1, iv l, none⟩ → q < l.length → st1 1 L M (.pointer (some ⟨m.next + 1, q, none⟩)) (.int .i64 x) = some (Go.undef, M.put (m.next + 1) (some ⟨1, iv (l.set q x), none⟩)) := by
    intro M l q x h hq
    rw [st_int h (by rw [List.length_map]; exact hq) (by omega)]
    unfold iv
    rw [List.map_set]
  rw [j1, oOpt_e, j2, oOpt_e, st m1 _ 10 1 q1 (by simp), oRes_e, triS_init]
  have e2 : Gt m (m1.put (m.next + 1) (some ⟨1, iv (triS 2 1), none⟩)) := Mem.put_gt e1 _ (by omega)
  have q2 : (m1.put (m.next + 1) (some ⟨1, iv (triS 2 1), none⟩)).rd (m.next + 1) = some ⟨1, iv (triS 2 1), none⟩ := Mem.rd_put_eq _ _ (by omega)
  have q20 : (m1.put (m.next + 1) (some ⟨1, iv (triS 2 1), none⟩)).rd m.next = some ⟨1, iv (List.replicate 100 0), none⟩ := (Mem.rd_put _ _ _ _ (by omega)).trans q0
  have n2 : (m1.put (m.next + 1) (some ⟨1, iv (triS 2 1), none⟩)).next = m.next + 2 := n1
  generalize m1.put (m.next + 1) (some ⟨1, iv (triS 2 1), none⟩) = m2 at e2 q2 q20 n2 ⊢
  refine loop_up 8 (fun i vs m' => vs = [.int .i64 ((i + 2 : Nat) : Int)] ∧ Gt m m' ∧ m'.rd (m.next + 1) = some ⟨1, iv (triS (i + 2) (i + 1)), none⟩ ∧ m'.rd m.next = some ⟨1, iv (List.replicate 100 0), none⟩ ∧ m'.next = m.next + 2) (by omega) ⟨rfl, e2, q2, q20, n2⟩ ?_
  rintro i vs m3 hi ⟨rfl, e3, q3, q30, n3⟩ self hself
  rw [uc_e, oInt_leq]
  refine oIf_dec (fun h => ?_) (fun h => ?_)
  · have hi8 : i < 8 := by omega
    rw [oInt_sub ⟨by omega, by omega⟩]
    refine loop_up (i + 1) (fun q vs m' => vs = [.int .i64 ((i : Int) - (q : Int))] ∧ Gt m m' ∧ m'.rd (m.next + 1) = some ⟨1, iv (triS (i + 2) (i + 1 - q)), none⟩ ∧ m'.rd m.next = some ⟨1, iv (List.replicate 100 0), none⟩ ∧ m'.next = m.next + 2) (by omega) ⟨?_, e3, q3, q30, n3⟩ ?_
    · rw [show ((i + 2 : Nat) : Int) - 2 = (i : Int) - ((0 : Nat) : Int) by omega]
    · rintro q vs m4 hq ⟨rfl, e4, q4, q40, n4⟩ self2 hself2
      rw [uc_e, oInt_geq]
      refine oIf_dec (fun h2 => ?_) (fun h2 => ?_)
      · obtain ⟨j, hj⟩ : ∃ j : Nat, i = q + j := ⟨i - q, by omega⟩
        have hjj : (i : Int) - (q : Int) = (j : Int) := by omega
        obtain ⟨t1, t2, t3, t4, t5, t6⟩ := triS_step (N := i + 2) (j := j) (by omega) (by omega) (by omega)
        rw [show i + 1 - q = j + 1 by omega] at q4
        have r1 : ld1 m4 (.pointer (some ⟨m.next + 1, (i + 2) * 10 + (j + 1), none⟩)) = some (.int .i64 (triN (i + 2) (j + 1) : Int)) := by
          rw [ld1_u, q4, rdo_e]; exact iv_get t1
        have r2 : ld1 m4 (.pointer (some ⟨m.next + 1, (i + 2 - 1) * 10 + (i + 2 - 2 - j), none⟩)) = some (.int .i64 (triN (i + 2 - 1) (i + 2 - 2 - j) : Int)) := by
          rw [ld1_u, q4, rdo_e]; exact iv_get t2
        rw [hjj, oInt_add ⟨by omega, by omega⟩, show (j : Int) + 1 = ((j + 1 : Nat) : Int) by omega, iw (i + 2) 0 (by omega), oOpt_e, iw1 _ (j + 1) (by omega), oOpt_e, r1, oOpt_e]
        rw [oInt_sub ⟨by omega, by omega⟩, oInt_sub ⟨by omega, by omega⟩, oInt_sub ⟨by omega, by omega⟩]
        rw [show ((i + 2 : Nat) : Int) - 1 = ((i + 2 - 1 : Nat) : Int) by omega, show ((i + 2 : Nat) : Int) - 2 - (j : Int) = ((i + 2 - 2 - j : Nat) : Int) by omega]
        rw [iw (i + 2 - 1) 0 (by omega), oOpt_e, iw1 _ (i + 2 - 2 - j) (by omega), oOpt_e, r2, oOpt_e, oInt_add ⟨by omega, by omega⟩]
        try rw [iw (i + 2) 0 (by omega)]
        try rw [oOpt_e]
        rw [iw1 _ j (by omega), oOpt_e, show (triN (i + 2) (j + 1) : Int) + (triN (i + 2 - 1) (i + 2 - 2 - j) : Int) = (triN (i + 2) j : Int) by omega]
        rw [st m4 _ _ _ q4 (by rw [triS_len]; omega), oRes_e, t6, oInt_sub ⟨by omega, by omega⟩]
        refine hself2 (by omega) _ _ ⟨?_, Mem.put_gt e4 _ (by omega), ?_, (Mem.rd_put _ _ _ _ (by omega)).trans q40, n4⟩
        · rw [show (j : Int) - 1 = (i : Int) - ((q + 1 : Nat) : Int) by omega]
        · rw [Mem.rd_put_eq _ _ (by omega), show i + 1 - (q + 1) = j by omega]
      · have hqi : q = i + 1 := by omega
        subst hqi
        rw [show i + 1 - (i + 1) = 0 by omega, triS_next (by omega) (by omega)] at q4
        rw [oInt_add ⟨by omega, by omega⟩]
        exact hself hi8 _ _ ⟨rfl, e4, q4, q40, n4⟩
  · have hi8 : i = 8 := by omega
    subst hi8
    have h10 : triS (8 + 2) (8 + 1) = triL := triS_end
    rw [h10] at q3
    have hlen : (iv triL).length = 100 := by unfold triL; simp
    have hl1 : ldN m3 100 (.pointer (some ⟨m.next + 1, 0, none⟩)) = some (.agg ⟨iv triL⟩) := by
      rw [ldN_u, q3, rdn_e _ _ _ _ (by omega), List.drop_zero, List.take_of_length_le (by omega)]
    have hs1 : st1 100 L m3 (.pointer (some ⟨m.next, 0, none⟩)) (.agg ⟨iv triL⟩) = some (Go.undef, m3.put m.next (some ⟨1, iv triL, none⟩)) := by
      rw [st1_u, q30, cells_agg, stw_e hL hlen (by simp) (allOne_map _), List.take_zero, List.nil_append, List.drop_eq_nil_of_le (by simp), List.append_nil]
    have hl2 : ldN (m3.put m.next (some ⟨1, iv triL, none⟩)) 100 (.pointer (some ⟨m.next, 0, none⟩)) = some (.agg ⟨iv triL⟩) := by
      rw [ldN_u, Mem.rd_put_eq _ _ (by omega), rdn_e _ _ _ _ (by omega), List.drop_zero, List.take_of_length_le (by omega)]
    rw [hl1, oOpt_e, hs1, oRes_e, hl2, oOpt_e]
    exact hk _ (Mem.put_gt e3 _ (Nat.le_refl _))
def cntX (c : Int) : Int := if inI c 1 9 then (cntR c.toNat c.toNat [] : Int) else 0
def cntE (c : Int) : Int := if inI c 1 9 then 0 else 1
def begX (c f : Int) : Int := if inI c 1 9 ∧ inI f 0 (c - 1) then (triN c.toNat f.toNat : Int) else 0
def begE (c f : Int) : Int := if inI c 1 9 ∧ inI f 0 (c - 1) then 0 else 1
theorem count_sp {c : Int} (hlf : 1000000 ≤ lf) (hL : L ≤ m.next) (hk : ∀ m', Gt m m' → k (.tuple ⟨[.int .i64 (cntX c), .int .i64 (cntE c)]⟩) m' = some ()) : runT (tab lf) (n + 2) 37 [.int .i64 c] L m k = some () := by
  rw [r37]; dsimp only [S37, iofNat, inegSucc]
  unfold cntX cntE at hk
  try simp (disch := first | omega | with_unfolding_all exact id rfl | with_unfolding_all exact Nat.le_of_ble_eq_true rfl | (simp only [Jd, Je, Jr, Js, Jt, Nat.reduceAdd, allOne, oneCell, Bool.and_self, Jc]; first | done | omega)) only [↓Qa, ↓Qb, ↓Qc, Qd, Qe, Qf, Qg, Qh, Qi, Qj, Qk, Ql, Qm, Qn, Qo, Qp, Qq, Qr, Qs, Qt, Qu, Qv, Qw, Qx, Qy, ptrTo, Qz, QA, QB, QC, QD, QE, QF, QG, QH, QI, QJ, QK, QL, QM, QN, QO, QP, QQ, QR, QS, QT, QU, QV, QW, QX, QY, QZ, Ja, Jb, Jc, Jd, Je, Jf, Jg, Jh, Ji, Jj, Jk, Jl, Jm, Jn, Jo, Jp, Jq, Jr, Js, Jt, Nat.reduceAdd]
  refine within_sp _ _ _ ?_
  by_cases h : inI c 1 9
  · simp only [if_pos h] at hk
    obtain ⟨N, rfl⟩ : ∃ N : Nat, c = N := ⟨c.toNat, by have := h.1; omega⟩
    have h1 : 1 ≤ N := by have := h.1; omega
    have h9 : N < 10 := by have := h.2; omega
    rw [Int.toNat_natCast] at hk
    try simp (disch := first | omega | with_unfolding_all exact id rfl | with_unfolding_all exact Nat.le_of_ble_eq_true rfl | (simp only [Jd, Je, Jr, Js, Jt, Nat.reduceAdd, allOne, oneCell, Bool.and_self, Jc]; first | done | omega)) only [decide_eq_true h, ↓Qa, ↓Qb, ↓Qc, Qd, Qe, Qf, Qg, Qh, Qi, Qj, Qk, Ql, Qm, Qn, Qo, Qp, Qq, Qr, Qs, Qt, Qu, Qv, Qw, Qx, Qy, ptrTo, Qz, QA, QB, QC, QD, QE, QF, QG, QH, QI, QJ, QK, QL, QM, QN, QO, QP, QQ, QR, QS, QT, QU, QV, QW, QX, QY, QZ, Ja, Jb, Jc, Jd, Je, Jf, Jg, Jh, Ji, Jj, Jk, Jl, Jm, Jn, Jo, Jp, Jq, Jr, Js, Jt, Nat.reduceAdd]
    refine triangle_sp hlf hL fun m1 e1 => ?_
    rw [aix85 h9, oOpt_e]
    refine loop_up 10 (fun i vs m' => vs = [.int .i64 (sm1 (triN N) (List.range i) : Int), .int .i64 (i : Int)] ∧ m' = m1) (by omega) ⟨rfl, rfl⟩ ?_
    rintro i vs m2 hi ⟨rfl, rfl⟩ self hself
    have hb := sm1_range_le (f := triN N) (B := 100000) i fun k hk => tri_le h9 (by omega)
    rw [uc_e, uc_e, oInt_lss]
    refine oIf_dec (fun h2 => ?_) (fun h2 => ?_)
    · have hi10 : i < 10 := by omega
      have ht := tri_le (n := N) h9 hi10
      rw [aix84 h9 hi10, oOpt_e, oInt_addN (by omega), oInt_add ⟨by omega, by omega⟩]
      refine hself hi10 _ _ ⟨?_, rfl⟩
      rw [List.range_succ, sm1_app]
      rfl
    · have hi10 : i = 10 := by omega
      subst hi10
      rw [cnt_ten h1 h9]
      exact hk _ e1
  · simp only [if_neg h] at hk
    try simp (disch := first | omega | with_unfolding_all exact id rfl | with_unfolding_all exact Nat.le_of_ble_eq_true rfl | (simp only [Jd, Je, Jr, Js, Jt, Nat.reduceAdd, allOne, oneCell, Bool.and_self, Jc]; first | done | omega)) only [decide_eq_false h, ↓Qa, ↓Qb, ↓Qc, Qd, Qe, Qf, Qg, Qh, Qi, Qj, Qk, Ql, Qm, Qn, Qo, Qp, Qq, Qr, Qs, Qt, Qu, Qv, Qw, Qx, Qy, ptrTo, Qz, QA, QB, QC, QD, QE, QF, QG, QH, QI, QJ, QK, QL, QM, QN, QO, QP, QQ, QR, QS, QT, QU, QV, QW, QX, QY, QZ, Ja, Jb, Jc, Jd, Je, Jf, Jg, Jh, Ji, Jj, Jk, Jl, Jm, Jn, Jo, Jp, Jq, Jr, Js, Jt, Nat.reduceAdd]
    exact hk m (Gt.refl _)
theorem begin_sp {c f : Int} (hlf : 1000000 ≤ lf) (hL : L ≤ m.next) (hf : -9223372036854775808 ≤ c ∧ c < 9223372036854775808) (hk : ∀ m', Gt m m' → k (.tuple ⟨[.int .i64 (begX c f), .int .i64 (begE c f)]⟩) m' = some ()) : runT (tab lf) (n + 2) 39 [.int .i64 c, .int .i64 f] L m k = some () := by
  rw [r39]; dsimp only [S39, iofNat, inegSucc]
  unfold begX begE at hk
  try simp (disch := first | omega | with_unfolding_all exact id rfl | with_unfolding_all exact Nat.le_of_ble_eq_true rfl | (simp only [Jd, Je, Jr, Js, Jt, Nat.reduceAdd, allOne, oneCell, Bool.and_self, Jc]; first | done | omega)) only [↓Qa, ↓Qb, ↓Qc, Qd, Qe, Qf, Qg, Qh, Qi, Qj, Qk, Ql, Qm, Qn, Qo, Qp, Qq, Qr, Qs, Qt, Qu, Qv, Qw, Qx, Qy, ptrTo, Qz, QA, QB, QC, QD, QE, QF, QG, QH, QI, QJ, QK, QL, QM, QN, QO, QP, QQ, QR, QS, QT, QU, QV, QW, QX, QY, QZ, Ja, Jb, Jc, Jd, Je, Jf, Jg, Jh, Ji, Jj, Jk, Jl, Jm, Jn, Jo, Jp, Jq, Jr, Js, Jt, Nat.reduceAdd]
  refine within_sp _ _ _ ?_
  by_cases h : inI c 1 9
  · try simp (disch := first | omega | with_unfolding_all exact id rfl | with_unfolding_all exact Nat.le_of_ble_eq_true rfl | (simp only [Jd, Je, Jr, Js, Jt, Nat.reduceAdd, allOne, oneCell, Bool.and_self, Jc]; first | done | omega)) only [decide_eq_true h, ↓Qa, ↓Qb, ↓Qc, Qd, Qe, Qf, Qg, Qh, Qi, Qj, Qk, Ql, Qm, Qn, Qo, Qp, Qq, Qr, Qs, Qt, Qu, Qv, Qw, Qx, Qy, ptrTo, Qz, QA, QB, QC, QD, QE, QF, QG, QH, QI, QJ, QK, QL, QM, QN, QO, QP, QQ, QR, QS, QT, QU, QV, QW, QX, QY, QZ, Ja, Jb, Jc, Jd, Je, Jf, Jg, Jh, Ji, Jj, Jk, Jl, Jm, Jn, Jo, Jp, Jq, Jr, Js, Jt, Nat.reduceAdd]
    have h1 := h.1
    have h9' := h.2
    rw [oInt_sub ⟨by omega, by omega⟩]
    refine within_sp _ _ _ ?_
    by_cases h2 : inI f 0 (c - 1)
    · simp only [if_pos (And.intro h h2)] at hk
      obtain ⟨N, rfl⟩ : ∃ N : Nat, c = N := ⟨c.toNat, by omega⟩
      have h21 := h2.1
      have h22 := h2.2
      obtain ⟨F, rfl⟩ : ∃ F : Nat, f = F := ⟨f.toNat, by omega⟩
      rw [Int.toNat_natCast, Int.toNat_natCast] at hk
      try simp (disch := first | omega | with_unfolding_all exact id rfl | with_unfolding_all exact Nat.le_of_ble_eq_true rfl | (simp only [Jd, Je, Jr, Js, Jt, Nat.reduceAdd, allOne, oneCell, Bool.and_self, Jc]; first | done | omega)) only [decide_eq_true h2, ↓Qa, ↓Qb, ↓Qc, Qd, Qe, Qf, Qg, Qh, Qi, Qj, Qk, Ql, Qm, Qn, Qo, Qp, Qq, Qr, Qs, Qt, Qu, Qv, Qw, Qx, Qy, ptrTo, Qz, QA, QB, QC, QD, QE, QF, QG, QH, QI, QJ, QK, QL, QM, QN, QO, QP, QQ, QR, QS, QT, QU, QV, QW, QX, QY, QZ, Ja, Jb, Jc, Jd, Je, Jf, Jg, Jh, Ji, Jj, Jk, Jl, Jm, Jn, Jo, Jp, Jq, Jr, Js, Jt, Nat.reduceAdd]
      refine triangle_sp hlf hL fun m1 e1 => ?_
      rw [aix85 (by omega), oOpt_e, aix84 (by omega) (by omega), oOpt_e]
      exact hk m1 e1
    · simp only [if_neg (fun hh : inI c 1 9 ∧ inI f 0 (c - 1) => h2 hh.2)] at hk
      try simp (disch := first | omega | with_unfolding_all exact id rfl | with_unfolding_all exact Nat.le_of_ble_eq_true rfl | (simp only [Jd, Je, Jr, Js, Jt, Nat.reduceAdd, allOne, oneCell, Bool.and_self, Jc]; first | done | omega)) only [decide_eq_false h2, ↓Qa, ↓Qb, ↓Qc, Qd, Qe, Qf, Qg, Qh, Qi, Qj, Qk, Ql, Qm, Qn, Qo, Qp, Qq, Qr, Qs, Qt, Qu, Qv, Qw, Qx, Qy, ptrTo, Qz, QA, QB, QC, QD, QE, QF, QG, QH, QI, QJ, QK, QL, QM, QN, QO, QP, QQ, QR, QS, QT, QU, QV, QW, QX, QY, QZ, Ja, Jb, Jc, Jd, Je, Jf, Jg, Jh, Ji, Jj, Jk, Jl, Jm, Jn, Jo, Jp, Jq, Jr, Js, Jt, Nat.reduceAdd]
      exact hk m (Gt.refl _)
  · simp only [if_neg (fun hh : inI c 1 9 ∧ inI f 0 (c - 1) => h hh.1)] at hk
    try simp (disch := first | omega | with_unfolding_all exact id rfl | with_unfolding_all exact Nat.le_of_ble_eq_true rfl | (simp only [Jd, Je, Jr, Js, Jt, Nat.reduceAdd, allOne, oneCell, Bool.and_self, Jc]; first | done | omega)) only [decide_eq_false h, ↓Qa, ↓Qb, ↓Qc, Qd, Qe, Qf, Qg, Qh, Qi, Qj, Qk, Ql, Qm, Qn, Qo, Qp, Qq, Qr, Qs, Qt, Qu, Qv, Qw, Qx, Qy, ptrTo, Qz, QA, QB, QC, QD, QE, QF, QG, QH, QI, QJ, QK, QL, QM, QN, QO, QP, QQ, QR, QS, QT, QU, QV, QW, QX, QY, QZ, Ja, Jb, Jc, Jd, Je, Jf, Jg, Jh, Ji, Jj, Jk, Jl, Jm, Jn, Jo, Jp, Jq, Jr, Js, Jt, Nat.reduceAdd]
    exact hk m (Gt.refl _)
end
end Go.Vit
