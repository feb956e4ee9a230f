/- Walks: boxes and greatest sums, both ways. -/
import Derived.Test.YtffomiamkiakcaaW9
set_option linter.unusedSimpArgs false
set_option linter.unusedVariables false
set_option maxRecDepth 20000
namespace Go.Vit
open Go Go.Proofs
attribute [local irreducible] runT loopS
def boxL (l : List Int) (r : Bool) : List Int := fillS (wLim (leastV (isortI l) r)) r (isortI l)
def wideL (l : List Int) (r : Bool) : List Int := fillS wSum r (isortI l)
theorem best_one {cost : List Int → Int} {s : List Int} (h : s.length = 1) : Best cost s s := by
  refine ⟨List.Perm.refl _, fun p hp => ?_⟩
  have : p = s := by
    match s, h with
    | [x], _ => exact List.perm_singleton.1 hp
  subst this
  exact ⟨Int.le_refl _, fun _ => lle_refl _⟩
theorem least_low {s p : List Int} {r : Bool} (hs : s.Pairwise (· ≤ ·)) (hp : p.Perm s) : leastV s r ≤ cM r p := by
  refine maxL_le.2 ⟨maxL_nn _, fun x hx => ?_⟩
  obtain ⟨i, hi, rfl⟩ := List.mem_map.1 hx
  exact reach_low hs hp (by have := List.mem_range.1 hi; omega)
theorem boxL_ok {l : List Int} {r : Bool} (h : chkS l = 0) : Best (cM r) l (boxL l r) ∧ cM r (boxL l r) = leastV (isortI l) r := by
  obtain ⟨h1, h7, hle⟩ := chkS_ok h
  have hil := isortI_length l
  have hs := isortI_sorted l
  obtain ⟨p, hp, hc⟩ := reach_up r hs (by omega) (by omega)
  have hB : Best (cM r) (isortI l) (boxL l r) := by
    unfold boxL fillS
    by_cases h0 : (isortI l).length = 1
    · rw [if_pos h0]; exact best_one h0
    · rw [if_neg h0]
      exact box_best hs (by omega) ⟨p, hp, hc⟩ fun q hq => least_low hs hq
  refine ⟨hB.perm (isortI_perm l), ?_⟩
  have h2 := (hB.2 p hp).1
  have h3 := least_low (r := r) hs hB.1
  have h4 : cM r p ≤ leastV (isortI l) r := hc
  omega
theorem wideL_ok {l : List Int} (r : Bool) (h : chkS l = 0) : Best (cS r) l (wideL l r) := by
  obtain ⟨h1, h7, hle⟩ := chkS_ok h
  have hil := isortI_length l
  have hs := isortI_sorted l
  have hB : Best (cS r) (isortI l) (wideL l r) := by
    unfold wideL fillS
    by_cases h0 : (isortI l).length = 1
    · rw [if_pos h0]; exact best_one h0
    · rw [if_neg h0]
      exact wide_best hs (by omega)
  exact hB.perm (isortI_perm l)
theorem chkS_perm {p l : List Int} (h : p.Perm l) : chkS p = chkS l := by
  unfold chkS
  rw [h.length_eq]
  have : (∀ x ∈ p, inI x 0 60) ↔ (∀ x ∈ l, inI x 0 60) := ⟨fun hh x hx => hh x (h.mem_iff.2 hx), fun hh x hx => hh x (h.mem_iff.1 hx)⟩
  simp only [this]
def boxX (l : List Int) (r : Bool) : List Int := if chkS l = 0 then boxL l r else []
def wideX (l : List Int) (r : Bool) : List Int := if chkS l = 0 then wideL l r else []
def mostX (l : List Int) (r : Bool) : Int := if chkS l = 0 then sumL (stepX (wideL l r) r) else 0
section
variable {lf n L : Nat} {m : Mem} {k : Value → Mem → Option Unit}
theorem more75 {m0 : Mem} {lb mb : Nat} {least : Int} (hl : m0.rd lb = some ⟨1, [.int .i64 least], none⟩) (hne : lb ≠ mb) : MoreOk (wLim least) lf 75 [.pointer (some ⟨lb, 0, none⟩)] (· = mb) m0 := by
  intro n L a b m k e ha hb hk
  rw [oCallV_e (hf := rfl)]
  have hl2 : m.rd lb = some ⟨1, [.int .i64 least], none⟩ := (e.kept lb (Mem.rd_lt hl) hne).trans hl
  have c0 : ([.int .i64 least] : List Value)[0]? = some (.int .i64 least) := rfl
  show runT (tab lf) (n + 1) 75 [.int .i64 a, .int .i64 b, .pointer (some ⟨lb, 0, none⟩)] L m k = some ()
  rw [r75]; dsimp only [S75, iofNat, inegSucc]
  try simp (disch := first | omega | with_unfolding_all exact id rfl | with_unfolding_all exact Nat.le_of_ble_eq_true rfl | (simp only [Jd, Je, Jr, Js, Jt, Nat.reduceAdd, allOne, oneCell, Bool.and_self, Jc]; first | done | omega)) only [hl2, c0, ↓Qa, ↓Qb, ↓Qc, Qd, Qe, Qf, Qg, Qh, Qi, Qj, Qk, Ql, Qm, Qn, Qo, Qp, Qq, Qr, Qs, Qt, Qu, Qv, Qw, Qx, Qy, ptrTo, Qz, QA, QB, QC, QD, QE, QF, QG, QH, QI, QJ, QK, QL, QM, QN, QO, QP, QQ, QR, QS, QT, QU, QV, QW, QX, QY, QZ, Ja, Jb, Jc, Jd, Je, Jf, Jg, Jh, Ji, Jj, Jk, Jl, Jm, Jn, Jo, Jp, Jq, Jr, Js, Jt, Nat.reduceAdd]
  have hg : (wLim least).g a b = if least < b then -1 else a := rfl
  rw [hg] at hk
  refine oIf_dec (fun h => ?_) (fun h => ?_)
  · rw [if_pos h] at hk; exact hk
  · rw [if_neg h] at hk; exact hk
theorem more77 {m0 : Mem} {mb : Nat} : MoreOk wSum lf 77 [] (· = mb) m0 := by
  intro n L a b m k e ha hb hk
  rw [oCallV_e (hf := rfl)]
  show runT (tab lf) (n + 1) 77 [.int .i64 a, .int .i64 b] L m k = some ()
  rw [r77]; dsimp only [S77, iofNat, inegSucc]
  rw [uc_e, uc_e, un0_e, oInt_add ⟨by omega, by omega⟩]
  exact hk
theorem box_sp {v : Value} {l : List Int} {r : Bool} (hlf : 1000000 ≤ lf) (hL : L ≤ m.next) (hv : IL m v l) (hl : l.length < 1000)
    (hk : ∀ u m', Gt m m' → IL m' u (boxX l r) → Opn u → k (.tuple ⟨[u, .int .i64 (chkS l)]⟩) m' = some ()) : runT (tab lf) (n + 12) 26 [v, .bool r] L m k = some () := by
  rw [r26]; dsimp only [S26, iofNat, inegSucc]
  try simp (disch := first | omega | with_unfolding_all exact id rfl | with_unfolding_all exact Nat.le_of_ble_eq_true rfl | (simp only [Jd, Je, Jr, Js, Jt, Nat.reduceAdd, allOne, oneCell, Bool.and_self, Jc]; first | done | omega)) only [↓Qa, ↓Qb, ↓Qc, Qd, Qe, Qf, Qg, Qh, Qi, Qj, Qk, Ql, Qm, Qn, Qo, Qp, Qq, Qr, Qs, Qt, Qu, Qv, Qw, Qx, Qy, ptrTo, Qz, QA, QB, QC, QD, QE, QF, QG, QH, QI, QJ, QK, QL, QM, QN, QO, QP, QQ, QR, QS, QT, QU, QV, QW, QX, QY, QZ, Ja, Jb, Jc, Jd, Je, Jf, Jg, Jh, Ji, Jj, Jk, Jl, Jm, Jn, Jo, Jp, Jq, Jr, Js, Jt, Nat.reduceAdd]
  unfold boxX at hk
  refine opened_sp hlf hL hv hl (fun h m1 e1 => ?_) (fun h0 b u m1 e1 hb hr hu => ?_)
  · rw [if_neg h] at hk
    try simp (disch := first | omega | with_unfolding_all exact id rfl | with_unfolding_all exact Nat.le_of_ble_eq_true rfl | (simp only [Jd, Je, Jr, Js, Jt, Nat.reduceAdd, allOne, oneCell, Bool.and_self, Jc]; first | done | omega)) only [decide_eq_false h, ↓Qa, ↓Qb, ↓Qc, Qd, Qe, Qf, Qg, Qh, Qi, Qj, Qk, Ql, Qm, Qn, Qo, Qp, Qq, Qr, Qs, Qt, Qu, Qv, Qw, Qx, Qy, ptrTo, Qz, QA, QB, QC, QD, QE, QF, QG, QH, QI, QJ, QK, QL, QM, QN, QO, QP, QQ, QR, QS, QT, QU, QV, QW, QX, QY, QZ, Ja, Jb, Jc, Jd, Je, Jf, Jg, Jh, Ji, Jj, Jk, Jl, Jm, Jn, Jo, Jp, Jq, Jr, Js, Jt, Nat.reduceAdd]
    exact hk _ m1 e1 (IL.nil _) (.inl rfl)
  · obtain ⟨h1, h7, hle⟩ := chkS_ok h0
    have hil := isortI_length l
    have hmem : ∀ y ∈ isortI l, 0 ≤ y ∧ y ≤ 60 := fun y hy => hle y ((isortI_perm l).mem_iff.1 hy)
    rw [if_pos h0, h0] at hk
    try simp (disch := first | omega | with_unfolding_all exact id rfl | with_unfolding_all exact Nat.le_of_ble_eq_true rfl | (simp only [Jd, Je, Jr, Js, Jt, Nat.reduceAdd, allOne, oneCell, Bool.and_self, Jc]; first | done | omega)) only [↓Qa, ↓Qb, ↓Qc, Qd, Qe, Qf, Qg, Qh, Qi, Qj, Qk, Ql, Qm, Qn, Qo, Qp, Qq, Qr, Qs, Qt, Qu, Qv, Qw, Qx, Qy, ptrTo, Qz, QA, QB, QC, QD, QE, QF, QG, QH, QI, QJ, QK, QL, QM, QN, QO, QP, QQ, QR, QS, QT, QU, QV, QW, QX, QY, QZ, Ja, Jb, Jc, Jd, Je, Jf, Jg, Jh, Ji, Jj, Jk, Jl, Jm, Jn, Jo, Jp, Jq, Jr, Js, Jt, Nat.reduceAdd]
    refine why_sp hlf hr hu (by omega) (by omega) hmem fun ix st hw => ?_
    have hst := (hw.end (isortI_sorted l)).1
    try simp (disch := first | omega | with_unfolding_all exact id rfl | with_unfolding_all exact Nat.le_of_ble_eq_true rfl | (simp only [Jd, Je, Jr, Js, Jt, Nat.reduceAdd, allOne, oneCell, Bool.and_self, Jc]; first | done | omega)) only [↓Qa, ↓Qb, ↓Qc, Qd, Qe, Qf, Qg, Qh, Qi, Qj, Qk, Ql, Qm, Qn, Qo, Qp, Qq, Qr, Qs, Qt, Qu, Qv, Qw, Qx, Qy, ptrTo, Qz, QA, QB, QC, QD, QE, QF, QG, QH, QI, QJ, QK, QL, QM, QN, QO, QP, QQ, QR, QS, QT, QU, QV, QW, QX, QY, QZ, Ja, Jb, Jc, Jd, Je, Jf, Jg, Jh, Ji, Jj, Jk, Jl, Jm, Jn, Jo, Jp, Jq, Jr, Js, Jt, Nat.reduceAdd]
    have hst1 : stw 1 L (m1.push ⟨1, [.int .i64 0], none⟩) m1.next 0 [.int .i64 st] (some ⟨1, [.int .i64 0], none⟩) = some (Go.undef, (m1.push ⟨1, [.int .i64 0], none⟩).put m1.next (some ⟨1, [.int .i64 st], none⟩)) := by
      have := e1.next
      exact stw_e (by omega) rfl (Nat.le_refl _) rfl
    rw [hst1, oRes_e]
    have e2 : Gt m1 ((m1.push ⟨1, [.int .i64 0], none⟩).put m1.next (some ⟨1, [.int .i64 st], none⟩)) := Mem.put_gt (Mem.gt_push _ _) _ (Nat.le_refl _)
    have q2 : ((m1.push ⟨1, [.int .i64 0], none⟩).put m1.next (some ⟨1, [.int .i64 st], none⟩)).rd m1.next = some ⟨1, [.int .i64 st], none⟩ := Mem.rd_put_eq _ _ (by rw [Mem.push_next]; omega)
    generalize (m1.push ⟨1, [.int .i64 0], none⟩).put m1.next (some ⟨1, [.int .i64 st], none⟩) = m2 at e2 q2 ⊢
    rw [hst] at q2
    have n1 := e1.next
    have n2 := e2.next
    have q2l := Mem.rd_lt q2
    refine fill_sp (wo := wLim (leastV (isortI l) r)) (r := r) (s := isortI l) (u := u) hlf hmem (by omega) (by omega) ?_ ((e2.kept b (Mem.rd_lt hr)).trans hr) (hu.mono e2) (by omega) (fun m0 e0 => ?_) fun w m3 e3 hw3 => ?_
    · simp only [pEqL, pEq, aEq_refl, Bool.and_self]
    · exact more75 ((e0.kept _ q2l).trans q2) (by omega)
    · try simp (disch := first | omega | with_unfolding_all exact id rfl | with_unfolding_all exact Nat.le_of_ble_eq_true rfl | (simp only [Jd, Je, Jr, Js, Jt, Nat.reduceAdd, allOne, oneCell, Bool.and_self, Jc]; first | done | omega)) only [↓Qa, ↓Qb, ↓Qc, Qd, Qe, Qf, Qg, Qh, Qi, Qj, Qk, Ql, Qm, Qn, Qo, Qp, Qq, Qr, Qs, Qt, Qu, Qv, Qw, Qx, Qy, ptrTo, Qz, QA, QB, QC, QD, QE, QF, QG, QH, QI, QJ, QK, QL, QM, QN, QO, QP, QQ, QR, QS, QT, QU, QV, QW, QX, QY, QZ, Ja, Jb, Jc, Jd, Je, Jf, Jg, Jh, Ji, Jj, Jk, Jl, Jm, Jn, Jo, Jp, Jq, Jr, Js, Jt, Nat.reduceAdd]
      exact hk w m3 ((e1.trans e2).trans e3) hw3.il hw3.opn
theorem wide33_sp {v : Value} {l : List Int} {r : Bool} (hlf : 1000000 ≤ lf) (hL : L ≤ m.next) (hv : IL m v l) (hl : l.length < 1000)
    (hk : ∀ u m', Gt m m' → IL m' u (wideX l r) → Opn u → k (.tuple ⟨[u, .int .i64 (chkS l)]⟩) m' = some ()) : runT (tab lf) (n + 12) 33 [v, .bool r] L m k = some () := by
  rw [r33]; dsimp only [S33, iofNat, inegSucc]
  try simp (disch := first | omega | with_unfolding_all exact id rfl | with_unfolding_all exact Nat.le_of_ble_eq_true rfl | (simp only [Jd, Je, Jr, Js, Jt, Nat.reduceAdd, allOne, oneCell, Bool.and_self, Jc]; first | done | omega)) only [↓Qa, ↓Qb, ↓Qc, Qd, Qe, Qf, Qg, Qh, Qi, Qj, Qk, Ql, Qm, Qn, Qo, Qp, Qq, Qr, Qs, Qt, Qu, Qv, Qw, Qx, Qy, ptrTo, Qz, QA, QB, QC, QD, QE, QF, QG, QH, QI, QJ, QK, QL, QM, QN, QO, QP, QQ, QR, QS, QT, QU, QV, QW, QX, QY, QZ, Ja, Jb, Jc, Jd, Je, Jf, Jg, Jh, Ji, Jj, Jk, Jl, Jm, Jn, Jo, Jp, Jq, Jr, Js, Jt, Nat.reduceAdd]
  unfold wideX at hk
  refine opened_sp hlf hL hv hl (fun h m1 e1 => ?_) (fun h0 b u m1 e1 hb hr hu => ?_)
  · rw [if_neg h] at hk
    try simp (disch := first | omega | with_unfolding_all exact id rfl | with_unfolding_all exact Nat.le_of_ble_eq_true rfl | (simp only [Jd, Je, Jr, Js, Jt, Nat.reduceAdd, allOne, oneCell, Bool.and_self, Jc]; first | done | omega)) only [decide_eq_false h, ↓Qa, ↓Qb, ↓Qc, Qd, Qe, Qf, Qg, Qh, Qi, Qj, Qk, Ql, Qm, Qn, Qo, Qp, Qq, Qr, Qs, Qt, Qu, Qv, Qw, Qx, Qy, ptrTo, Qz, QA, QB, QC, QD, QE, QF, QG, QH, QI, QJ, QK, QL, QM, QN, QO, QP, QQ, QR, QS, QT, QU, QV, QW, QX, QY, QZ, Ja, Jb, Jc, Jd, Je, Jf, Jg, Jh, Ji, Jj, Jk, Jl, Jm, Jn, Jo, Jp, Jq, Jr, Js, Jt, Nat.reduceAdd]
    exact hk _ m1 e1 (IL.nil _) (.inl rfl)
  · obtain ⟨h1, h7, hle⟩ := chkS_ok h0
    have hil := isortI_length l
    have hmem : ∀ y ∈ isortI l, 0 ≤ y ∧ y ≤ 60 := fun y hy => hle y ((isortI_perm l).mem_iff.1 hy)
    rw [if_pos h0, h0] at hk
    have n1 := e1.next
    try simp (disch := first | omega | with_unfolding_all exact id rfl | with_unfolding_all exact Nat.le_of_ble_eq_true rfl | (simp only [Jd, Je, Jr, Js, Jt, Nat.reduceAdd, allOne, oneCell, Bool.and_self, Jc]; first | done | omega)) only [↓Qa, ↓Qb, ↓Qc, Qd, Qe, Qf, Qg, Qh, Qi, Qj, Qk, Ql, Qm, Qn, Qo, Qp, Qq, Qr, Qs, Qt, Qu, Qv, Qw, Qx, Qy, ptrTo, Qz, QA, QB, QC, QD, QE, QF, QG, QH, QI, QJ, QK, QL, QM, QN, QO, QP, QQ, QR, QS, QT, QU, QV, QW, QX, QY, QZ, Ja, Jb, Jc, Jd, Je, Jf, Jg, Jh, Ji, Jj, Jk, Jl, Jm, Jn, Jo, Jp, Jq, Jr, Js, Jt, Nat.reduceAdd]
    refine fill_sp (wo := wSum) (r := r) (s := isortI l) (u := u) (g := 77) (caps := []) hlf hmem (by omega) (by omega) rfl hr hu (by omega) (fun m0 e0 => more77) fun w m3 e3 hw3 => ?_
    try simp (disch := first | omega | with_unfolding_all exact id rfl | with_unfolding_all exact Nat.le_of_ble_eq_true rfl | (simp only [Jd, Je, Jr, Js, Jt, Nat.reduceAdd, allOne, oneCell, Bool.and_self, Jc]; first | done | omega)) only [↓Qa, ↓Qb, ↓Qc, Qd, Qe, Qf, Qg, Qh, Qi, Qj, Qk, Ql, Qm, Qn, Qo, Qp, Qq, Qr, Qs, Qt, Qu, Qv, Qw, Qx, Qy, ptrTo, Qz, QA, QB, QC, QD, QE, QF, QG, QH, QI, QJ, QK, QL, QM, QN, QO, QP, QQ, QR, QS, QT, QU, QV, QW, QX, QY, QZ, Ja, Jb, Jc, Jd, Je, Jf, Jg, Jh, Ji, Jj, Jk, Jl, Jm, Jn, Jo, Jp, Jq, Jr, Js, Jt, Nat.reduceAdd]
    exact hk w m3 (e1.trans e3) hw3.il hw3.opn
theorem most_sp {v : Value} {l : List Int} {r : Bool} (hlf : 1000000 ≤ lf) (hL : L ≤ m.next) (hv : IL m v l) (hl : l.length < 1000)
    (hk : ∀ m', Gt m m' → k (.tuple ⟨[.int .i64 (mostX l r), .int .i64 (chkS l)]⟩) m' = some ()) : runT (tab lf) (n + 13) 31 [v, .bool r] L m k = some () := by
  rw [r31]; dsimp only [S31, iofNat, inegSucc]
  try simp (disch := first | omega | with_unfolding_all exact id rfl | with_unfolding_all exact Nat.le_of_ble_eq_true rfl | (simp only [Jd, Je, Jr, Js, Jt, Nat.reduceAdd, allOne, oneCell, Bool.and_self, Jc]; first | done | omega)) only [↓Qa, ↓Qb, ↓Qc, Qd, Qe, Qf, Qg, Qh, Qi, Qj, Qk, Ql, Qm, Qn, Qo, Qp, Qq, Qr, Qs, Qt, Qu, Qv, Qw, Qx, Qy, ptrTo, Qz, QA, QB, QC, QD, QE, QF, QG, QH, QI, QJ, QK, QL, QM, QN, QO, QP, QQ, QR, QS, QT, QU, QV, QW, QX, QY, QZ, Ja, Jb, Jc, Jd, Je, Jf, Jg, Jh, Ji, Jj, Jk, Jl, Jm, Jn, Jo, Jp, Jq, Jr, Js, Jt, Nat.reduceAdd]
  unfold mostX at hk
  refine wide33_sp hlf hL hv hl fun u m1 e1 hu ho => ?_
  have n1 := e1.next
  unfold wideX at hu
  try simp (disch := first | omega | with_unfolding_all exact id rfl | with_unfolding_all exact Nat.le_of_ble_eq_true rfl | (simp only [Jd, Je, Jr, Js, Jt, Nat.reduceAdd, allOne, oneCell, Bool.and_self, Jc]; first | done | omega)) only [↓Qa, ↓Qb, ↓Qc, Qd, Qe, Qf, Qg, Qh, Qi, Qj, Qk, Ql, Qm, Qn, Qo, Qp, Qq, Qr, Qs, Qt, Qu, Qv, Qw, Qx, Qy, ptrTo, Qz, QA, QB, QC, QD, QE, QF, QG, QH, QI, QJ, QK, QL, QM, QN, QO, QP, QQ, QR, QS, QT, QU, QV, QW, QX, QY, QZ, Ja, Jb, Jc, Jd, Je, Jf, Jg, Jh, Ji, Jj, Jk, Jl, Jm, Jn, Jo, Jp, Jq, Jr, Js, Jt, Nat.reduceAdd]
  refine oIf_ndec (fun h => ?_) (fun h => ?_)
  · have := hk m1 e1
    rw [if_neg h] at this
    exact this
  · have h0 : chkS l = 0 := h
    rw [h0, if_pos rfl] at hk
    rw [if_pos h0] at hu
    have hB := wideL_ok r h0
    have hl2 := hB.1.length_eq
    refine sumS_sp hlf (by omega) hu ho (by omega) fun m2 e2 => ?_
    try simp (disch := first | omega | with_unfolding_all exact id rfl | with_unfolding_all exact Nat.le_of_ble_eq_true rfl | (simp only [Jd, Je, Jr, Js, Jt, Nat.reduceAdd, allOne, oneCell, Bool.and_self, Jc]; first | done | omega)) only [↓Qa, ↓Qb, ↓Qc, Qd, Qe, Qf, Qg, Qh, Qi, Qj, Qk, Ql, Qm, Qn, Qo, Qp, Qq, Qr, Qs, Qt, Qu, Qv, Qw, Qx, Qy, ptrTo, Qz, QA, QB, QC, QD, QE, QF, QG, QH, QI, QJ, QK, QL, QM, QN, QO, QP, QQ, QR, QS, QT, QU, QV, QW, QX, QY, QZ, Ja, Jb, Jc, Jd, Je, Jf, Jg, Jh, Ji, Jj, Jk, Jl, Jm, Jn, Jo, Jp, Jq, Jr, Js, Jt, Nat.reduceAdd]
    have h3 : chkS (wideL l r) = 0 := (chkS_perm hB.1).trans h0
    unfold sumX
    rw [h3, if_pos rfl]
    exact hk m2 (e1.trans e2)
theorem rleast_sp {v : Value} {l : List Int} {r : Bool} (hlf : 1000000 ≤ lf) (hL : L ≤ m.next) (hv : IL m v l) (ho : Opn v) (hl : l.length < 1000)
    (hk : ∀ m', Gt m m' → k (.tuple ⟨[.int .i64 (leX l r), .int .i64 (chkS l)]⟩) m' = some ()) : runT (tab lf) (n + 11) 25 [v, .bool r] L m k = some () := by
  rw [r25]; dsimp only [S25, iofNat, inegSucc]
  try simp (disch := first | omega | with_unfolding_all exact id rfl | with_unfolding_all exact Nat.le_of_ble_eq_true rfl | (simp only [Jd, Je, Jr, Js, Jt, Nat.reduceAdd, allOne, oneCell, Bool.and_self, Jc]; first | done | omega)) only [↓Qa, ↓Qb, ↓Qc, Qd, Qe, Qf, Qg, Qh, Qi, Qj, Qk, Ql, Qm, Qn, Qo, Qp, Qq, Qr, Qs, Qt, Qu, Qv, Qw, Qx, Qy, ptrTo, Qz, QA, QB, QC, QD, QE, QF, QG, QH, QI, QJ, QK, QL, QM, QN, QO, QP, QQ, QR, QS, QT, QU, QV, QW, QX, QY, QZ, Ja, Jb, Jc, Jd, Je, Jf, Jg, Jh, Ji, Jj, Jk, Jl, Jm, Jn, Jo, Jp, Jq, Jr, Js, Jt, Nat.reduceAdd]
  refine rcheck_sp hlf hv (by omega) ?_
  unfold leX at hk
  try simp (disch := first | omega | with_unfolding_all exact id rfl | with_unfolding_all exact Nat.le_of_ble_eq_true rfl | (simp only [Jd, Je, Jr, Js, Jt, Nat.reduceAdd, allOne, oneCell, Bool.and_self, Jc]; first | done | omega)) only [↓Qa, ↓Qb, ↓Qc, Qd, Qe, Qf, Qg, Qh, Qi, Qj, Qk, Ql, Qm, Qn, Qo, Qp, Qq, Qr, Qs, Qt, Qu, Qv, Qw, Qx, Qy, ptrTo, Qz, QA, QB, QC, QD, QE, QF, QG, QH, QI, QJ, QK, QL, QM, QN, QO, QP, QQ, QR, QS, QT, QU, QV, QW, QX, QY, QZ, Ja, Jb, Jc, Jd, Je, Jf, Jg, Jh, Ji, Jj, Jk, Jl, Jm, Jn, Jo, Jp, Jq, Jr, Js, Jt, Nat.reduceAdd]
  refine oIf_ndec (fun h => ?_) (fun h => ?_)
  · have := hk m (Gt.refl _)
    rw [if_neg h] at this
    exact this
  · have h0 : chkS l = 0 := h
    rw [h0, if_pos rfl] at hk
    obtain ⟨h1, h7, hle⟩ := chkS_ok h0
    refine rbox_sp hlf hL hv ho h1 h7 hle fun u m1 R e1 hu hR => ?_
    have n1 := e1.next
    obtain ⟨hB, hc⟩ := boxL_ok (r := r) h0
    have hRe : R = boxL l r := hR.uniq (List.Perm.refl _) hB
    have hRl := hR.1.length_eq
    refine rmax_sp hlf (by omega) hu (by omega) (by omega) (fun x hx => hle x (hR.1.mem_iff.1 hx)) fun m2 e2 => ?_
    have : (stepX R r).foldl fMax 0 = leastV (isortI l) r := by rw [hRe]; exact hc
    rw [this]
    exact hk m2 (e1.trans e2)
theorem rbox27_sp {v : Value} {l : List Int} {r : Bool} (hlf : 1000000 ≤ lf) (hL : L ≤ m.next) (hv : IL m v l) (ho : Opn v) (hl : l.length < 1000)
    (hk : ∀ u m', Gt m m' → IL m' u (boxX l r) → k (.tuple ⟨[u, .int .i64 (chkS l)]⟩) m' = some ()) : runT (tab lf) (n + 11) 27 [v, .bool r] L m k = some () := by
  rw [r27]; dsimp only [S27, iofNat, inegSucc]
  try simp (disch := first | omega | with_unfolding_all exact id rfl | with_unfolding_all exact Nat.le_of_ble_eq_true rfl | (simp only [Jd, Je, Jr, Js, Jt, Nat.reduceAdd, allOne, oneCell, Bool.and_self, Jc]; first | done | omega)) only [↓Qa, ↓Qb, ↓Qc, Qd, Qe, Qf, Qg, Qh, Qi, Qj, Qk, Ql, Qm, Qn, Qo, Qp, Qq, Qr, Qs, Qt, Qu, Qv, Qw, Qx, Qy, ptrTo, Qz, QA, QB, QC, QD, QE, QF, QG, QH, QI, QJ, QK, QL, QM, QN, QO, QP, QQ, QR, QS, QT, QU, QV, QW, QX, QY, QZ, Ja, Jb, Jc, Jd, Je, Jf, Jg, Jh, Ji, Jj, Jk, Jl, Jm, Jn, Jo, Jp, Jq, Jr, Js, Jt, Nat.reduceAdd]
  refine rcheck_sp hlf hv (by omega) ?_
  unfold boxX at hk
  try simp (disch := first | omega | with_unfolding_all exact id rfl | with_unfolding_all exact Nat.le_of_ble_eq_true rfl | (simp only [Jd, Je, Jr, Js, Jt, Nat.reduceAdd, allOne, oneCell, Bool.and_self, Jc]; first | done | omega)) only [↓Qa, ↓Qb, ↓Qc, Qd, Qe, Qf, Qg, Qh, Qi, Qj, Qk, Ql, Qm, Qn, Qo, Qp, Qq, Qr, Qs, Qt, Qu, Qv, Qw, Qx, Qy, ptrTo, Qz, QA, QB, QC, QD, QE, QF, QG, QH, QI, QJ, QK, QL, QM, QN, QO, QP, QQ, QR, QS, QT, QU, QV, QW, QX, QY, QZ, Ja, Jb, Jc, Jd, Je, Jf, Jg, Jh, Ji, Jj, Jk, Jl, Jm, Jn, Jo, Jp, Jq, Jr, Js, Jt, Nat.reduceAdd]
  refine oIf_ndec (fun h => ?_) (fun h => ?_)
  · rw [if_neg h] at hk
    exact hk _ m (Gt.refl _) (IL.nil _)
  · have h0 : chkS l = 0 := h
    rw [h0, if_pos rfl] at hk
    obtain ⟨h1, h7, hle⟩ := chkS_ok h0
    refine rbox_sp hlf hL hv ho h1 h7 hle fun u m1 R e1 hu hR => ?_
    have hRe : R = boxL l r := hR.uniq (List.Perm.refl _) (boxL_ok (r := r) h0).1
    rw [hRe] at hu
    exact hk u m1 e1 hu
theorem rmost_sp {v : Value} {l : List Int} {r : Bool} (hlf : 1000000 ≤ lf) (hL : L ≤ m.next) (hv : IL m v l) (ho : Opn v) (hl : l.length < 1000)
    (hk : ∀ m', Gt m m' → k (.tuple ⟨[.int .i64 (mostX l r), .int .i64 (chkS l)]⟩) m' = some ()) : runT (tab lf) (n + 11) 32 [v, .bool r] L m k = some () := by
  rw [r32]; dsimp only [S32, iofNat, inegSucc]
  try simp (disch := first | omega | with_unfolding_all exact id rfl | with_unfolding_all exact Nat.le_of_ble_eq_true rfl | (simp only [Jd, Je, Jr, Js, Jt, Nat.reduceAdd, allOne, oneCell, Bool.and_self, Jc]; first | done | omega)) only [↓Qa, ↓Qb, ↓Qc, Qd, Qe, Qf, Qg, Qh, Qi, Qj, Qk, Ql, Qm, Qn, Qo, Qp, Qq, Qr, Qs, Qt, Qu, Qv, Qw, Qx, Qy, ptrTo, Qz, QA, QB, QC, QD, QE, QF, QG, QH, QI, QJ, QK, QL, QM, QN, QO, QP, QQ, QR, QS, QT, QU, QV, QW, QX, QY, QZ, Ja, Jb, Jc, Jd, Je, Jf, Jg, Jh, Ji, Jj, Jk, Jl, Jm, Jn, Jo, Jp, Jq, Jr, Js, Jt, Nat.reduceAdd]
  refine rcheck_sp hlf hv (by omega) ?_
  unfold mostX at hk
  try simp (disch := first | omega | with_unfolding_all exact id rfl | with_unfolding_all exact Nat.le_of_ble_eq_true rfl | (simp only [Jd, Je, Jr, Js, Jt, Nat.reduceAdd, allOne, oneCell, Bool.and_self, Jc]; first | done | omega)) only [↓Qa, ↓Qb, ↓Qc, Qd, Qe, Qf, Qg, Qh, Qi, Qj, Qk, Ql, Qm, Qn, Qo, Qp, Qq, Qr, Qs, Qt, Qu, Qv, Qw, Qx, Qy, ptrTo, Qz, QA, QB, QC, QD, QE, QF, QG, QH, QI, QJ, QK, QL, QM, QN, QO, QP, QQ, QR, QS, QT, QU, QV, QW, QX, QY, QZ, Ja, Jb, Jc, Jd, Je, Jf, Jg, Jh, Ji, Jj, Jk, Jl, Jm, Jn, Jo, Jp, Jq, Jr, Js, Jt, Nat.reduceAdd]
  refine oIf_ndec (fun h => ?_) (fun h => ?_)
  · have := hk m (Gt.refl _)
    rw [if_neg h] at this
    exact this
  · have h0 : chkS l = 0 := h
    rw [h0, if_pos rfl] at hk
    obtain ⟨h1, h7, hle⟩ := chkS_ok h0
    refine rwide_sp hlf hL hv ho h1 h7 hle fun u m1 R e1 hu hR => ?_
    have n1 := e1.next
    have hRe : R = wideL l r := hR.uniq (List.Perm.refl _) (wideL_ok r h0)
    have hRl := hR.1.length_eq
    refine rsum_sp hlf (by omega) hu (by omega) (by omega) (fun x hx => hle x (hR.1.mem_iff.1 hx)) fun m2 e2 => ?_
    rw [hRe]
    exact hk m2 (e1.trans e2)
theorem rwide34_sp {v : Value} {l : List Int} {r : Bool} (hlf : 1000000 ≤ lf) (hL : L ≤ m.next) (hv : IL m v l) (ho : Opn v) (hl : l.length < 1000)
    (hk : ∀ u m', Gt m m' → IL m' u (wideX l r) → k (.tuple ⟨[u, .int .i64 (chkS l)]⟩) m' = some ()) : runT (tab lf) (n + 11) 34 [v, .bool r] L m k = some () := by
  rw [r34]; dsimp only [S34, iofNat, inegSucc]
  try simp (disch := first | omega | with_unfolding_all exact id rfl | with_unfolding_all exact Nat.le_of_ble_eq_true rfl | (simp only [Jd, Je, Jr, Js, Jt, Nat.reduceAdd, allOne, oneCell, Bool.and_self, Jc]; first | done | omega)) only [↓Qa, ↓Qb, ↓Qc, Qd, Qe, Qf, Qg, Qh, Qi, Qj, Qk, Ql, Qm, Qn, Qo, Qp, Qq, Qr, Qs, Qt, Qu, Qv, Qw, Qx, Qy, ptrTo, Qz, QA, QB, QC, QD, QE, QF, QG, QH, QI, QJ, QK, QL, QM, QN, QO, QP, QQ, QR, QS, QT, QU, QV, QW, QX, QY, QZ, Ja, Jb, Jc, Jd, Je, Jf, Jg, Jh, Ji, Jj, Jk, Jl, Jm, Jn, Jo, Jp, Jq, Jr, Js, Jt, Nat.reduceAdd]
  refine rcheck_sp hlf hv (by omega) ?_
  unfold wideX at hk
  try simp (disch := first | omega | with_unfolding_all exact id rfl | with_unfolding_all exact Nat.le_of_ble_eq_true rfl | (simp only [Jd, Je, Jr, Js, Jt, Nat.reduceAdd, allOne, oneCell, Bool.and_self, Jc]; first | done | omega)) only [↓Qa, ↓Qb, ↓Qc, Qd, Qe, Qf, Qg, Qh, Qi, Qj, Qk, Ql, Qm, Qn, Qo, Qp, Qq, Qr, Qs, Qt, Qu, Qv, Qw, Qx, Qy, ptrTo, Qz, QA, QB, QC, QD, QE, QF, QG, QH, QI, QJ, QK, QL, QM, QN, QO, QP, QQ, QR, QS, QT, QU, QV, QW, QX, QY, QZ, Ja, Jb, Jc, Jd, Je, Jf, Jg, Jh, Ji, Jj, Jk, Jl, Jm, Jn, Jo, Jp, Jq, Jr, Js, Jt, Nat.reduceAdd]
  refine oIf_ndec (fun h => ?_) (fun h => ?_)
  · rw [if_neg h] at hk
    exact hk _ m (Gt.refl _) (IL.nil _)
  · have h0 : chkS l = 0 := h
    rw [h0, if_pos rfl] at hk
    obtain ⟨h1, h7, hle⟩ := chkS_ok h0
    refine rwide_sp hlf hL hv ho h1 h7 hle fun u m1 R e1 hu hR => ?_
    have hRe : R = wideL l r := hR.uniq (List.Perm.refl _) (wideL_ok r h0)
    rw [hRe] at hu
    exact hk u m1 e1 hu
theorem whyN_ok {s : List Int} {r : Bool} (hs : s.Pairwise (· ≤ ·)) (h : 0 < s.length - reachN s r) : whyN s r < s.length - reachN s r ∧ leastV s r ≤ gapS s (reachN s r) (whyN s r) ∧ ∀ a, a < whyN s r → gapS s (reachN s r) a < leastV s r := by
  have hex : ∃ j, (List.range (s.length - reachN s r)).find? (fun i => decide (leastV s r ≤ gapS s (reachN s r) i)) = some j := by
    cases hf : (List.range (s.length - reachN s r)).find? (fun i => decide (leastV s r ≤ gapS s (reachN s r) i)) with
    | some j => exact ⟨j, rfl⟩
    | none =>
      rw [List.find?_eq_none] at hf
      have hall : ∀ i, i < s.length - reachN s r → gapS s (reachN s r) i < leastV s r := fun i hi => by
        have := hf i (by simpa using hi)
        simpa using this
      have h0 := hall 0 h
      have hg0 := gap_nn (i := 0) hs (reachN_bd s r).1 (by omega)
      have : leastV s r ≤ leastV s r - 1 := maxL_le.2 ⟨by omega, fun x hx => by
        obtain ⟨i, hi, rfl⟩ := List.mem_map.1 hx
        have := hall i (by simpa using hi)
        omega⟩
      omega
  obtain ⟨j, hj⟩ := hex
  have hw : whyN s r = j := by unfold whyN; rw [hj]; rfl
  rw [List.find?_range_eq_some] at hj
  obtain ⟨g1, g2, g3⟩ := hj
  rw [hw]
  refine ⟨by simpa using g2, of_decide_eq_true g1, fun a ha => ?_⟩
  have := g3 a ha
  simpa using this
theorem rwhy_sp {v : Value} {l : List Int} {r : Bool} (hlf : 1000000 ≤ lf) (hL : L ≤ m.next) (hv : IL m v l) (ho : Opn v) (hl : l.length < 1000)
    (hk : ∀ m', Gt m m' → k (.tuple ⟨[.int .i64 (whyX l r), .int .i64 (whyE l)]⟩) m' = some ()) : runT (tab lf) (n + 12) 29 [v, .bool r] L m k = some () := by
  rw [r29]; dsimp only [S29, iofNat, inegSucc]
  try simp (disch := first | omega | with_unfolding_all exact id rfl | with_unfolding_all exact Nat.le_of_ble_eq_true rfl | (simp only [Jd, Je, Jr, Js, Jt, Nat.reduceAdd, allOne, oneCell, Bool.and_self, Jc]; first | done | omega)) only [↓Qa, ↓Qb, ↓Qc, Qd, Qe, Qf, Qg, Qh, Qi, Qj, Qk, Ql, Qm, Qn, Qo, Qp, Qq, Qr, Qs, Qt, Qu, Qv, Qw, Qx, Qy, ptrTo, Qz, QA, QB, QC, QD, QE, QF, QG, QH, QI, QJ, QK, QL, QM, QN, QO, QP, QQ, QR, QS, QT, QU, QV, QW, QX, QY, QZ, Ja, Jb, Jc, Jd, Je, Jf, Jg, Jh, Ji, Jj, Jk, Jl, Jm, Jn, Jo, Jp, Jq, Jr, Js, Jt, Nat.reduceAdd]
  refine rleast_sp hlf hL hv ho hl fun m1 e1 => ?_
  have hk1 := hk m1 e1
  unfold whyX whyE at hk hk1
  unfold leX
  by_cases h0 : chkS l = 0
  · rw [if_pos h0, if_pos h0] at hk1
    simp only [if_pos h0] at hk
    rw [h0, if_pos rfl]
    obtain ⟨h1, h7, hle⟩ := chkS_ok h0
    by_cases hl1 : l.length = 1
    · rw [if_pos hl1, if_pos hl1] at hk1
      try simp (disch := first | omega | with_unfolding_all exact id rfl | with_unfolding_all exact Nat.le_of_ble_eq_true rfl | (simp only [Jd, Je, Jr, Js, Jt, Nat.reduceAdd, allOne, oneCell, Bool.and_self, Jc]; first | done | omega)) only [hv.ln, decide_eq_true (show ((0 : Int) = 0) from rfl), decide_eq_true (show ((l.length : Nat) : Int) = 1 by omega), decide_eq_false (show ¬ (12 : Int) = 0 by omega), ↓Qa, ↓Qb, ↓Qc, Qd, Qe, Qf, Qg, Qh, Qi, Qj, Qk, Ql, Qm, Qn, Qo, Qp, Qq, Qr, Qs, Qt, Qu, Qv, Qw, Qx, Qy, ptrTo, Qz, QA, QB, QC, QD, QE, QF, QG, QH, QI, QJ, QK, QL, QM, QN, QO, QP, QQ, QR, QS, QT, QU, QV, QW, QX, QY, QZ, Ja, Jb, Jc, Jd, Je, Jf, Jg, Jh, Ji, Jj, Jk, Jl, Jm, Jn, Jo, Jp, Jq, Jr, Js, Jt, Nat.reduceAdd]
      exact hk1
    · simp only [if_neg hl1] at hk
      try simp (disch := first | omega | with_unfolding_all exact id rfl | with_unfolding_all exact Nat.le_of_ble_eq_true rfl | (simp only [Jd, Je, Jr, Js, Jt, Nat.reduceAdd, allOne, oneCell, Bool.and_self, Jc]; first | done | omega)) only [hv.ln, decide_eq_true (show ((0 : Int) = 0) from rfl), decide_eq_false (show ¬ ((l.length : Nat) : Int) = 1 by omega), ↓Qa, ↓Qb, ↓Qc, Qd, Qe, Qf, Qg, Qh, Qi, Qj, Qk, Ql, Qm, Qn, Qo, Qp, Qq, Qr, Qs, Qt, Qu, Qv, Qw, Qx, Qy, ptrTo, Qz, QA, QB, QC, QD, QE, QF, QG, QH, QI, QJ, QK, QL, QM, QN, QO, QP, QQ, QR, QS, QT, QU, QV, QW, QX, QY, QZ, Ja, Jb, Jc, Jd, Je, Jf, Jg, Jh, Ji, Jj, Jk, Jl, Jm, Jn, Jo, Jp, Jq, Jr, Js, Jt, Nat.reduceAdd]
      have n1 := e1.next
      refine rsorted_sp hlf (by omega) (hv.mono e1) h7 hle fun u m2 e2 hu => ?_
      have hil := isortI_length l
      have hmem : ∀ y ∈ isortI l, 0 ≤ y ∧ y ≤ 60 := fun y hy => hle y ((isortI_perm l).mem_iff.1 hy)
      have hrb := reachN_bd (isortI l) r
      have hN : 0 < (isortI l).length - reachN (isortI l) r := by
        by_cases h2 : 2 < (isortI l).length
        · omega
        · have hq : reachN (isortI l) r = 1 := by unfold reachN; rw [if_neg (by simp; omega)]
          omega
      obtain ⟨w1, w2, w3⟩ := whyN_ok (isortI_sorted l) hN
      have hk2 := hk m2 (e1.trans e2)
      have hrn : reachN l r = reachN (isortI l) r := reachN_len _ _ _ hil.symm
      generalize hs : isortI l = s at hu hil hmem hrb hN w1 w2 w3 hk2 hrn
      refine loop_up (whyN s r) (fun i vs m' => vs = [.int .i64 (i : Int)] ∧ m' = m2) (by omega) ⟨rfl, rfl⟩ ?_
      rintro i vs m' hi ⟨rfl, rfl⟩ self hself
      rw [uc_e]
      refine rreach_sp (hv.mono (e1.trans e2)) ?_
      rw [hrn]
      have hi2 : i + reachN s r < s.length := by omega
      have hi1 : i < s.length := by omega
      have b1 := hmem _ (List.getElem_mem hi1)
      have b2 := hmem _ (List.getElem_mem hi2)
      have hg : s[i + reachN s r] - s[i] = gapS s (reachN s r) i := by
        unfold gapS
        rw [List.getD_eq_getElem?_getD, List.getElem?_eq_getElem hi2, List.getD_eq_getElem?_getD, List.getElem?_eq_getElem hi1]; rfl
      rw [oInt_add ⟨by omega, by omega⟩, show (i : Int) + (reachN s r : Int) = ((i + reachN s r : Nat) : Int) by omega, hu.il.ia hi2, oOpt_e, hu.il.ld hi2, oOpt_e, hu.il.ia hi1, oOpt_e, hu.il.ld hi1, oOpt_e, oInt_sub ⟨by omega, by omega⟩, hg, oInt_lss]
      by_cases hiw : i = whyN s r
      · rw [decide_eq_false (by rw [hiw]; omega), oIf_f, hiw]
        exact hk2
      · rw [decide_eq_true (w3 i (by omega)), oIf_t, oInt_add ⟨by omega, by omega⟩]
        exact hself (by omega) _ _ ⟨rfl, rfl⟩
  · rw [if_neg h0, if_neg h0] at hk1
    try simp (disch := first | omega | with_unfolding_all exact id rfl | with_unfolding_all exact Nat.le_of_ble_eq_true rfl | (simp only [Jd, Je, Jr, Js, Jt, Nat.reduceAdd, allOne, oneCell, Bool.and_self, Jc]; first | done | omega)) only [decide_eq_false h0, ↓Qa, ↓Qb, ↓Qc, Qd, Qe, Qf, Qg, Qh, Qi, Qj, Qk, Ql, Qm, Qn, Qo, Qp, Qq, Qr, Qs, Qt, Qu, Qv, Qw, Qx, Qy, ptrTo, Qz, QA, QB, QC, QD, QE, QF, QG, QH, QI, QJ, QK, QL, QM, QN, QO, QP, QQ, QR, QS, QT, QU, QV, QW, QX, QY, QZ, Ja, Jb, Jc, Jd, Je, Jf, Jg, Jh, Ji, Jj, Jk, Jl, Jm, Jn, Jo, Jp, Jq, Jr, Js, Jt, Nat.reduceAdd]
    exact hk1
end
end Go.Vit
