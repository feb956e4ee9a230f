/- Walks: what proves the least step. -/
import Derived.Test.YtffomiamkiakcaaW4
import Derived.Test.YtffomiamkiakcaaP3
set_option linter.unusedSimpArgs false
set_option linter.unusedVariables false
set_option maxRecDepth 20000
namespace Go.Vit
open Go Go.Proofs
attribute [local irreducible] runT loopS
/-- The index and the gap, after so many gaps. -/
def WhyI (g : Nat → Int) (i : Nat) (ix st : Int) : Prop := (i = 0 ∧ ix = -1 ∧ st = 0) ∨ (0 < i ∧ ∃ j : Nat, ix = j ∧ j < i ∧ g j = st ∧ (∀ a, a < i → g a ≤ st) ∧ ∀ a, a < j → g a < st)
theorem WhyI.step {g : Nat → Int} {i : Nat} {ix st : Int} (h : WhyI g i ix st) : (ix < 0 ∨ st < g i → WhyI g (i + 1) i (g i)) ∧ (¬ ix < 0 → ¬ st < g i → WhyI g (i + 1) ix st) := by
  rcases h with ⟨rfl, rfl, rfl⟩ | ⟨h0, j, rfl, h1, h2, h3, h4⟩
  · refine ⟨fun _ => .inr ⟨by omega, 0, rfl, by omega, rfl, fun a ha => ?_, fun a ha => by omega⟩, fun h => by omega⟩
    have : a = 0 := by omega
    subst this; omega
  · refine ⟨fun h => .inr ⟨by omega, i, rfl, by omega, rfl, fun a ha => ?_, fun a ha => ?_⟩, fun _ hn => .inr ⟨by omega, j, rfl, by omega, h2, fun a ha => ?_, h4⟩⟩
    · by_cases e : a = i
      · subst e; omega
      · have := h3 a (by omega); omega
    · have := h3 a (by omega); omega
    · by_cases e : a = i
      · subst e; omega
      · exact h3 a (by omega)
def leastV (s : List Int) (r : Bool) : Int := maxL (gaps s (reachN s r))
def whyN (s : List Int) (r : Bool) : Nat := ((List.range (s.length - reachN s r)).find? fun i => decide (leastV s r ≤ gapS s (reachN s r) i)).getD 0
theorem gap_nn {s : List Int} {q i : Nat} (hs : s.Pairwise (· ≤ ·)) (hq : 1 ≤ q) (hi : i + q < s.length) : 0 ≤ gapS s q i := by
  have g1 : s.getD (i + q) 0 = s[i + q] := by rw [List.getD_eq_getElem?_getD, List.getElem?_eq_getElem hi]; rfl
  have g2 : s.getD i 0 = s[i]'(by omega) := by rw [List.getD_eq_getElem?_getD, List.getElem?_eq_getElem (by omega)]; rfl
  unfold gapS
  rw [g1, g2]
  have := List.pairwise_iff_getElem.1 hs i (i + q) (by omega) hi (by omega)
  omega
theorem find_first {N j : Nat} {p : Nat → Bool} (hj : j < N) (hp : p j = true) (h : ∀ a, a < j → p a = false) : (List.range N).find? p = some j := by
  rw [List.find?_range_eq_some]
  refine ⟨hp, by simpa using hj, fun a ha => ?_⟩
  rw [h a ha]; rfl
theorem WhyI.end {s : List Int} {r : Bool} {ix st : Int} (hs : s.Pairwise (· ≤ ·)) (h : WhyI (gapS s (reachN s r)) (s.length - reachN s r) ix st) :
    st = leastV s r ∧ (s.length - reachN s r = 0 → ix = -1) ∧ (0 < s.length - reachN s r → ix = (whyN s r : Int)) := by
  have hrb := reachN_bd s r
  rcases h with ⟨h0, rfl, rfl⟩ | ⟨h0, j, rfl, h1, h2, h3, h4⟩
  · refine ⟨?_, fun _ => rfl, fun h => by omega⟩
    unfold leastV gaps
    rw [h0]; rfl
  · have hst : st = leastV s r := by
      have g0 := gap_nn hs hrb.1 (show j + reachN s r < s.length by omega)
      have a1 : leastV s r ≤ st := by
        refine maxL_le.2 ⟨by omega, fun x hx => ?_⟩
        obtain ⟨a, ha, rfl⟩ := List.mem_map.1 hx
        exact h3 a (by simpa using ha)
      have a2 : st ≤ leastV s r := by
        rw [← h2]
        exact maxL_mem (List.mem_map.2 ⟨j, by simpa using h1, rfl⟩)
      omega
    refine ⟨hst, fun h => by omega, fun _ => ?_⟩
    unfold whyN
    rw [find_first h1 (decide_eq_true (by omega)) fun a ha => decide_eq_false (by have := h4 a ha; omega)]
    rfl
section
variable {lf n L : Nat} {m : Mem} {k : Value → Mem → Option Unit}
theorem why_sp {b : Nat} {u : Value} {s : List Int} {r : Bool} (hlf : 1000000 ≤ lf) (hr : m.rd b = some ⟨1, [u, .bool r], none⟩) (hu : IL m u s) (h1 : 1 ≤ s.length) (h7 : s.length ≤ 7) (hm : ∀ x ∈ s, 0 ≤ x ∧ x ≤ 60)
    (hk : ∀ ix st, WhyI (gapS s (reachN s r)) (s.length - reachN s r) ix st → k (.tuple ⟨[.int .i64 ix, .int .i64 st]⟩) m = some ()) : runT (tab lf) (n + 2) 72 [.pointer (some ⟨b, 0, none⟩)] L m k = some () := by
  rw [r72]; dsimp only [S72, iofNat, inegSucc]
  have han : ∀ a : Addr, anil (.pointer (some a)) = some (.pointer (some a)) := fun _ => rfl
  have c0 : ([u, .bool r] : List Value)[0]? = some u := rfl
  have hrb := reachN_bd s r
  have hq1 : s.length = 1 → reachN s r = 1 := fun h => by unfold reachN; rw [if_neg (by simp [h])]
  have hq2 : s.length ≤ 2 → reachN s r = 1 := fun h => by unfold reachN; rw [if_neg (by simp; omega)]
  try simp (disch := first | omega | with_unfolding_all exact id rfl | with_unfolding_all exact Nat.le_of_ble_eq_true rfl | (simp only [Jd, Je, Jr, Js, Jt, Nat.reduceAdd, allOne, oneCell, Bool.and_self, Jc]; first | done | omega)) only [↓Qa, ↓Qb, ↓Qc, Qd, Qe, Qf, Qg, Qh, Qi, Qj, Qk, Ql, Qm, Qn, Qo, Qp, Qq, Qr, Qs, Qt, Qu, Qv, Qw, Qx, Qy, ptrTo, Qz, QA, QB, QC, QD, QE, QF, QG, QH, QI, QJ, QK, QL, QM, QN, QO, QP, QQ, QR, QS, QT, QU, QV, QW, QX, QY, QZ, Ja, Jb, Jc, Jd, Je, Jf, Jg, Jh, Ji, Jj, Jk, Jl, Jm, Jn, Jo, Jp, Jq, Jr, Js, Jt, Nat.reduceAdd]
  refine reach_sp hr hu ?_
  generalize hq : reachN s r = q at hrb hk hq1 hq2 ⊢
  try simp (disch := first | omega | with_unfolding_all exact id rfl | with_unfolding_all exact Nat.le_of_ble_eq_true rfl | (simp only [Jd, Je, Jr, Js, Jt, Nat.reduceAdd, allOne, oneCell, Bool.and_self, Jc]; first | done | omega)) only [han, hr, c0, hu.ln, ↓Qa, ↓Qb, ↓Qc, Qd, Qe, Qf, Qg, Qh, Qi, Qj, Qk, Ql, Qm, Qn, Qo, Qp, Qq, Qr, Qs, Qt, Qu, Qv, Qw, Qx, Qy, ptrTo, Qz, QA, QB, QC, QD, QE, QF, QG, QH, QI, QJ, QK, QL, QM, QN, QO, QP, QQ, QR, QS, QT, QU, QV, QW, QX, QY, QZ, Ja, Jb, Jc, Jd, Je, Jf, Jg, Jh, Ji, Jj, Jk, Jl, Jm, Jn, Jo, Jp, Jq, Jr, Js, Jt, Nat.reduceAdd]
  rw [oInt_sub ⟨by omega, by omega⟩, show (s.length : Int) - (q : Int) = ((s.length - q : Nat) : Int) by omega]
  refine loop_up (s.length - q) (fun i vs m' => m' = m ∧ ∃ ix st, vs = [.int .i64 ix, .int .i64 st, .int .i64 (i : Int)] ∧ WhyI (gapS s q) i ix st) (by omega) ⟨rfl, -1, 0, rfl, .inl ⟨rfl, rfl, rfl⟩⟩ ?_
  rintro i vs m' hi ⟨rfl, ix, st, rfl, hw⟩ self hself
  try simp (disch := first | omega | with_unfolding_all exact id rfl | with_unfolding_all exact Nat.le_of_ble_eq_true rfl | (simp only [Jd, Je, Jr, Js, Jt, Nat.reduceAdd, allOne, oneCell, Bool.and_self, Jc]; first | done | omega)) only [↓Qa, ↓Qb, ↓Qc, Qd, Qe, Qf, Qg, Qh, Qi, Qj, Qk, Ql, Qm, Qn, Qo, Qp, Qq, Qr, Qs, Qt, Qu, Qv, Qw, Qx, Qy, ptrTo, Qz, QA, QB, QC, QD, QE, QF, QG, QH, QI, QJ, QK, QL, QM, QN, QO, QP, QQ, QR, QS, QT, QU, QV, QW, QX, QY, QZ, Ja, Jb, Jc, Jd, Je, Jf, Jg, Jh, Ji, Jj, Jk, Jl, Jm, Jn, Jo, Jp, Jq, Jr, Js, Jt, Nat.reduceAdd]
  refine oIf_dec (fun h => ?_) (fun h => ?_)
  · have hi2 : i + q < s.length := by omega
    have hi1 : i < s.length := by omega
    have b1 := hm _ (List.getElem_mem hi1)
    have b2 := hm _ (List.getElem_mem hi2)
    have hg : s[i + q] - s[i] = gapS s q i := by
      unfold gapS
      rw [List.getD_eq_getElem?_getD, List.getElem?_eq_getElem hi2, List.getD_eq_getElem?_getD, List.getElem?_eq_getElem hi1]; rfl
    have hst := hw.step
    try simp (disch := first | omega | with_unfolding_all exact id rfl | with_unfolding_all exact Nat.le_of_ble_eq_true rfl | (simp only [Jd, Je, Jr, Js, Jt, Nat.reduceAdd, allOne, oneCell, Bool.and_self, Jc]; first | done | omega)) only [han, hr, c0, ↓Qa, ↓Qb, ↓Qc, Qd, Qe, Qf, Qg, Qh, Qi, Qj, Qk, Ql, Qm, Qn, Qo, Qp, Qq, Qr, Qs, Qt, Qu, Qv, Qw, Qx, Qy, ptrTo, Qz, QA, QB, QC, QD, QE, QF, QG, QH, QI, QJ, QK, QL, QM, QN, QO, QP, QQ, QR, QS, QT, QU, QV, QW, QX, QY, QZ, Ja, Jb, Jc, Jd, Je, Jf, Jg, Jh, Ji, Jj, Jk, Jl, Jm, Jn, Jo, Jp, Jq, Jr, Js, Jt, Nat.reduceAdd]
    rw [oInt_add ⟨by omega, by omega⟩, show (i : Int) + (q : Int) = ((i + q : Nat) : Int) by omega, hu.ia hi2, oOpt_e, hu.ld hi2, oOpt_e]
    try simp (disch := first | omega | with_unfolding_all exact id rfl | with_unfolding_all exact Nat.le_of_ble_eq_true rfl | (simp only [Jd, Je, Jr, Js, Jt, Nat.reduceAdd, allOne, oneCell, Bool.and_self, Jc]; first | done | omega)) only [han, hr, c0, hu.ia hi1, hu.ld hi1, ↓Qa, ↓Qb, ↓Qc, Qd, Qe, Qf, Qg, Qh, Qi, Qj, Qk, Ql, Qm, Qn, Qo, Qp, Qq, Qr, Qs, Qt, Qu, Qv, Qw, Qx, Qy, ptrTo, Qz, QA, QB, QC, QD, QE, QF, QG, QH, QI, QJ, QK, QL, QM, QN, QO, QP, QQ, QR, QS, QT, QU, QV, QW, QX, QY, QZ, Ja, Jb, Jc, Jd, Je, Jf, Jg, Jh, Ji, Jj, Jk, Jl, Jm, Jn, Jo, Jp, Jq, Jr, Js, Jt, Nat.reduceAdd]
    rw [oInt_sub ⟨by omega, by omega⟩, hg]
    by_cases hx : ix < 0
    · try simp (disch := first | omega | with_unfolding_all exact id rfl | with_unfolding_all exact Nat.le_of_ble_eq_true rfl | (simp only [Jd, Je, Jr, Js, Jt, Nat.reduceAdd, allOne, oneCell, Bool.and_self, Jc]; first | done | omega)) only [decide_eq_true hx, ↓Qa, ↓Qb, ↓Qc, Qd, Qe, Qf, Qg, Qh, Qi, Qj, Qk, Ql, Qm, Qn, Qo, Qp, Qq, Qr, Qs, Qt, Qu, Qv, Qw, Qx, Qy, ptrTo, Qz, QA, QB, QC, QD, QE, QF, QG, QH, QI, QJ, QK, QL, QM, QN, QO, QP, QQ, QR, QS, QT, QU, QV, QW, QX, QY, QZ, Ja, Jb, Jc, Jd, Je, Jf, Jg, Jh, Ji, Jj, Jk, Jl, Jm, Jn, Jo, Jp, Jq, Jr, Js, Jt, Nat.reduceAdd]
      rw [oInt_add ⟨by omega, by omega⟩]
      exact hself (by omega) _ _ ⟨rfl, _, _, rfl, hst.1 (.inl hx)⟩
    · try simp (disch := first | omega | with_unfolding_all exact id rfl | with_unfolding_all exact Nat.le_of_ble_eq_true rfl | (simp only [Jd, Je, Jr, Js, Jt, Nat.reduceAdd, allOne, oneCell, Bool.and_self, Jc]; first | done | omega)) only [decide_eq_false hx, ↓Qa, ↓Qb, ↓Qc, Qd, Qe, Qf, Qg, Qh, Qi, Qj, Qk, Ql, Qm, Qn, Qo, Qp, Qq, Qr, Qs, Qt, Qu, Qv, Qw, Qx, Qy, ptrTo, Qz, QA, QB, QC, QD, QE, QF, QG, QH, QI, QJ, QK, QL, QM, QN, QO, QP, QQ, QR, QS, QT, QU, QV, QW, QX, QY, QZ, Ja, Jb, Jc, Jd, Je, Jf, Jg, Jh, Ji, Jj, Jk, Jl, Jm, Jn, Jo, Jp, Jq, Jr, Js, Jt, Nat.reduceAdd]
      refine oIf_dec (fun h2 => ?_) (fun h2 => ?_)
      · rw [oInt_add ⟨by omega, by omega⟩]
        exact hself (by omega) _ _ ⟨rfl, _, _, rfl, hst.1 (.inr h2)⟩
      · rw [oInt_add ⟨by omega, by omega⟩]
        exact hself (by omega) _ _ ⟨rfl, _, _, rfl, hst.2 hx h2⟩
  · have : i = s.length - q := by omega
    subst this
    exact hk ix st hw
def leX (l : List Int) (r : Bool) : Int := if chkS l = 0 then leastV (isortI l) r else 0
theorem least_sp {v : Value} {l : List Int} {r : Bool} (hlf : 1000000 ≤ lf) (hL : L ≤ m.next) (hv : IL m v l) (hl : l.length < 1000)
    (hk : ∀ m', Gt m m' → k (.tuple ⟨[.int .i64 (leX l r), .int .i64 (chkS l)]⟩) m' = some ()) : runT (tab lf) (n + 7) 24 [v, .bool r] L m k = some () := by
  rw [r24]; dsimp only [S24, iofNat, inegSucc]
  try simp (disch := first | omega | with_unfolding_all exact id rfl | with_unfolding_all exact Nat.le_of_ble_eq_true rfl | (simp only [Jd, Je, Jr, Js, Jt, Nat.reduceAdd, allOne, oneCell, Bool.and_self, Jc]; first | done | omega)) only [↓Qa, ↓Qb, ↓Qc, Qd, Qe, Qf, Qg, Qh, Qi, Qj, Qk, Ql, Qm, Qn, Qo, Qp, Qq, Qr, Qs, Qt, Qu, Qv, Qw, Qx, Qy, ptrTo, Qz, QA, QB, QC, QD, QE, QF, QG, QH, QI, QJ, QK, QL, QM, QN, QO, QP, QQ, QR, QS, QT, QU, QV, QW, QX, QY, QZ, Ja, Jb, Jc, Jd, Je, Jf, Jg, Jh, Ji, Jj, Jk, Jl, Jm, Jn, Jo, Jp, Jq, Jr, Js, Jt, Nat.reduceAdd]
  unfold leX at hk
  refine opened_sp hlf hL hv hl (fun h m1 e1 => ?_) (fun h0 b u m1 e1 hb hr hu => ?_)
  · have := hk m1 e1
    rw [if_neg h] at this
    try simp (disch := first | omega | with_unfolding_all exact id rfl | with_unfolding_all exact Nat.le_of_ble_eq_true rfl | (simp only [Jd, Je, Jr, Js, Jt, Nat.reduceAdd, allOne, oneCell, Bool.and_self, Jc]; first | done | omega)) only [decide_eq_false h, ↓Qa, ↓Qb, ↓Qc, Qd, Qe, Qf, Qg, Qh, Qi, Qj, Qk, Ql, Qm, Qn, Qo, Qp, Qq, Qr, Qs, Qt, Qu, Qv, Qw, Qx, Qy, ptrTo, Qz, QA, QB, QC, QD, QE, QF, QG, QH, QI, QJ, QK, QL, QM, QN, QO, QP, QQ, QR, QS, QT, QU, QV, QW, QX, QY, QZ, Ja, Jb, Jc, Jd, Je, Jf, Jg, Jh, Ji, Jj, Jk, Jl, Jm, Jn, Jo, Jp, Jq, Jr, Js, Jt, Nat.reduceAdd]
    exact this
  · obtain ⟨h1, h7, hle⟩ := chkS_ok h0
    have hil := isortI_length l
    have hmem : ∀ y ∈ isortI l, 0 ≤ y ∧ y ≤ 60 := fun y hy => hle y ((isortI_perm l).mem_iff.1 hy)
    rw [h0, if_pos rfl] at hk
    try simp (disch := first | omega | with_unfolding_all exact id rfl | with_unfolding_all exact Nat.le_of_ble_eq_true rfl | (simp only [Jd, Je, Jr, Js, Jt, Nat.reduceAdd, allOne, oneCell, Bool.and_self, Jc]; first | done | omega)) only [↓Qa, ↓Qb, ↓Qc, Qd, Qe, Qf, Qg, Qh, Qi, Qj, Qk, Ql, Qm, Qn, Qo, Qp, Qq, Qr, Qs, Qt, Qu, Qv, Qw, Qx, Qy, ptrTo, Qz, QA, QB, QC, QD, QE, QF, QG, QH, QI, QJ, QK, QL, QM, QN, QO, QP, QQ, QR, QS, QT, QU, QV, QW, QX, QY, QZ, Ja, Jb, Jc, Jd, Je, Jf, Jg, Jh, Ji, Jj, Jk, Jl, Jm, Jn, Jo, Jp, Jq, Jr, Js, Jt, Nat.reduceAdd]
    refine why_sp hlf hr hu (by omega) (by omega) hmem fun ix st hw => ?_
    try simp (disch := first | omega | with_unfolding_all exact id rfl | with_unfolding_all exact Nat.le_of_ble_eq_true rfl | (simp only [Jd, Je, Jr, Js, Jt, Nat.reduceAdd, allOne, oneCell, Bool.and_self, Jc]; first | done | omega)) only [↓Qa, ↓Qb, ↓Qc, Qd, Qe, Qf, Qg, Qh, Qi, Qj, Qk, Ql, Qm, Qn, Qo, Qp, Qq, Qr, Qs, Qt, Qu, Qv, Qw, Qx, Qy, ptrTo, Qz, QA, QB, QC, QD, QE, QF, QG, QH, QI, QJ, QK, QL, QM, QN, QO, QP, QQ, QR, QS, QT, QU, QV, QW, QX, QY, QZ, Ja, Jb, Jc, Jd, Je, Jf, Jg, Jh, Ji, Jj, Jk, Jl, Jm, Jn, Jo, Jp, Jq, Jr, Js, Jt, Nat.reduceAdd]
    rw [(hw.end (isortI_sorted l)).1]
    exact hk m1 e1
def whyE (l : List Int) : Int := if chkS l = 0 then (if l.length = 1 then 12 else 0) else chkS l
def whyX (l : List Int) (r : Bool) : Int := if chkS l = 0 then (if l.length = 1 then 0 else (whyN (isortI l) r : Int)) else 0
theorem why28_sp {v : Value} {l : List Int} {r : Bool} (hlf : 1000000 ≤ lf) (hL : L ≤ m.next) (hv : IL m v l) (hl : l.length < 1000)
    (hk : ∀ m', Gt m m' → k (.tuple ⟨[.int .i64 (whyX l r), .int .i64 (whyE l)]⟩) m' = some ()) : runT (tab lf) (n + 7) 28 [v, .bool r] L m k = some () := by
  rw [r28]; dsimp only [S28, iofNat, inegSucc]
  try simp (disch := first | omega | with_unfolding_all exact id rfl | with_unfolding_all exact Nat.le_of_ble_eq_true rfl | (simp only [Jd, Je, Jr, Js, Jt, Nat.reduceAdd, allOne, oneCell, Bool.and_self, Jc]; first | done | omega)) only [↓Qa, ↓Qb, ↓Qc, Qd, Qe, Qf, Qg, Qh, Qi, Qj, Qk, Ql, Qm, Qn, Qo, Qp, Qq, Qr, Qs, Qt, Qu, Qv, Qw, Qx, Qy, ptrTo, Qz, QA, QB, QC, QD, QE, QF, QG, QH, QI, QJ, QK, QL, QM, QN, QO, QP, QQ, QR, QS, QT, QU, QV, QW, QX, QY, QZ, Ja, Jb, Jc, Jd, Je, Jf, Jg, Jh, Ji, Jj, Jk, Jl, Jm, Jn, Jo, Jp, Jq, Jr, Js, Jt, Nat.reduceAdd]
  unfold whyX whyE at hk
  refine opened_sp hlf hL hv hl (fun h m1 e1 => ?_) (fun h0 b u m1 e1 hb hr hu => ?_)
  · have := hk m1 e1
    rw [if_neg h, if_neg h] at this
    try simp (disch := first | omega | with_unfolding_all exact id rfl | with_unfolding_all exact Nat.le_of_ble_eq_true rfl | (simp only [Jd, Je, Jr, Js, Jt, Nat.reduceAdd, allOne, oneCell, Bool.and_self, Jc]; first | done | omega)) only [decide_eq_false h, ↓Qa, ↓Qb, ↓Qc, Qd, Qe, Qf, Qg, Qh, Qi, Qj, Qk, Ql, Qm, Qn, Qo, Qp, Qq, Qr, Qs, Qt, Qu, Qv, Qw, Qx, Qy, ptrTo, Qz, QA, QB, QC, QD, QE, QF, QG, QH, QI, QJ, QK, QL, QM, QN, QO, QP, QQ, QR, QS, QT, QU, QV, QW, QX, QY, QZ, Ja, Jb, Jc, Jd, Je, Jf, Jg, Jh, Ji, Jj, Jk, Jl, Jm, Jn, Jo, Jp, Jq, Jr, Js, Jt, Nat.reduceAdd]
    exact this
  · obtain ⟨h1, h7, hle⟩ := chkS_ok h0
    have hil := isortI_length l
    have hmem : ∀ y ∈ isortI l, 0 ≤ y ∧ y ≤ 60 := fun y hy => hle y ((isortI_perm l).mem_iff.1 hy)
    rw [if_pos h0, if_pos h0] at hk
    have hk1 := hk m1 e1
    try simp (disch := first | omega | with_unfolding_all exact id rfl | with_unfolding_all exact Nat.le_of_ble_eq_true rfl | (simp only [Jd, Je, Jr, Js, Jt, Nat.reduceAdd, allOne, oneCell, Bool.and_self, Jc]; first | done | omega)) only [↓Qa, ↓Qb, ↓Qc, Qd, Qe, Qf, Qg, Qh, Qi, Qj, Qk, Ql, Qm, Qn, Qo, Qp, Qq, Qr, Qs, Qt, Qu, Qv, Qw, Qx, Qy, ptrTo, Qz, QA, QB, QC, QD, QE, QF, QG, QH, QI, QJ, QK, QL, QM, QN, QO, QP, QQ, QR, QS, QT, QU, QV, QW, QX, QY, QZ, Ja, Jb, Jc, Jd, Je, Jf, Jg, Jh, Ji, Jj, Jk, Jl, Jm, Jn, Jo, Jp, Jq, Jr, Js, Jt, Nat.reduceAdd]
    refine why_sp hlf hr hu (by omega) (by omega) hmem fun ix st hw => ?_
    obtain ⟨_, g1, g2⟩ := hw.end (isortI_sorted l)
    try simp (disch := first | omega | with_unfolding_all exact id rfl | with_unfolding_all exact Nat.le_of_ble_eq_true rfl | (simp only [Jd, Je, Jr, Js, Jt, Nat.reduceAdd, allOne, oneCell, Bool.and_self, Jc]; first | done | omega)) only [↓Qa, ↓Qb, ↓Qc, Qd, Qe, Qf, Qg, Qh, Qi, Qj, Qk, Ql, Qm, Qn, Qo, Qp, Qq, Qr, Qs, Qt, Qu, Qv, Qw, Qx, Qy, ptrTo, Qz, QA, QB, QC, QD, QE, QF, QG, QH, QI, QJ, QK, QL, QM, QN, QO, QP, QQ, QR, QS, QT, QU, QV, QW, QX, QY, QZ, Ja, Jb, Jc, Jd, Je, Jf, Jg, Jh, Ji, Jj, Jk, Jl, Jm, Jn, Jo, Jp, Jq, Jr, Js, Jt, Nat.reduceAdd]
    have hrb := reachN_bd (isortI l) r
    by_cases hl1 : l.length = 1
    · have hq : reachN (isortI l) r = 1 := by unfold reachN; rw [if_neg (by simp; omega)]
      rw [if_pos hl1, if_pos hl1] at hk1
      rw [g1 (by omega)]
      try simp (disch := first | omega | with_unfolding_all exact id rfl | with_unfolding_all exact Nat.le_of_ble_eq_true rfl | (simp only [Jd, Je, Jr, Js, Jt, Nat.reduceAdd, allOne, oneCell, Bool.and_self, Jc]; first | done | omega)) only [show decide ((-1 : Int) < 0) = true from rfl, ↓Qa, ↓Qb, ↓Qc, Qd, Qe, Qf, Qg, Qh, Qi, Qj, Qk, Ql, Qm, Qn, Qo, Qp, Qq, Qr, Qs, Qt, Qu, Qv, Qw, Qx, Qy, ptrTo, Qz, QA, QB, QC, QD, QE, QF, QG, QH, QI, QJ, QK, QL, QM, QN, QO, QP, QQ, QR, QS, QT, QU, QV, QW, QX, QY, QZ, Ja, Jb, Jc, Jd, Je, Jf, Jg, Jh, Ji, Jj, Jk, Jl, Jm, Jn, Jo, Jp, Jq, Jr, Js, Jt, Nat.reduceAdd]
      exact hk1
    · have hN : 0 < (isortI l).length - reachN (isortI l) r := by
        by_cases h2 : 2 < (isortI l).length
        · omega
        · have hq : reachN (isortI l) r = 1 := by unfold reachN; rw [if_neg (by simp; omega)]
          omega
      rw [if_neg hl1, if_neg hl1] at hk1
      rw [g2 hN]
      try simp (disch := first | omega | with_unfolding_all exact id rfl | with_unfolding_all exact Nat.le_of_ble_eq_true rfl | (simp only [Jd, Je, Jr, Js, Jt, Nat.reduceAdd, allOne, oneCell, Bool.and_self, Jc]; first | done | omega)) only [decide_eq_false (show ¬ ((whyN (isortI l) r : Nat) : Int) < 0 by omega), ↓Qa, ↓Qb, ↓Qc, Qd, Qe, Qf, Qg, Qh, Qi, Qj, Qk, Ql, Qm, Qn, Qo, Qp, Qq, Qr, Qs, Qt, Qu, Qv, Qw, Qx, Qy, ptrTo, Qz, QA, QB, QC, QD, QE, QF, QG, QH, QI, QJ, QK, QL, QM, QN, QO, QP, QQ, QR, QS, QT, QU, QV, QW, QX, QY, QZ, Ja, Jb, Jc, Jd, Je, Jf, Jg, Jh, Ji, Jj, Jk, Jl, Jm, Jn, Jo, Jp, Jq, Jr, Js, Jt, Nat.reduceAdd]
      exact hk1
end
end Go.Vit
