/- Least steps of shades: walked as in the group Shade (cut out of its texts by a program, numbered for this seat). -/
import Derived.Test.YtppallabmjdolaaGreatDoorCalls
import Derived.Test.YtppallabmjdolaaGreatDoorCoreD
set_option linter.unusedSimpArgs false
set_option linter.unusedVariables false
set_option maxRecDepth 20000
namespace Go.Vit
open Go Go.Proofs
attribute [local irreducible] runT loopS
def fMax (a b : Int) : Int := max a b
/-- How far neighbours lie apart in the sorted shades, somewhere. -/
def reachN (l : List Int) (r : Bool) : Nat := if (r && decide (2 < l.length)) = true then 2 else 1
def maxL (l : List Int) : Int := l.foldl fMax 0
theorem foldl_max : ∀ (l : List Int) (z b : Int), l.foldl fMax z ≤ b ↔ z ≤ b ∧ ∀ s ∈ l, s ≤ b
  | [], z, b => by simp
  | x :: l, z, b => by
    rw [List.foldl_cons, foldl_max l]
    unfold fMax
    constructor
    · rintro ⟨h1, h2⟩
      refine ⟨by omega, fun s hs => ?_⟩
      rcases List.mem_cons.1 hs with rfl | hs
      · omega
      · exact h2 s hs
    · rintro ⟨h1, h2⟩
      have := h2 x (by simp)
      exact ⟨by omega, fun s hs => h2 s (List.mem_cons_of_mem _ hs)⟩
theorem maxL_le {l : List Int} {b : Int} : maxL l ≤ b ↔ 0 ≤ b ∧ ∀ s ∈ l, s ≤ b := foldl_max l 0 b
theorem maxL_nn (l : List Int) : 0 ≤ maxL l := (maxL_le.1 (Int.le_refl (maxL l))).1
theorem maxL_mem {l : List Int} {s : Int} (h : s ∈ l) : s ≤ maxL l := (maxL_le.1 (Int.le_refl (maxL l))).2 s h
def gapS (s : List Int) (q i : Nat) : Int := s.getD (i + q) 0 - s.getD i 0
def gaps (s : List Int) (q : Nat) : List Int := (List.range (s.length - q)).map (gapS s q)
theorem ael22 : aelem Tryz.prog 22 = some (1, 8) := by kernel_rfl
theorem bs22 (m : Mem) (x : Int) : bs Tryz.prog m 22 1 [(0, .int .i64 x)] = some (slTo 1 m.next, m.push ⟨1, [.int .i64 x], none⟩) :=
  (show _ = anew m 1 [.int .i64 x] (slTo 1) by kernel_rfl).trans (anew_eq ..)
theorem minI_e (a b : Int) : abuiltin Tryz.prog .min #[3, 3] [.int .i64 a, .int .i64 b] = some (.int .i64 (min a b)) := by
  show aleast true .i64 a [.int .i64 b] = _
  simp only [aleast, ilt_e]
  by_cases h : b < a
  · rw [decide_eq_true h]; simp only []
    rw [mkI_e, Int.min_eq_right (by omega)]
  · rw [decide_eq_false h]; simp only []
    rw [mkI_e, Int.min_eq_left (by omega)]
theorem maxI_e (a b : Int) : abuiltin Tryz.prog .max #[3, 3] [.int .i64 a, .int .i64 b] = some (.int .i64 (max a b)) := by
  show aleast false .i64 a [.int .i64 b] = _
  simp only [aleast, ilt_e]
  by_cases h : a < b
  · rw [decide_eq_true h]; simp only []
    rw [mkI_e, Int.max_eq_right (by omega)]
  · rw [decide_eq_false h]; simp only []
    rw [mkI_e, Int.max_eq_left (by omega)]
def inI (x lo hi : Int) : Prop := lo ≤ x ∧ x ≤ hi
instance (x lo hi : Int) : Decidable (inI x lo hi) := inferInstanceAs (Decidable (_ ∧ _))
/-- What a check of shades answers. -/
def chkS (l : List Int) : Int := if l.length = 0 then 4 else if 7 < l.length then 3 else if ∀ x ∈ l, inI x 0 60 then 0 else 1
theorem chkS_ok {l : List Int} (h : chkS l = 0) : 1 ≤ l.length ∧ l.length ≤ 7 ∧ ∀ x ∈ l, 0 ≤ x ∧ x ≤ 60 := by
  unfold chkS at h
  split at h
  · cases h
  · split at h
    · cases h
    · split at h
      · exact ⟨by omega, by omega, by assumption⟩
      · cases h
theorem chkS_of {l : List Int} (h1 : 1 ≤ l.length) (h7 : l.length ≤ 7) (h : ∀ x ∈ l, 0 ≤ x ∧ x ≤ 60) : chkS l = 0 := by
  unfold chkS
  rw [if_neg (by omega), if_neg (by omega), if_pos (show ∀ x ∈ l, inI x 0 60 from h)]
theorem bu185 (p : Option Addr) (a b : Nat) (r : Bool) : bu Tryz.prog 185 [(0, .slice p a b), (1, .bool r)] = some (.agg ⟨[.slice p a b, .bool r]⟩) := by cases r <;> kernel_rfl
/-- The index and the gap, after so many gaps. -/
def WhyI (g : Nat → Int) (i : Nat) (ix st : Int) : Prop := (i = 0 ∧ ix = -1 ∧ st = 0) ∨ (0 < i ∧ ∃ j : Nat, ix = j ∧ j < i ∧ g j = st ∧ (∀ a, a < i → g a ≤ st) ∧ ∀ a, a < j → g a < st)
theorem WhyI.step {g : Nat → Int} {i : Nat} {ix st : Int} (h : WhyI g i ix st) : (ix < 0 ∨ st < g i → WhyI g (i + 1) i (g i)) ∧ (¬ ix < 0 → ¬ st < g i → WhyI g (i + 1) ix st) := by
  rcases h with ⟨rfl, rfl, rfl⟩ | ⟨h0, j, rfl, h1, h2, h3, h4⟩
  · refine ⟨fun _ => .inr ⟨by omega, 0, rfl, by omega, rfl, fun a ha => ?_, fun a ha => by omega⟩, fun h => by omega⟩
    have : a = 0 := by omega
    subst this; omega
  · refine ⟨fun h => .inr ⟨by omega, i, rfl, by omega, rfl, fun a ha => ?_, fun a ha => ?_⟩, fun _ hn => .inr ⟨by omega, j, rfl, by omega, h2, fun a ha => ?_, h4⟩⟩
    · by_cases e : a = i
      · subst e; omega
      · have := h3 a (by omega); omega
    · have := h3 a (by omega); omega
    · by_cases e : a = i
      · subst e; omega
      · exact h3 a (by omega)
def leastV (s : List Int) (r : Bool) : Int := maxL (gaps s (reachN s r))
def whyN (s : List Int) (r : Bool) : Nat := ((List.range (s.length - reachN s r)).find? fun i => decide (leastV s r ≤ gapS s (reachN s r) i)).getD 0
theorem gap_nn {s : List Int} {q i : Nat} (hs : s.Pairwise (· ≤ ·)) (hq : 1 ≤ q) (hi : i + q < s.length) : 0 ≤ gapS s q i := by
  have g1 : s.getD (i + q) 0 = s[i + q] := by rw [List.getD_eq_getElem?_getD, List.getElem?_eq_getElem hi]; rfl
  have g2 : s.getD i 0 = s[i]'(by omega) := by rw [List.getD_eq_getElem?_getD, List.getElem?_eq_getElem (by omega)]; rfl
  unfold gapS
  rw [g1, g2]
  have := List.pairwise_iff_getElem.1 hs i (i + q) (by omega) hi (by omega)
  omega
theorem find_first {N j : Nat} {p : Nat → Bool} (hj : j < N) (hp : p j = true) (h : ∀ a, a < j → p a = false) : (List.range N).find? p = some j := by
  rw [List.find?_range_eq_some]
  refine ⟨hp, by simpa using hj, fun a ha => ?_⟩
  rw [h a ha]; rfl
theorem reachN_bd (l : List Int) (r : Bool) : 1 ≤ reachN l r ∧ reachN l r ≤ 2 := by unfold reachN; split <;> omega
theorem WhyI.end {s : List Int} {r : Bool} {ix st : Int} (hs : s.Pairwise (· ≤ ·)) (h : WhyI (gapS s (reachN s r)) (s.length - reachN s r) ix st) :
    st = leastV s r ∧ (s.length - reachN s r = 0 → ix = -1) ∧ (0 < s.length - reachN s r → ix = (whyN s r : Int)) := by
  have hrb := reachN_bd s r
  rcases h with ⟨h0, rfl, rfl⟩ | ⟨h0, j, rfl, h1, h2, h3, h4⟩
  · refine ⟨?_, fun _ => rfl, fun h => by omega⟩
    unfold leastV gaps
    rw [h0]; rfl
  · have hst : st = leastV s r := by
      have g0 := gap_nn hs hrb.1 (show j + reachN s r < s.length by omega)
      have a1 : leastV s r ≤ st := by
        refine maxL_le.2 ⟨by omega, fun x hx => ?_⟩
        obtain ⟨a, ha, rfl⟩ := List.mem_map.1 hx
        exact h3 a (by simpa using ha)
      have a2 : st ≤ leastV s r := by
        rw [← h2]
        exact maxL_mem (List.mem_map.2 ⟨j, by simpa using h1, rfl⟩)
      omega
    refine ⟨hst, fun h => by omega, fun _ => ?_⟩
    unfold whyN
    rw [find_first h1 (decide_eq_true (by omega)) fun a ha => decide_eq_false (by have := h4 a ha; omega)]
    rfl
section
variable {lf n L : Nat} {m : Mem} {k : Value → Mem → Option Unit}
theorem within_sp (a b c : Int) (hk : k (.bool (decide (inI a b c))) m = some ()) : runT (tab lf) (n + 1) 108 [.int .i64 a, .int .i64 b, .int .i64 c] L m k = some () := by
  rw [r108]
  dsimp only [S108, iofNat, inegSucc]
  try simp (disch := first | omega | with_unfolding_all exact id rfl | with_unfolding_all exact Nat.le_of_ble_eq_true rfl | (simp only [Jd, Je, Jr, Js, Jt, Nat.reduceAdd, allOne, oneCell, Bool.and_self, Jc]; first | done | omega)) only [↓Qa, ↓Qb, ↓Qc, Qd, Qe, Qf, Qg, Qh, Qi, Qj, Qk, Ql, Qm, Qn, Qo, Qp, Qq, Qr, Qs, Qt, Qu, Qv, Qw, Qx, Qy, ptrTo, Qz, QA, QB, QC, QD, QE, QF, QG, QH, QI, QJ, QK, QL, QM, QN, QO, QP, QQ, QR, QS, QT, QU, QV, QW, QX, QY, QZ, Ja, Jb, Jc, Jd, Je, Jf, Jg, Jh, Ji, Jj, Jk, Jl, Jm, Jn, Jo, Jp, Jq, Jr, Js, Jt, Nat.reduceAdd]
  unfold inI at hk
  refine oGT_dec (fun h => ?_) (fun h => ?_)
  · simp only [h, true_and, ↓Qa, ↓Qb, ↓Qc, Qd, Qe, Qf, Qg, Qh, Qi, Qj, Qk, Ql, Qm, Qn, Qo, Qp, Qq, Qr, Qs, Qt, Qu, Qv, Qw, Qx, Qy, ptrTo, Qz, QA, QB, QC, QD, QE, QF, QG, QH, QI, QJ, QK, QL, QM, QN, QO, QP, QQ, QR, QS, QT, QU, QV, QW, QX, QY, QZ, Ja, Jb, Jc, Jd, Je, Jf, Jg, Jh, Ji, Jj, Jk, Jl, Jm, Jn, Jo, Jp, Jq, Jr, Js, Jt, Nat.reduceAdd] at hk ⊢; exact hk
  · simp only [h, false_and, ↓Qa, ↓Qb, ↓Qc, Qd, Qe, Qf, Qg, Qh, Qi, Qj, Qk, Ql, Qm, Qn, Qo, Qp, Qq, Qr, Qs, Qt, Qu, Qv, Qw, Qx, Qy, ptrTo, Qz, QA, QB, QC, QD, QE, QF, QG, QH, QI, QJ, QK, QL, QM, QN, QO, QP, QQ, QR, QS, QT, QU, QV, QW, QX, QY, QZ, Ja, Jb, Jc, Jd, Je, Jf, Jg, Jh, Ji, Jj, Jk, Jl, Jm, Jn, Jo, Jp, Jq, Jr, Js, Jt, Nat.reduceAdd] at hk ⊢; exact hk
theorem check_sp {v : Value} {l : List Int} (hlf : 1000000 ≤ lf) (hv : IL m v l) (hl : l.length < 1000000) (hk : k (.int .i64 (chkS l)) m = some ()) : runT (tab lf) (n + 4) 137 [v] L m k = some () := by
  rw [r137]; dsimp only [S137, iofNat, inegSucc]
  try simp (disch := first | omega | with_unfolding_all exact id rfl | with_unfolding_all exact Nat.le_of_ble_eq_true rfl | (simp only [Jd, Je, Jr, Js, Jt, Nat.reduceAdd, allOne, oneCell, Bool.and_self, Jc]; first | done | omega)) only [↓Qa, ↓Qb, ↓Qc, Qd, Qe, Qf, Qg, Qh, Qi, Qj, Qk, Ql, Qm, Qn, Qo, Qp, Qq, Qr, Qs, Qt, Qu, Qv, Qw, Qx, Qy, ptrTo, Qz, QA, QB, QC, QD, QE, QF, QG, QH, QI, QJ, QK, QL, QM, QN, QO, QP, QQ, QR, QS, QT, QU, QV, QW, QX, QY, QZ, Ja, Jb, Jc, Jd, Je, Jf, Jg, Jh, Ji, Jj, Jk, Jl, Jm, Jn, Jo, Jp, Jq, Jr, Js, Jt, Nat.reduceAdd]
  rw [r154]; dsimp only [S154, iofNat, inegSucc]
  unfold chkS at hk
  try simp (disch := first | omega | with_unfolding_all exact id rfl | with_unfolding_all exact Nat.le_of_ble_eq_true rfl | (simp only [Jd, Je, Jr, Js, Jt, Nat.reduceAdd, allOne, oneCell, Bool.and_self, Jc]; first | done | omega)) only [hv.ln, ↓Qa, ↓Qb, ↓Qc, Qd, Qe, Qf, Qg, Qh, Qi, Qj, Qk, Ql, Qm, Qn, Qo, Qp, Qq, Qr, Qs, Qt, Qu, Qv, Qw, Qx, Qy, ptrTo, Qz, QA, QB, QC, QD, QE, QF, QG, QH, QI, QJ, QK, QL, QM, QN, QO, QP, QQ, QR, QS, QT, QU, QV, QW, QX, QY, QZ, Ja, Jb, Jc, Jd, Je, Jf, Jg, Jh, Ji, Jj, Jk, Jl, Jm, Jn, Jo, Jp, Jq, Jr, Js, Jt, Nat.reduceAdd]
  refine oIf_dec (fun h => ?_) (fun h => ?_)
  · rw [if_pos (by omega)] at hk; exact hk
  · rw [if_neg (by omega)] at hk
    refine oIf_dec (fun h2 => ?_) (fun h2 => ?_)
    · rw [if_pos (by omega)] at hk; exact hk
    · rw [if_neg (by omega)] at hk
      refine loop_up l.length (fun i vs m' => vs = [.int .i64 (i : Int)] ∧ m' = m ∧ ∀ j (h : j < l.length), j < i → inI l[j] 0 60) (by omega) ⟨rfl, rfl, fun j h hj => by omega⟩ ?_
      rintro i vs m' hi ⟨rfl, rfl, hno⟩ self hself
      try simp (disch := first | omega | with_unfolding_all exact id rfl | with_unfolding_all exact Nat.le_of_ble_eq_true rfl | (simp only [Jd, Je, Jr, Js, Jt, Nat.reduceAdd, allOne, oneCell, Bool.and_self, Jc]; first | done | omega)) only [↓Qa, ↓Qb, ↓Qc, Qd, Qe, Qf, Qg, Qh, Qi, Qj, Qk, Ql, Qm, Qn, Qo, Qp, Qq, Qr, Qs, Qt, Qu, Qv, Qw, Qx, Qy, ptrTo, Qz, QA, QB, QC, QD, QE, QF, QG, QH, QI, QJ, QK, QL, QM, QN, QO, QP, QQ, QR, QS, QT, QU, QV, QW, QX, QY, QZ, Ja, Jb, Jc, Jd, Je, Jf, Jg, Jh, Ji, Jj, Jk, Jl, Jm, Jn, Jo, Jp, Jq, Jr, Js, Jt, Nat.reduceAdd]
      refine oIf_dec (fun h3 => ?_) (fun h3 => ?_)
      · have hil : i < l.length := by omega
        try simp (disch := first | omega | with_unfolding_all exact id rfl | with_unfolding_all exact Nat.le_of_ble_eq_true rfl | (simp only [Jd, Je, Jr, Js, Jt, Nat.reduceAdd, allOne, oneCell, Bool.and_self, Jc]; first | done | omega)) only [hv.ia hil, hv.ld hil, ↓Qa, ↓Qb, ↓Qc, Qd, Qe, Qf, Qg, Qh, Qi, Qj, Qk, Ql, Qm, Qn, Qo, Qp, Qq, Qr, Qs, Qt, Qu, Qv, Qw, Qx, Qy, ptrTo, Qz, QA, QB, QC, QD, QE, QF, QG, QH, QI, QJ, QK, QL, QM, QN, QO, QP, QQ, QR, QS, QT, QU, QV, QW, QX, QY, QZ, Ja, Jb, Jc, Jd, Je, Jf, Jg, Jh, Ji, Jj, Jk, Jl, Jm, Jn, Jo, Jp, Jq, Jr, Js, Jt, Nat.reduceAdd]
        rw [r175]; dsimp only [S175, iofNat, inegSucc]
        try simp (disch := first | omega | with_unfolding_all exact id rfl | with_unfolding_all exact Nat.le_of_ble_eq_true rfl | (simp only [Jd, Je, Jr, Js, Jt, Nat.reduceAdd, allOne, oneCell, Bool.and_self, Jc]; first | done | omega)) only [↓Qa, ↓Qb, ↓Qc, Qd, Qe, Qf, Qg, Qh, Qi, Qj, Qk, Ql, Qm, Qn, Qo, Qp, Qq, Qr, Qs, Qt, Qu, Qv, Qw, Qx, Qy, ptrTo, Qz, QA, QB, QC, QD, QE, QF, QG, QH, QI, QJ, QK, QL, QM, QN, QO, QP, QQ, QR, QS, QT, QU, QV, QW, QX, QY, QZ, Ja, Jb, Jc, Jd, Je, Jf, Jg, Jh, Ji, Jj, Jk, Jl, Jm, Jn, Jo, Jp, Jq, Jr, Js, Jt, Nat.reduceAdd]
        refine within_sp _ _ _ ?_
        by_cases hx : inI l[i] 0 60
        · try simp (disch := first | omega | with_unfolding_all exact id rfl | with_unfolding_all exact Nat.le_of_ble_eq_true rfl | (simp only [Jd, Je, Jr, Js, Jt, Nat.reduceAdd, allOne, oneCell, Bool.and_self, Jc]; first | done | omega)) only [decide_eq_true hx, ↓Qa, ↓Qb, ↓Qc, Qd, Qe, Qf, Qg, Qh, Qi, Qj, Qk, Ql, Qm, Qn, Qo, Qp, Qq, Qr, Qs, Qt, Qu, Qv, Qw, Qx, Qy, ptrTo, Qz, QA, QB, QC, QD, QE, QF, QG, QH, QI, QJ, QK, QL, QM, QN, QO, QP, QQ, QR, QS, QT, QU, QV, QW, QX, QY, QZ, Ja, Jb, Jc, Jd, Je, Jf, Jg, Jh, Ji, Jj, Jk, Jl, Jm, Jn, Jo, Jp, Jq, Jr, Js, Jt, Nat.reduceAdd]
          rw [oInt_add ⟨by omega, by omega⟩]
          refine hself hil _ _ ⟨rfl, rfl, fun j hj hji => ?_⟩
          by_cases hje : j = i
          · subst hje; exact hx
          · exact hno j hj (by omega)
        · try simp (disch := first | omega | with_unfolding_all exact id rfl | with_unfolding_all exact Nat.le_of_ble_eq_true rfl | (simp only [Jd, Je, Jr, Js, Jt, Nat.reduceAdd, allOne, oneCell, Bool.and_self, Jc]; first | done | omega)) only [decide_eq_false hx, ↓Qa, ↓Qb, ↓Qc, Qd, Qe, Qf, Qg, Qh, Qi, Qj, Qk, Ql, Qm, Qn, Qo, Qp, Qq, Qr, Qs, Qt, Qu, Qv, Qw, Qx, Qy, ptrTo, Qz, QA, QB, QC, QD, QE, QF, QG, QH, QI, QJ, QK, QL, QM, QN, QO, QP, QQ, QR, QS, QT, QU, QV, QW, QX, QY, QZ, Ja, Jb, Jc, Jd, Je, Jf, Jg, Jh, Ji, Jj, Jk, Jl, Jm, Jn, Jo, Jp, Jq, Jr, Js, Jt, Nat.reduceAdd]
          rw [if_neg fun hh => hx (hh _ (List.getElem_mem hil))] at hk
          exact hk
      · rw [if_pos fun x hx => ?_] at hk
        · exact hk
        · obtain ⟨j, hj, rfl⟩ := List.getElem_of_mem hx
          exact hno j hj (by omega)
/-- A round of slices.AppendSeq: one number more. -/
theorem round101_sp {m0 : Mem} {y q : Nat} {u : Value} {l : List Int} {x : Int} (hL : L ≤ q) (hqy : q < y) (e : Gt m0 m) (hm0 : m0.next ≤ q) (hr : Rdy 201 m y [.pointer (some ⟨q, 0, none⟩)]) (hq : m.rd q = some ⟨1, [u], none⟩) (hu : GL (y + 1) m u l) (hl : l.length < 1000)
    (hk : ∀ u' m', Gt m0 m' → Rdy 201 m' y [.pointer (some ⟨q, 0, none⟩)] → m'.rd q = some ⟨1, [u'], none⟩ → GL (y + 1) m' u' (l ++ [x]) → k (.bool true) m' = some ()) :
    runT (tab lf) (n + 1) (Nat.add RB 201) [yv y, .pointer (some ⟨q, 0, none⟩), .int .i64 x] L m k = some () := by
  rw [rR201]; dsimp only [R201, iofNat, inegSucc]
  have hyl := hr.lt
  rw [uc_e, oYv_e (by omega)]
  try simp (disch := first | omega | with_unfolding_all exact id rfl | with_unfolding_all exact Nat.le_of_ble_eq_true rfl | (simp only [Jd, Je, Jr, Js, Jt, Nat.reduceAdd, allOne, oneCell, Bool.and_self, Jc]; first | done | omega)) only [↓Qa, ↓Qb, ↓Qc, Qd, Qe, Qf, Qg, Qh, Qi, Qj, Qk, Ql, Qm, Qn, Qo, Qp, Qq, Qr, Qs, Qt, Qu, Qv, Qw, Qx, Qy, ptrTo, Qz, QA, QB, QC, QD, QE, QF, QG, QH, QI, QJ, QK, QL, QM, QN, QO, QP, QQ, QR, QS, QT, QU, QV, QW, QX, QY, QZ, Ja, Jb, Jc, Jd, Je, Jf, Jg, Jh, Ji, Jj, Jk, Jl, Jm, Jn, Jo, Jp, Jq, Jr, Js, Jt, Nat.reduceAdd]
  rw [oBusy_e hr]
  have b1 : Bsy 201 (m.put y (some ⟨Nat.succ (Nat.succ (Nat.mul 2 201)), [.pointer (some ⟨q, 0, none⟩)], some []⟩)) y [.pointer (some ⟨q, 0, none⟩)] := Mem.rd_put_eq _ _ hyl
  have e1 : Gt m0 (m.put y (some ⟨Nat.succ (Nat.succ (Nat.mul 2 201)), [.pointer (some ⟨q, 0, none⟩)], some []⟩)) := Mem.put_gt e _ (by omega)
  have q1 : (m.put y (some ⟨Nat.succ (Nat.succ (Nat.mul 2 201)), [.pointer (some ⟨q, 0, none⟩)], some []⟩)).rd q = some ⟨1, [u], none⟩ := (Mem.rd_put _ _ _ _ (by omega)).trans hq
  have u1 : GL (y + 1) (m.put y (some ⟨Nat.succ (Nat.succ (Nat.mul 2 201)), [.pointer (some ⟨q, 0, none⟩)], some []⟩)) u l := hu.keep fun c hc hc2 => Mem.rd_put _ _ _ _ (by omega)
  have n1 : (m.put y (some ⟨Nat.succ (Nat.succ (Nat.mul 2 201)), [.pointer (some ⟨q, 0, none⟩)], some []⟩)).next = m.next := rfl
  generalize m.put y (some ⟨Nat.succ (Nat.succ (Nat.mul 2 201)), [.pointer (some ⟨q, 0, none⟩)], some []⟩) = m1 at b1 e1 q1 u1 n1 ⊢
  have hby := b1.lt
  obtain ⟨u', m2, h1, h2, h3, h4, h5⟩ := GL.snocV (P := Tryz.prog) (L := L) (m0 := m0) x ael22 (by omega) u1 (by omega) (by omega) e1 (by omega)
  have hun : ∀ c, c < y + 1 → bid u ≠ some c := fun c hc h => by
    have := u1.fr c h; omega
  obtain ⟨p, cc, hux⟩ := u1.il.ex
  obtain ⟨p', cc', hux'⟩ := h2.il.ex
  have q2 : m2.rd q = some ⟨1, [u], none⟩ := (h5 q (by omega) (hun q (by omega))).trans q1
  have b2 : Bsy 201 m2 y [.pointer (some ⟨q, 0, none⟩)] := (h5 y (by omega) (hun y (by omega))).trans b1
  have hc1 : rdo (some ⟨1, [u], none⟩) 0 = some u := rfl
  rw [q1, hc1, oOpt_e, bs22, oRes_e, h1, oRes_e, q2]
  have hst : stw 1 L m2 q 0 u'.cells.toList (some ⟨1, [u], none⟩) = some (Go.undef, m2.put q (some ⟨1, [u'], none⟩)) := by
    rw [hux']
    exact stw_e hL rfl (Nat.le_refl _) rfl
  rw [hst, oRes_e]
  have b3 : Bsy 201 (m2.put q (some ⟨1, [u'], none⟩)) y [.pointer (some ⟨q, 0, none⟩)] := (Mem.rd_put _ _ _ _ (by omega)).trans b2
  rw [oReady_e b3]
  have hyn := b2.lt
  refine hk u' _ (Mem.put_gt (Mem.put_gt h3 _ (by omega)) _ (by omega)) (Mem.rd_put_eq _ _ (by rw [Mem.put_next']; omega)) ?_ ?_
  · rw [Mem.rd_put _ _ _ _ (by omega)]; exact Mem.rd_put_eq _ _ (by omega)
  · exact ((h2.le (by omega)).keep fun c hc hc2 => Mem.rd_put _ _ _ _ (by omega)).keep fun c hc hc2 => Mem.rd_put _ _ _ _ (by omega)
theorem sorted_sp {b : Nat} {v : Value} {l : List Int} (hlf : 1000000 ≤ lf) (hL : L ≤ m.next) (hb : m.rd b = some ⟨1, [v], none⟩) (hv : IL m v l) (hl : l.length < 100)
    (hk : ∀ u m', Gt m m' → GL m.next m' u (isortI l) → k u m' = some ()) : runT (tab lf) (n + 5) 138 [.func (.func 177) #[] ⟨[.pointer (some ⟨b, 0, none⟩)]⟩] L m k = some () := by
  rw [r138]; dsimp only [S138, iofNat, inegSucc]
  try simp (disch := first | omega | with_unfolding_all exact id rfl | with_unfolding_all exact Nat.le_of_ble_eq_true rfl | (simp only [Jd, Je, Jr, Js, Jt, Nat.reduceAdd, allOne, oneCell, Bool.and_self, Jc]; first | done | omega)) only [↓Qa, ↓Qb, ↓Qc, Qd, Qe, Qf, Qg, Qh, Qi, Qj, Qk, Ql, Qm, Qn, Qo, Qp, Qq, Qr, Qs, Qt, Qu, Qv, Qw, Qx, Qy, ptrTo, Qz, QA, QB, QC, QD, QE, QF, QG, QH, QI, QJ, QK, QL, QM, QN, QO, QP, QQ, QR, QS, QT, QU, QV, QW, QX, QY, QZ, Ja, Jb, Jc, Jd, Je, Jf, Jg, Jh, Ji, Jj, Jk, Jl, Jm, Jn, Jo, Jp, Jq, Jr, Js, Jt, Nat.reduceAdd]
  rw [r176]; dsimp only [S176, iofNat, inegSucc]
  try simp (disch := first | omega | with_unfolding_all exact id rfl | with_unfolding_all exact Nat.le_of_ble_eq_true rfl | (simp only [Jd, Je, Jr, Js, Jt, Nat.reduceAdd, allOne, oneCell, Bool.and_self, Jc]; first | done | omega)) only [↓Qa, ↓Qb, ↓Qc, Qd, Qe, Qf, Qg, Qh, Qi, Qj, Qk, Ql, Qm, Qn, Qo, Qp, Qq, Qr, Qs, Qt, Qu, Qv, Qw, Qx, Qy, ptrTo, Qz, QA, QB, QC, QD, QE, QF, QG, QH, QI, QJ, QK, QL, QM, QN, QO, QP, QQ, QR, QS, QT, QU, QV, QW, QX, QY, QZ, Ja, Jb, Jc, Jd, Je, Jf, Jg, Jh, Ji, Jj, Jk, Jl, Jm, Jn, Jo, Jp, Jq, Jr, Js, Jt, Nat.reduceAdd]
  rw [r201]; dsimp only [S201, iofNat, inegSucc]
  have hab : abox m (.slice none 0 0) = some (ptrTo m.next, m.push ⟨1, [.slice none 0 0], none⟩) := abox_e _ _
  rw [uc_e, uc_e, un0_e, hab, oRes_e]
  have e1 := Mem.gt_push m ⟨1, [.slice none 0 0], none⟩
  have q1 : (m.push ⟨1, [.slice none 0 0], none⟩).rd m.next = some ⟨1, [.slice none 0 0], none⟩ := Mem.rd_push _ _
  have n1 : (m.push ⟨1, [.slice none 0 0], none⟩).next = m.next + 1 := Mem.push_next _ _
  generalize m.push ⟨1, [.slice none 0 0], none⟩ = m1 at e1 q1 n1 ⊢
  rw [oRange_e (hf := rfl), n1]
  have e2 := Mem.gt_push m1 ⟨Nat.succ (Nat.mul 2 201), [ptrTo m.next], some []⟩
  have y2 : Rdy 201 (m1.push ⟨Nat.succ (Nat.mul 2 201), [ptrTo m.next], some []⟩) m1.next [.pointer (some ⟨m.next, 0, none⟩)] := Mem.rd_push _ _
  have n2 : (m1.push ⟨Nat.succ (Nat.mul 2 201), [ptrTo m.next], some []⟩).next = m1.next + 1 := Mem.push_next _ _
  generalize m1.push ⟨Nat.succ (Nat.mul 2 201), [ptrTo m.next], some []⟩ = m2 at e2 y2 n2 ⊢
  rw [n1] at y2 n2
  have q2 := (e2.kept m.next (by omega)).trans q1
  have e02 := e1.trans e2
  rw [r177]; dsimp only [S177, iofNat, inegSucc]
  have hbl := Mem.rd_lt hb
  have hb2 := (e02.kept b hbl).trans hb
  have hv2 := hv.mono e02
  try simp (disch := first | omega | with_unfolding_all exact id rfl | with_unfolding_all exact Nat.le_of_ble_eq_true rfl | (simp only [Jd, Je, Jr, Js, Jt, Nat.reduceAdd, allOne, oneCell, Bool.and_self, Jc]; first | done | omega)) only [hb2, hv2.ln, ↓Qa, ↓Qb, ↓Qc, Qd, Qe, Qf, Qg, Qh, Qi, Qj, Qk, Ql, Qm, Qn, Qo, Qp, Qq, Qr, Qs, Qt, Qu, Qv, Qw, Qx, Qy, ptrTo, Qz, QA, QB, QC, QD, QE, QF, QG, QH, QI, QJ, QK, QL, QM, QN, QO, QP, QQ, QR, QS, QT, QU, QV, QW, QX, QY, QZ, Ja, Jb, Jc, Jd, Je, Jf, Jg, Jh, Ji, Jj, Jk, Jl, Jm, Jn, Jo, Jp, Jq, Jr, Js, Jt, Nat.reduceAdd]
  refine loop_up l.length (fun i vs m' => ∃ u, vs = [.int .i64 (i : Int)] ∧ Gt m m' ∧ Rdy 201 m' (m.next + 1) [.pointer (some ⟨m.next, 0, none⟩)] ∧ m'.rd m.next = some ⟨1, [u], none⟩ ∧ GL (m.next + 2) m' u (l.take i)) (by omega)
    ⟨_, rfl, e02, y2, q2, GL.nil _ _⟩ ?_
  rintro i vs m3 hi ⟨u, rfl, e3, y3, q3, hu⟩ self hself
  have hv3 := hv.mono e3
  try simp (disch := first | omega | with_unfolding_all exact id rfl | with_unfolding_all exact Nat.le_of_ble_eq_true rfl | (simp only [Jd, Je, Jr, Js, Jt, Nat.reduceAdd, allOne, oneCell, Bool.and_self, Jc]; first | done | omega)) only [↓Qa, ↓Qb, ↓Qc, Qd, Qe, Qf, Qg, Qh, Qi, Qj, Qk, Ql, Qm, Qn, Qo, Qp, Qq, Qr, Qs, Qt, Qu, Qv, Qw, Qx, Qy, ptrTo, Qz, QA, QB, QC, QD, QE, QF, QG, QH, QI, QJ, QK, QL, QM, QN, QO, QP, QQ, QR, QS, QT, QU, QV, QW, QX, QY, QZ, Ja, Jb, Jc, Jd, Je, Jf, Jg, Jh, Ji, Jj, Jk, Jl, Jm, Jn, Jo, Jp, Jq, Jr, Js, Jt, Nat.reduceAdd]
  refine oIf_dec (fun h => ?_) (fun h => ?_)
  · have hil : i < l.length := by omega
    try simp (disch := first | omega | with_unfolding_all exact id rfl | with_unfolding_all exact Nat.le_of_ble_eq_true rfl | (simp only [Jd, Je, Jr, Js, Jt, Nat.reduceAdd, allOne, oneCell, Bool.and_self, Jc]; first | done | omega)) only [hv3.ia hil, hv3.ld hil, ↓Qa, ↓Qb, ↓Qc, Qd, Qe, Qf, Qg, Qh, Qi, Qj, Qk, Ql, Qm, Qn, Qo, Qp, Qq, Qr, Qs, Qt, Qu, Qv, Qw, Qx, Qy, ptrTo, Qz, QA, QB, QC, QD, QE, QF, QG, QH, QI, QJ, QK, QL, QM, QN, QO, QP, QQ, QR, QS, QT, QU, QV, QW, QX, QY, QZ, Ja, Jb, Jc, Jd, Je, Jf, Jg, Jh, Ji, Jj, Jk, Jl, Jm, Jn, Jo, Jp, Jq, Jr, Js, Jt, Nat.reduceAdd]
    rw [oCallV_y y3]
    refine round101_sp (m0 := m) (l := l.take i) (by omega) (by omega) e3 (Nat.le_refl _) y3 q3 hu (by rw [List.length_take]; omega) fun u' m4 e4 y4 q4 hu4 => ?_
    try simp (disch := first | omega | with_unfolding_all exact id rfl | with_unfolding_all exact Nat.le_of_ble_eq_true rfl | (simp only [Jd, Je, Jr, Js, Jt, Nat.reduceAdd, allOne, oneCell, Bool.and_self, Jc]; first | done | omega)) only [↓Qa, ↓Qb, ↓Qc, Qd, Qe, Qf, Qg, Qh, Qi, Qj, Qk, Ql, Qm, Qn, Qo, Qp, Qq, Qr, Qs, Qt, Qu, Qv, Qw, Qx, Qy, ptrTo, Qz, QA, QB, QC, QD, QE, QF, QG, QH, QI, QJ, QK, QL, QM, QN, QO, QP, QQ, QR, QS, QT, QU, QV, QW, QX, QY, QZ, Ja, Jb, Jc, Jd, Je, Jf, Jg, Jh, Ji, Jj, Jk, Jl, Jm, Jn, Jo, Jp, Jq, Jr, Js, Jt, Nat.reduceAdd]
    rw [oInt_add ⟨by omega, by omega⟩]
    refine hself hil _ _ ⟨u', rfl, e4, y4, q4, ?_⟩
    rw [List.take_add_one, List.getElem?_eq_getElem hil]
    exact hu4
  · have hiw : i = l.length := by omega
    subst hiw
    rw [List.take_length] at hu
    rw [oEnd_e y3]
    have q4 : (m3.put (m.next + 1) none).rd m.next = some ⟨1, [u], none⟩ := (Mem.rd_put _ _ _ _ (by omega)).trans q3
    have hc1 : rdo (some ⟨1, [u], none⟩) 0 = some u := rfl
    rw [q4, hc1, oOpt_e]
    rw [r59]
    refine sort_sp (L0 := m.next) (m0 := m) ((hu.le (by omega)).keep fun c hc hc2 => ?_) hL (Mem.put_gt e3 _ (by omega)) (Nat.le_refl _) (by omega) fun m5 e5 hs _ _ => ?_
    · exact Mem.rd_put _ _ _ _ (by have := hu.fr c hc; omega)
    · exact hk u m5 e5 hs
/-- A shelf is opened. -/
theorem opened_sp {v : Value} {l : List Int} {r : Bool} (hlf : 1000000 ≤ lf) (hL : L ≤ m.next) (hv : IL m v l) (hl : l.length < 1000)
    (hno : chkS l ≠ 0 → ∀ m', Gt m m' → k (.tuple ⟨[.pointer none, .int .i64 (chkS l)]⟩) m' = some ())
    (hyes : chkS l = 0 → ∀ b u m', Gt m m' → m.next ≤ b → m'.rd b = some ⟨1, [u, .bool r], none⟩ → IL m' u (isortI l) → k (.tuple ⟨[.pointer (some ⟨b, 0, none⟩), .int .i64 0]⟩) m' = some ()) :
    runT (tab lf) (n + 6) 87 [v, .bool r] L m k = some () := by
  rw [r87]; dsimp only [S87, iofNat, inegSucc]
  try simp (disch := first | omega | with_unfolding_all exact id rfl | with_unfolding_all exact Nat.le_of_ble_eq_true rfl | (simp only [Jd, Je, Jr, Js, Jt, Nat.reduceAdd, allOne, oneCell, Bool.and_self, Jc]; first | done | omega)) only [↓Qa, ↓Qb, ↓Qc, Qd, Qe, Qf, Qg, Qh, Qi, Qj, Qk, Ql, Qm, Qn, Qo, Qp, Qq, Qr, Qs, Qt, Qu, Qv, Qw, Qx, Qy, ptrTo, Qz, QA, QB, QC, QD, QE, QF, QG, QH, QI, QJ, QK, QL, QM, QN, QO, QP, QQ, QR, QS, QT, QU, QV, QW, QX, QY, QZ, Ja, Jb, Jc, Jd, Je, Jf, Jg, Jh, Ji, Jj, Jk, Jl, Jm, Jn, Jo, Jp, Jq, Jr, Js, Jt, Nat.reduceAdd]
  refine check_sp hlf hv (by omega) ?_
  try simp (disch := first | omega | with_unfolding_all exact id rfl | with_unfolding_all exact Nat.le_of_ble_eq_true rfl | (simp only [Jd, Je, Jr, Js, Jt, Nat.reduceAdd, allOne, oneCell, Bool.and_self, Jc]; first | done | omega)) only [↓Qa, ↓Qb, ↓Qc, Qd, Qe, Qf, Qg, Qh, Qi, Qj, Qk, Ql, Qm, Qn, Qo, Qp, Qq, Qr, Qs, Qt, Qu, Qv, Qw, Qx, Qy, ptrTo, Qz, QA, QB, QC, QD, QE, QF, QG, QH, QI, QJ, QK, QL, QM, QN, QO, QP, QQ, QR, QS, QT, QU, QV, QW, QX, QY, QZ, Ja, Jb, Jc, Jd, Je, Jf, Jg, Jh, Ji, Jj, Jk, Jl, Jm, Jn, Jo, Jp, Jq, Jr, Js, Jt, Nat.reduceAdd]
  refine oIf_ndec (fun h => ?_) (fun h => ?_)
  · exact hno h m (Gt.refl _)
  · have h0 : chkS l = 0 := h
    obtain ⟨h1, h7, hle⟩ := chkS_ok h0
    obtain ⟨p, c, hvx⟩ := hv.ex
    rw [r139]; dsimp only [S139, iofNat, inegSucc]
    have hab : abox m v = some (ptrTo m.next, m.push ⟨1, [v], none⟩) := by rw [hvx]; exact abox_e _ _
    rw [uc_e, un0_e, hab, oRes_e]
    have e1 := Mem.gt_push m ⟨1, [v], none⟩
    have q1 : (m.push ⟨1, [v], none⟩).rd m.next = some ⟨1, [v], none⟩ := Mem.rd_push _ _
    generalize m.push ⟨1, [v], none⟩ = m1 at e1 q1 ⊢
    have n1 := e1.next
    refine sorted_sp hlf (by omega) q1 (hv.mono e1) (by omega) fun u m2 e2 hu => ?_
    have n2 := e2.next
    obtain ⟨p2, c2, hux⟩ := hu.il.ex
    have hbu : bu Tryz.prog 185 [(0, u), (1, .bool r)] = some (.agg ⟨[u, .bool r]⟩) := by rw [hux]; exact bu185 ..
    rw [hbu, oOpt_e, cells_agg]
    have e3 := Mem.gt_push m2 ⟨1, [u, .bool r], none⟩
    exact hyes h0 m2.next u _ ((e1.trans e2).trans e3) (by omega) (Mem.rd_push _ _) (hu.il.mono e3)
theorem reach_sp {b : Nat} {u : Value} {s : List Int} {r : Bool} (hr : m.rd b = some ⟨1, [u, .bool r], none⟩) (hu : IL m u s) (hk : k (.int .i64 (reachN s r : Int)) m = some ()) : runT (tab lf) (n + 1) 140 [.pointer (some ⟨b, 0, none⟩)] L m k = some () := by
  rw [r140]; dsimp only [S140, iofNat, inegSucc]
  have han : ∀ a : Addr, anil (.pointer (some a)) = some (.pointer (some a)) := fun _ => rfl
  have c0 : ([u, .bool r] : List Value)[0]? = some u := rfl
  have c1 : ([u, .bool r] : List Value)[0 + 1]? = some (.bool r) := rfl
  unfold reachN at hk
  cases r with
  | false =>
    try simp (disch := first | omega | with_unfolding_all exact id rfl | with_unfolding_all exact Nat.le_of_ble_eq_true rfl | (simp only [Jd, Je, Jr, Js, Jt, Nat.reduceAdd, allOne, oneCell, Bool.and_self, Jc]; first | done | omega)) only [han, hr, c0, c1, hu.ln, ↓Qa, ↓Qb, ↓Qc, Qd, Qe, Qf, Qg, Qh, Qi, Qj, Qk, Ql, Qm, Qn, Qo, Qp, Qq, Qr, Qs, Qt, Qu, Qv, Qw, Qx, Qy, ptrTo, Qz, QA, QB, QC, QD, QE, QF, QG, QH, QI, QJ, QK, QL, QM, QN, QO, QP, QQ, QR, QS, QT, QU, QV, QW, QX, QY, QZ, Ja, Jb, Jc, Jd, Je, Jf, Jg, Jh, Ji, Jj, Jk, Jl, Jm, Jn, Jo, Jp, Jq, Jr, Js, Jt, Nat.reduceAdd]
    rw [if_neg (by simp)] at hk
    exact hk
  | true =>
    try simp (disch := first | omega | with_unfolding_all exact id rfl | with_unfolding_all exact Nat.le_of_ble_eq_true rfl | (simp only [Jd, Je, Jr, Js, Jt, Nat.reduceAdd, allOne, oneCell, Bool.and_self, Jc]; first | done | omega)) only [han, hr, c0, c1, hu.ln, ↓Qa, ↓Qb, ↓Qc, Qd, Qe, Qf, Qg, Qh, Qi, Qj, Qk, Ql, Qm, Qn, Qo, Qp, Qq, Qr, Qs, Qt, Qu, Qv, Qw, Qx, Qy, ptrTo, Qz, QA, QB, QC, QD, QE, QF, QG, QH, QI, QJ, QK, QL, QM, QN, QO, QP, QQ, QR, QS, QT, QU, QV, QW, QX, QY, QZ, Ja, Jb, Jc, Jd, Je, Jf, Jg, Jh, Ji, Jj, Jk, Jl, Jm, Jn, Jo, Jp, Jq, Jr, Js, Jt, Nat.reduceAdd]
    refine oIf_dec (fun h => ?_) (fun h => ?_)
    · rw [if_pos (by simp; omega)] at hk; exact hk
    · rw [if_neg (by simp; omega)] at hk; exact hk
theorem why_sp {b : Nat} {u : Value} {s : List Int} {r : Bool} (hlf : 1000000 ≤ lf) (hr : m.rd b = some ⟨1, [u, .bool r], none⟩) (hu : IL m u s) (h1 : 1 ≤ s.length) (h7 : s.length ≤ 7) (hm : ∀ x ∈ s, 0 ≤ x ∧ x ≤ 60)
    (hk : ∀ ix st, WhyI (gapS s (reachN s r)) (s.length - reachN s r) ix st → k (.tuple ⟨[.int .i64 ix, .int .i64 st]⟩) m = some ()) : runT (tab lf) (n + 2) 88 [.pointer (some ⟨b, 0, none⟩)] L m k = some () := by
  rw [r88]; dsimp only [S88, iofNat, inegSucc]
  have han : ∀ a : Addr, anil (.pointer (some a)) = some (.pointer (some a)) := fun _ => rfl
  have c0 : ([u, .bool r] : List Value)[0]? = some u := rfl
  have hrb := reachN_bd s r
  have hq1 : s.length = 1 → reachN s r = 1 := fun h => by unfold reachN; rw [if_neg (by simp [h])]
  have hq2 : s.length ≤ 2 → reachN s r = 1 := fun h => by unfold reachN; rw [if_neg (by simp; omega)]
  try simp (disch := first | omega | with_unfolding_all exact id rfl | with_unfolding_all exact Nat.le_of_ble_eq_true rfl | (simp only [Jd, Je, Jr, Js, Jt, Nat.reduceAdd, allOne, oneCell, Bool.and_self, Jc]; first | done | omega)) only [↓Qa, ↓Qb, ↓Qc, Qd, Qe, Qf, Qg, Qh, Qi, Qj, Qk, Ql, Qm, Qn, Qo, Qp, Qq, Qr, Qs, Qt, Qu, Qv, Qw, Qx, Qy, ptrTo, Qz, QA, QB, QC, QD, QE, QF, QG, QH, QI, QJ, QK, QL, QM, QN, QO, QP, QQ, QR, QS, QT, QU, QV, QW, QX, QY, QZ, Ja, Jb, Jc, Jd, Je, Jf, Jg, Jh, Ji, Jj, Jk, Jl, Jm, Jn, Jo, Jp, Jq, Jr, Js, Jt, Nat.reduceAdd]
  refine reach_sp hr hu ?_
  generalize hq : reachN s r = q at hrb hk hq1 hq2 ⊢
  try simp (disch := first | omega | with_unfolding_all exact id rfl | with_unfolding_all exact Nat.le_of_ble_eq_true rfl | (simp only [Jd, Je, Jr, Js, Jt, Nat.reduceAdd, allOne, oneCell, Bool.and_self, Jc]; first | done | omega)) only [han, hr, c0, hu.ln, ↓Qa, ↓Qb, ↓Qc, Qd, Qe, Qf, Qg, Qh, Qi, Qj, Qk, Ql, Qm, Qn, Qo, Qp, Qq, Qr, Qs, Qt, Qu, Qv, Qw, Qx, Qy, ptrTo, Qz, QA, QB, QC, QD, QE, QF, QG, QH, QI, QJ, QK, QL, QM, QN, QO, QP, QQ, QR, QS, QT, QU, QV, QW, QX, QY, QZ, Ja, Jb, Jc, Jd, Je, Jf, Jg, Jh, Ji, Jj, Jk, Jl, Jm, Jn, Jo, Jp, Jq, Jr, Js, Jt, Nat.reduceAdd]
  rw [oInt_sub ⟨by omega, by omega⟩, show (s.length : Int) - (q : Int) = ((s.length - q : Nat) : Int) by omega]
  refine loop_up (s.length - q) (fun i vs m' => m' = m ∧ ∃ ix st, vs = [.int .i64 ix, .int .i64 st, .int .i64 (i : Int)] ∧ WhyI (gapS s q) i ix st) (by omega) ⟨rfl, -1, 0, rfl, .inl ⟨rfl, rfl, rfl⟩⟩ ?_
  rintro i vs m' hi ⟨rfl, ix, st, rfl, hw⟩ self hself
  try simp (disch := first | omega | with_unfolding_all exact id rfl | with_unfolding_all exact Nat.le_of_ble_eq_true rfl | (simp only [Jd, Je, Jr, Js, Jt, Nat.reduceAdd, allOne, oneCell, Bool.and_self, Jc]; first | done | omega)) only [↓Qa, ↓Qb, ↓Qc, Qd, Qe, Qf, Qg, Qh, Qi, Qj, Qk, Ql, Qm, Qn, Qo, Qp, Qq, Qr, Qs, Qt, Qu, Qv, Qw, Qx, Qy, ptrTo, Qz, QA, QB, QC, QD, QE, QF, QG, QH, QI, QJ, QK, QL, QM, QN, QO, QP, QQ, QR, QS, QT, QU, QV, QW, QX, QY, QZ, Ja, Jb, Jc, Jd, Je, Jf, Jg, Jh, Ji, Jj, Jk, Jl, Jm, Jn, Jo, Jp, Jq, Jr, Js, Jt, Nat.reduceAdd]
  refine oIf_dec (fun h => ?_) (fun h => ?_)
  · have hi2 : i + q < s.length := by omega
    have hi1 : i < s.length := by omega
    have b1 := hm _ (List.getElem_mem hi1)
    have b2 := hm _ (List.getElem_mem hi2)
    have hg : s[i + q] - s[i] = gapS s q i := by
      unfold gapS
      rw [List.getD_eq_getElem?_getD, List.getElem?_eq_getElem hi2, List.getD_eq_getElem?_getD, List.getElem?_eq_getElem hi1]; rfl
    have hst := hw.step
    try simp (disch := first | omega | with_unfolding_all exact id rfl | with_unfolding_all exact Nat.le_of_ble_eq_true rfl | (simp only [Jd, Je, Jr, Js, Jt, Nat.reduceAdd, allOne, oneCell, Bool.and_self, Jc]; first | done | omega)) only [han, hr, c0, ↓Qa, ↓Qb, ↓Qc, Qd, Qe, Qf, Qg, Qh, Qi, Qj, Qk, Ql, Qm, Qn, Qo, Qp, Qq, Qr, Qs, Qt, Qu, Qv, Qw, Qx, Qy, ptrTo, Qz, QA, QB, QC, QD, QE, QF, QG, QH, QI, QJ, QK, QL, QM, QN, QO, QP, QQ, QR, QS, QT, QU, QV, QW, QX, QY, QZ, Ja, Jb, Jc, Jd, Je, Jf, Jg, Jh, Ji, Jj, Jk, Jl, Jm, Jn, Jo, Jp, Jq, Jr, Js, Jt, Nat.reduceAdd]
    rw [oInt_add ⟨by omega, by omega⟩, show (i : Int) + (q : Int) = ((i + q : Nat) : Int) by omega, hu.ia hi2, oOpt_e, hu.ld hi2, oOpt_e]
    try simp (disch := first | omega | with_unfolding_all exact id rfl | with_unfolding_all exact Nat.le_of_ble_eq_true rfl | (simp only [Jd, Je, Jr, Js, Jt, Nat.reduceAdd, allOne, oneCell, Bool.and_self, Jc]; first | done | omega)) only [han, hr, c0, hu.ia hi1, hu.ld hi1, ↓Qa, ↓Qb, ↓Qc, Qd, Qe, Qf, Qg, Qh, Qi, Qj, Qk, Ql, Qm, Qn, Qo, Qp, Qq, Qr, Qs, Qt, Qu, Qv, Qw, Qx, Qy, ptrTo, Qz, QA, QB, QC, QD, QE, QF, QG, QH, QI, QJ, QK, QL, QM, QN, QO, QP, QQ, QR, QS, QT, QU, QV, QW, QX, QY, QZ, Ja, Jb, Jc, Jd, Je, Jf, Jg, Jh, Ji, Jj, Jk, Jl, Jm, Jn, Jo, Jp, Jq, Jr, Js, Jt, Nat.reduceAdd]
    rw [oInt_sub ⟨by omega, by omega⟩, hg]
    by_cases hx : ix < 0
    · try simp (disch := first | omega | with_unfolding_all exact id rfl | with_unfolding_all exact Nat.le_of_ble_eq_true rfl | (simp only [Jd, Je, Jr, Js, Jt, Nat.reduceAdd, allOne, oneCell, Bool.and_self, Jc]; first | done | omega)) only [decide_eq_true hx, ↓Qa, ↓Qb, ↓Qc, Qd, Qe, Qf, Qg, Qh, Qi, Qj, Qk, Ql, Qm, Qn, Qo, Qp, Qq, Qr, Qs, Qt, Qu, Qv, Qw, Qx, Qy, ptrTo, Qz, QA, QB, QC, QD, QE, QF, QG, QH, QI, QJ, QK, QL, QM, QN, QO, QP, QQ, QR, QS, QT, QU, QV, QW, QX, QY, QZ, Ja, Jb, Jc, Jd, Je, Jf, Jg, Jh, Ji, Jj, Jk, Jl, Jm, Jn, Jo, Jp, Jq, Jr, Js, Jt, Nat.reduceAdd]
      rw [oInt_add ⟨by omega, by omega⟩]
      exact hself (by omega) _ _ ⟨rfl, _, _, rfl, hst.1 (.inl hx)⟩
    · try simp (disch := first | omega | with_unfolding_all exact id rfl | with_unfolding_all exact Nat.le_of_ble_eq_true rfl | (simp only [Jd, Je, Jr, Js, Jt, Nat.reduceAdd, allOne, oneCell, Bool.and_self, Jc]; first | done | omega)) only [decide_eq_false hx, ↓Qa, ↓Qb, ↓Qc, Qd, Qe, Qf, Qg, Qh, Qi, Qj, Qk, Ql, Qm, Qn, Qo, Qp, Qq, Qr, Qs, Qt, Qu, Qv, Qw, Qx, Qy, ptrTo, Qz, QA, QB, QC, QD, QE, QF, QG, QH, QI, QJ, QK, QL, QM, QN, QO, QP, QQ, QR, QS, QT, QU, QV, QW, QX, QY, QZ, Ja, Jb, Jc, Jd, Je, Jf, Jg, Jh, Ji, Jj, Jk, Jl, Jm, Jn, Jo, Jp, Jq, Jr, Js, Jt, Nat.reduceAdd]
      refine oIf_dec (fun h2 => ?_) (fun h2 => ?_)
      · rw [oInt_add ⟨by omega, by omega⟩]
        exact hself (by omega) _ _ ⟨rfl, _, _, rfl, hst.1 (.inr h2)⟩
      · rw [oInt_add ⟨by omega, by omega⟩]
        exact hself (by omega) _ _ ⟨rfl, _, _, rfl, hst.2 hx h2⟩
  · have : i = s.length - q := by omega
    subst this
    exact hk ix st hw
end
def leX (l : List Int) (r : Bool) : Int := if chkS l = 0 then leastV (isortI l) r else 0
section
variable {lf n L : Nat} {m : Mem} {k : Value → Mem → Option Unit}
theorem least_sp {v : Value} {l : List Int} {r : Bool} (hlf : 1000000 ≤ lf) (hL : L ≤ m.next) (hv : IL m v l) (hl : l.length < 1000)
    (hk : ∀ m', Gt m m' → k (.tuple ⟨[.int .i64 (leX l r), .int .i64 (chkS l)]⟩) m' = some ()) : runT (tab lf) (n + 7) 29 [v, .bool r] L m k = some () := by
  rw [r29]; dsimp only [S29, iofNat, inegSucc]
  try simp (disch := first | omega | with_unfolding_all exact id rfl | with_unfolding_all exact Nat.le_of_ble_eq_true rfl | (simp only [Jd, Je, Jr, Js, Jt, Nat.reduceAdd, allOne, oneCell, Bool.and_self, Jc]; first | done | omega)) only [↓Qa, ↓Qb, ↓Qc, Qd, Qe, Qf, Qg, Qh, Qi, Qj, Qk, Ql, Qm, Qn, Qo, Qp, Qq, Qr, Qs, Qt, Qu, Qv, Qw, Qx, Qy, ptrTo, Qz, QA, QB, QC, QD, QE, QF, QG, QH, QI, QJ, QK, QL, QM, QN, QO, QP, QQ, QR, QS, QT, QU, QV, QW, QX, QY, QZ, Ja, Jb, Jc, Jd, Je, Jf, Jg, Jh, Ji, Jj, Jk, Jl, Jm, Jn, Jo, Jp, Jq, Jr, Js, Jt, Nat.reduceAdd]
  unfold leX at hk
  refine opened_sp hlf hL hv hl (fun h m1 e1 => ?_) (fun h0 b u m1 e1 hb hr hu => ?_)
  · have := hk m1 e1
    rw [if_neg h] at this
    try simp (disch := first | omega | with_unfolding_all exact id rfl | with_unfolding_all exact Nat.le_of_ble_eq_true rfl | (simp only [Jd, Je, Jr, Js, Jt, Nat.reduceAdd, allOne, oneCell, Bool.and_self, Jc]; first | done | omega)) only [decide_eq_false h, ↓Qa, ↓Qb, ↓Qc, Qd, Qe, Qf, Qg, Qh, Qi, Qj, Qk, Ql, Qm, Qn, Qo, Qp, Qq, Qr, Qs, Qt, Qu, Qv, Qw, Qx, Qy, ptrTo, Qz, QA, QB, QC, QD, QE, QF, QG, QH, QI, QJ, QK, QL, QM, QN, QO, QP, QQ, QR, QS, QT, QU, QV, QW, QX, QY, QZ, Ja, Jb, Jc, Jd, Je, Jf, Jg, Jh, Ji, Jj, Jk, Jl, Jm, Jn, Jo, Jp, Jq, Jr, Js, Jt, Nat.reduceAdd]
    exact this
  · obtain ⟨h1, h7, hle⟩ := chkS_ok h0
    have hil := isortI_length l
    have hmem : ∀ y ∈ isortI l, 0 ≤ y ∧ y ≤ 60 := fun y hy => hle y ((isortI_perm l).mem_iff.1 hy)
    rw [h0, if_pos rfl] at hk
    try simp (disch := first | omega | with_unfolding_all exact id rfl | with_unfolding_all exact Nat.le_of_ble_eq_true rfl | (simp only [Jd, Je, Jr, Js, Jt, Nat.reduceAdd, allOne, oneCell, Bool.and_self, Jc]; first | done | omega)) only [↓Qa, ↓Qb, ↓Qc, Qd, Qe, Qf, Qg, Qh, Qi, Qj, Qk, Ql, Qm, Qn, Qo, Qp, Qq, Qr, Qs, Qt, Qu, Qv, Qw, Qx, Qy, ptrTo, Qz, QA, QB, QC, QD, QE, QF, QG, QH, QI, QJ, QK, QL, QM, QN, QO, QP, QQ, QR, QS, QT, QU, QV, QW, QX, QY, QZ, Ja, Jb, Jc, Jd, Je, Jf, Jg, Jh, Ji, Jj, Jk, Jl, Jm, Jn, Jo, Jp, Jq, Jr, Js, Jt, Nat.reduceAdd]
    refine why_sp hlf hr hu (by omega) (by omega) hmem fun ix st hw => ?_
    try simp (disch := first | omega | with_unfolding_all exact id rfl | with_unfolding_all exact Nat.le_of_ble_eq_true rfl | (simp only [Jd, Je, Jr, Js, Jt, Nat.reduceAdd, allOne, oneCell, Bool.and_self, Jc]; first | done | omega)) only [↓Qa, ↓Qb, ↓Qc, Qd, Qe, Qf, Qg, Qh, Qi, Qj, Qk, Ql, Qm, Qn, Qo, Qp, Qq, Qr, Qs, Qt, Qu, Qv, Qw, Qx, Qy, ptrTo, Qz, QA, QB, QC, QD, QE, QF, QG, QH, QI, QJ, QK, QL, QM, QN, QO, QP, QQ, QR, QS, QT, QU, QV, QW, QX, QY, QZ, Ja, Jb, Jc, Jd, Je, Jf, Jg, Jh, Ji, Jj, Jk, Jl, Jm, Jn, Jo, Jp, Jq, Jr, Js, Jt, Nat.reduceAdd]
    rw [(hw.end (isortI_sorted l)).1]
    exact hk m1 e1
end
end Go.Vit
