/- Walks of the group Bond, numbered for this seat by a program: W1. -/
import Derived.Test.YtppallabmjdolaaGreatDoorCallsC
set_option linter.unusedSimpArgs false
set_option linter.unusedVariables false
namespace Go.Vit
open Go Go.Proofs
attribute [local irreducible] runT loopS
theorem u3 : Tryz.prog.underlying 3 = some (.int .i64) := by kernel_rfl
theorem ael22 : aelem Tryz.prog 22 = some (1, 8) := by kernel_rfl
theorem bs22 (m : Mem) (x : Int) : bs Tryz.prog m 22 1 [(0, .int .i64 x)] = some (slTo 1 m.next, m.push ⟨1, [.int .i64 x], none⟩) :=
  (show _ = anew m 1 [.int .i64 x] (slTo 1) by kernel_rfl).trans (anew_eq ..)
theorem bu92 (a : Int) (p : Option Addr) (i c : Nat) : bu Tryz.prog 97 [(0, .int .i64 a), (1, .slice p i c)] = some (.agg ⟨[.int .i64 a, .slice p i c]⟩) := by kernel_rfl
theorem bu94 (a : Int) (p : Option Addr) (i c : Nat) : bu Tryz.prog 99 [(0, .agg ⟨[.int .i64 a, .slice p i c]⟩)] = some (.agg ⟨[.int .i64 a, .slice p i c]⟩) := by kernel_rfl
theorem bu99 (a : Int) (p : Option Addr) (i c : Nat) : bu Tryz.prog 109 [(0, .agg ⟨[.int .i64 a, .slice p i c]⟩)] = some (.agg ⟨[.int .i64 a, .slice p i c]⟩) := by kernel_rfl
theorem bu24 (a : Int) (p : Option Addr) (i c : Nat) : bu Tryz.prog 24 [(0, .int .i64 a), (1, .slice p i c)] = some (.agg ⟨[.int .i64 a, .slice p i c]⟩) := by kernel_rfl
/-- A struct of a number and a list. -/
abbrev hg (h : Int) (v : Value) : Value := .agg ⟨[.int .i64 h, v]⟩

/-- A function value that answers by p. -/
def FnB (call : CallK Unit) (fv : Value) (L : Nat) (m0 : Mem) (ok : Int → Prop) (p : Int → Bool) : Prop :=
  ∀ (m : Mem) (x : Int) (k : Value → Mem → Option Unit), Gt m0 m → ok x → (∀ m', Gt m m' → k (.bool (p x)) m' = some ()) → oCallV call fv [.int .i64 x] L m k = some ()
def idx (p : Int → Bool) (l : List Int) : Int := match l.findIdx? p with
  | some i => (i : Int)
  | none => -1
section
variable {lf n L : Nat} {m : Mem} {k : Value → Mem → Option Unit}

theorem within_sp (a b c : Int) (hk : k (.bool (decide (b ≤ a ∧ a ≤ c))) m = some ()) : runT (tabC lf) (n + 1) 54 [.int .i64 a, .int .i64 b, .int .i64 c] L m k = some () := by
  rw [r54]
  dsimp only [S54, iofNat, inegSucc]
  try simp (disch := first | omega | with_unfolding_all exact id rfl | with_unfolding_all exact Nat.le_of_ble_eq_true rfl | (simp only [Jd, Je, Jr, Js, Jt, Nat.reduceAdd, allOne, oneCell, Bool.and_self, Jc]; first | done | omega)) only [↓Qa, ↓Qb, ↓Qc, Qd, Qe, Qf, Qg, Qh, Qi, Qj, Qk, Ql, Qm, Qn, Qo, Qp, Qq, Qr, Qs, Qt, Qu, Qv, Qw, Qx, Qy, ptrTo, Qz, QA, QB, QC, QD, QE, QF, QG, QH, QI, QJ, QK, QL, QM, QN, QO, QP, QQ, QR, QS, QT, QU, QV, QW, QX, QY, QZ, Ja, Jb, Jc, Jd, Je, Jf, Jg, Jh, Ji, Jj, Jk, Jl, Jm, Jn, Jo, Jp, Jq, Jr, Js, Jt, Nat.reduceAdd]
  refine oGT_dec (fun h => ?_) (fun h => ?_)
  · simp only [h, true_and, ↓Qa, ↓Qb, ↓Qc, Qd, Qe, Qf, Qg, Qh, Qi, Qj, Qk, Ql, Qm, Qn, Qo, Qp, Qq, Qr, Qs, Qt, Qu, Qv, Qw, Qx, Qy, ptrTo, Qz, QA, QB, QC, QD, QE, QF, QG, QH, QI, QJ, QK, QL, QM, QN, QO, QP, QQ, QR, QS, QT, QU, QV, QW, QX, QY, QZ, Ja, Jb, Jc, Jd, Je, Jf, Jg, Jh, Ji, Jj, Jk, Jl, Jm, Jn, Jo, Jp, Jq, Jr, Js, Jt, Nat.reduceAdd] at hk ⊢; exact hk
  · simp only [h, false_and, ↓Qa, ↓Qb, ↓Qc, Qd, Qe, Qf, Qg, Qh, Qi, Qj, Qk, Ql, Qm, Qn, Qo, Qp, Qq, Qr, Qs, Qt, Qu, Qv, Qw, Qx, Qy, ptrTo, Qz, QA, QB, QC, QD, QE, QF, QG, QH, QI, QJ, QK, QL, QM, QN, QO, QP, QQ, QR, QS, QT, QU, QV, QW, QX, QY, QZ, Ja, Jb, Jc, Jd, Je, Jf, Jg, Jh, Ji, Jj, Jk, Jl, Jm, Jn, Jo, Jp, Jq, Jr, Js, Jt, Nat.reduceAdd] at hk ⊢; exact hk
theorem indexFunc_sp {v fv : Value} {l : List Int} {p : Int → Bool} (hlf : 1000000 ≤ lf) (hv : IL m v l) (hl : l.length < 1000000) (hf : FnB (runT (tabC lf) n) fv L m (· ∈ l) p)
    (hk : ∀ m', Gt m m' → k (.int .i64 (idx p l)) m' = some ()) : runT (tabC lf) (n + 1) 105 [v, fv] L m k = some () := by
  rw [r105]
  dsimp only [S105, iofNat, inegSucc]
  try simp (disch := first | omega | with_unfolding_all exact id rfl | with_unfolding_all exact Nat.le_of_ble_eq_true rfl | (simp only [Jd, Je, Jr, Js, Jt, Nat.reduceAdd, allOne, oneCell, Bool.and_self, Jc]; first | done | omega)) only [hv.ln, ↓Qa, ↓Qb, ↓Qc, Qd, Qe, Qf, Qg, Qh, Qi, Qj, Qk, Ql, Qm, Qn, Qo, Qp, Qq, Qr, Qs, Qt, Qu, Qv, Qw, Qx, Qy, ptrTo, Qz, QA, QB, QC, QD, QE, QF, QG, QH, QI, QJ, QK, QL, QM, QN, QO, QP, QQ, QR, QS, QT, QU, QV, QW, QX, QY, QZ, Ja, Jb, Jc, Jd, Je, Jf, Jg, Jh, Ji, Jj, Jk, Jl, Jm, Jn, Jo, Jp, Jq, Jr, Js, Jt, Nat.reduceAdd]
  refine loop_up l.length (fun i vs m' => vs = [.int .i64 (i : Int)] ∧ Gt m m' ∧ ∀ x ∈ l.take i, p x = false) (by omega) ⟨rfl, Gt.refl _, fun j h => by simp at h⟩ ?_
  rintro i vs m' hi ⟨rfl, hg, hI⟩ self hself
  have hv' := hv.mono hg
  try simp (disch := first | omega | with_unfolding_all exact id rfl | with_unfolding_all exact Nat.le_of_ble_eq_true rfl | (simp only [Jd, Je, Jr, Js, Jt, Nat.reduceAdd, allOne, oneCell, Bool.and_self, Jc]; first | done | omega)) only [↓Qa, ↓Qb, ↓Qc, Qd, Qe, Qf, Qg, Qh, Qi, Qj, Qk, Ql, Qm, Qn, Qo, Qp, Qq, Qr, Qs, Qt, Qu, Qv, Qw, Qx, Qy, ptrTo, Qz, QA, QB, QC, QD, QE, QF, QG, QH, QI, QJ, QK, QL, QM, QN, QO, QP, QQ, QR, QS, QT, QU, QV, QW, QX, QY, QZ, Ja, Jb, Jc, Jd, Je, Jf, Jg, Jh, Ji, Jj, Jk, Jl, Jm, Jn, Jo, Jp, Jq, Jr, Js, Jt, Nat.reduceAdd]
  refine oIf_dec (fun h1 => ?_) (fun h1 => ?_)
  · have h2 : i < l.length := by omega
    try simp (disch := first | omega | with_unfolding_all exact id rfl | with_unfolding_all exact Nat.le_of_ble_eq_true rfl | (simp only [Jd, Je, Jr, Js, Jt, Nat.reduceAdd, allOne, oneCell, Bool.and_self, Jc]; first | done | omega)) only [hv'.ia h2, hv'.ld h2, ↓Qa, ↓Qb, ↓Qc, Qd, Qe, Qf, Qg, Qh, Qi, Qj, Qk, Ql, Qm, Qn, Qo, Qp, Qq, Qr, Qs, Qt, Qu, Qv, Qw, Qx, Qy, ptrTo, Qz, QA, QB, QC, QD, QE, QF, QG, QH, QI, QJ, QK, QL, QM, QN, QO, QP, QQ, QR, QS, QT, QU, QV, QW, QX, QY, QZ, Ja, Jb, Jc, Jd, Je, Jf, Jg, Jh, Ji, Jj, Jk, Jl, Jm, Jn, Jo, Jp, Jq, Jr, Js, Jt, Nat.reduceAdd]
    refine hf m' l[i] _ hg (List.getElem_mem h2) fun m2 hg2 => ?_
    refine oIf_bool (fun h3 => ?_) (fun h3 => ?_)
    · have : idx p l = (i : Int) := by
        have : l.findIdx? p = some i := by
          rw [List.findIdx?_eq_some_iff_getElem]
          refine ⟨h2, h3, fun j hj => ?_⟩
          have := hI l[j] (by rw [List.mem_take_iff_getElem]; exact ⟨j, by omega, rfl⟩)
          simp [this]
        simp only [idx, this]
      rw [← this]
      exact hk m2 (hg.trans hg2)
    · rw [oInt_add ⟨by omega, by omega⟩]
      refine hself h2 _ _ ⟨rfl, hg.trans hg2, fun x hx => ?_⟩
      rw [List.take_add_one, List.getElem?_eq_getElem h2] at hx
      rcases List.mem_append.1 hx with hx | hx
      · exact hI x hx
      · rw [Option.toList_some, List.mem_singleton] at hx
        rw [hx]; exact h3
  · have : idx p l = -1 := by
      have : l.findIdx? p = none := by
        rw [List.findIdx?_eq_none_iff]
        intro x hx
        exact hI x (by rw [List.take_of_length_le (by omega)]; exact hx)
      simp only [idx, this]
    have h := hk m' hg
    rw [this] at h
    exact h
theorem idx_any (p : Int → Bool) (l : List Int) : decide (0 ≤ idx p l) = l.any p := by
  unfold idx
  split
  · rename_i i h
    have h1 := List.findIdx?_eq_some_iff_getElem.1 h
    obtain ⟨h2, h3, _⟩ := h1
    have : l.any p = true := List.any_eq_true.2 ⟨_, List.getElem_mem h2, h3⟩
    rw [this]; simp
  · rename_i h
    rw [List.findIdx?_eq_none_iff] at h
    have : l.any p = false := by rw [List.any_eq_false]; intro x hx; simp [h x hx]
    rw [this]; simp
theorem containsFunc_sp {v fv : Value} {l : List Int} {p : Int → Bool} (hlf : 1000000 ≤ lf) (hv : IL m v l) (hl : l.length < 1000000) (hf : FnB (runT (tabC lf) n) fv L m (· ∈ l) p)
    (hk : ∀ m', Gt m m' → k (.bool (l.any p)) m' = some ()) : runT (tabC lf) (n + 2) 43 [v, fv] L m k = some () := by
  rw [r43]
  dsimp only [S43, iofNat, inegSucc]
  try simp (disch := first | omega | with_unfolding_all exact id rfl | with_unfolding_all exact Nat.le_of_ble_eq_true rfl | (simp only [Jd, Je, Jr, Js, Jt, Nat.reduceAdd, allOne, oneCell, Bool.and_self, Jc]; first | done | omega)) only [↓Qa, ↓Qb, ↓Qc, Qd, Qe, Qf, Qg, Qh, Qi, Qj, Qk, Ql, Qm, Qn, Qo, Qp, Qq, Qr, Qs, Qt, Qu, Qv, Qw, Qx, Qy, ptrTo, Qz, QA, QB, QC, QD, QE, QF, QG, QH, QI, QJ, QK, QL, QM, QN, QO, QP, QQ, QR, QS, QT, QU, QV, QW, QX, QY, QZ, Ja, Jb, Jc, Jd, Je, Jf, Jg, Jh, Ji, Jj, Jk, Jl, Jm, Jn, Jo, Jp, Jq, Jr, Js, Jt, Nat.reduceAdd]
  refine indexFunc_sp hlf hv hl hf fun m' hg => ?_
  try simp (disch := first | omega | with_unfolding_all exact id rfl | with_unfolding_all exact Nat.le_of_ble_eq_true rfl | (simp only [Jd, Je, Jr, Js, Jt, Nat.reduceAdd, allOne, oneCell, Bool.and_self, Jc]; first | done | omega)) only [↓Qa, ↓Qb, ↓Qc, Qd, Qe, Qf, Qg, Qh, Qi, Qj, Qk, Ql, Qm, Qn, Qo, Qp, Qq, Qr, Qs, Qt, Qu, Qv, Qw, Qx, Qy, ptrTo, Qz, QA, QB, QC, QD, QE, QF, QG, QH, QI, QJ, QK, QL, QM, QN, QO, QP, QQ, QR, QS, QT, QU, QV, QW, QX, QY, QZ, Ja, Jb, Jc, Jd, Je, Jf, Jg, Jh, Ji, Jj, Jk, Jl, Jm, Jn, Jo, Jp, Jq, Jr, Js, Jt, Nat.reduceAdd]
  rw [idx_any]
  exact hk m' hg
/-- The group of all. -/
theorem all_sp {h : Nat} (v : Value) (hh : h ≤ 6) (hk : ∀ m', Gt m m' → k (.int .i64 (2 ^ h - 1)) m' = some ()) : runT (tabC lf) (n + 1) 58 [hg h v] L m k = some () := by
  rw [r58]
  dsimp only [S58, iofNat, inegSucc]
  have h2 : (2 : Int) ^ h ≤ 64 ∧ (1 : Int) ≤ 2 ^ h := by
    have : h = 0 ∨ h = 1 ∨ h = 2 ∨ h = 3 ∨ h = 4 ∨ h = 5 ∨ h = 6 := by omega
    rcases this with rfl | rfl | rfl | rfl | rfl | rfl | rfl <;> decide
  try simp (disch := first | omega | with_unfolding_all exact id rfl | with_unfolding_all exact Nat.le_of_ble_eq_true rfl | (simp only [Jd, Je, Jr, Js, Jt, Nat.reduceAdd, allOne, oneCell, Bool.and_self, Jc]; first | done | omega)) only [shl_e u3 (x := 1) (n := h) (by omega) (by omega) (by omega), ↓Qa, ↓Qb, ↓Qc, Qd, Qe, Qf, Qg, Qh, Qi, Qj, Qk, Ql, Qm, Qn, Qo, Qp, Qq, Qr, Qs, Qt, Qu, Qv, Qw, Qx, Qy, ptrTo, Qz, QA, QB, QC, QD, QE, QF, QG, QH, QI, QJ, QK, QL, QM, QN, QO, QP, QQ, QR, QS, QT, QU, QV, QW, QX, QY, QZ, Ja, Jb, Jc, Jd, Je, Jf, Jg, Jh, Ji, Jj, Jk, Jl, Jm, Jn, Jo, Jp, Jq, Jr, Js, Jt, Nat.reduceAdd]
  rw [oInt_sub ⟨by omega, by omega⟩]
  rw [Int.one_mul]
  exact hk _ (Mem.gt_push _ _)
theorem has_sp {h : Nat} (v : Value) (g : Int) (hh : h ≤ 6) (hk : ∀ m', Gt m m' → k (.bool (decide (0 ≤ g ∧ g ≤ 2 ^ h - 1))) m' = some ()) : runT (tabC lf) (n + 2) 69 [hg h v, .int .i64 g] L m k = some () := by
  rw [r69]
  dsimp only [S69, iofNat, inegSucc]
  try simp (disch := first | omega | with_unfolding_all exact id rfl | with_unfolding_all exact Nat.le_of_ble_eq_true rfl | (simp only [Jd, Je, Jr, Js, Jt, Nat.reduceAdd, allOne, oneCell, Bool.and_self, Jc]; first | done | omega)) only [↓Qa, ↓Qb, ↓Qc, Qd, Qe, Qf, Qg, Qh, Qi, Qj, Qk, Ql, Qm, Qn, Qo, Qp, Qq, Qr, Qs, Qt, Qu, Qv, Qw, Qx, Qy, ptrTo, Qz, QA, QB, QC, QD, QE, QF, QG, QH, QI, QJ, QK, QL, QM, QN, QO, QP, QQ, QR, QS, QT, QU, QV, QW, QX, QY, QZ, Ja, Jb, Jc, Jd, Je, Jf, Jg, Jh, Ji, Jj, Jk, Jl, Jm, Jn, Jo, Jp, Jq, Jr, Js, Jt, Nat.reduceAdd]
  refine all_sp v hh fun m' hg => ?_
  refine within_sp g 0 _ ?_
  exact hk _ ((Mem.gt_push _ _).trans hg)
theorem lies_sp (a b : Nat) (ha : a < 64) (hb : b < 64) (hk : k (.bool (decide (a &&& b = a))) m = some ()) : runT (tabC lf) (n + 1) 129 [.int .i64 a, .int .i64 b] L m k = some () := by
  rw [r129]
  dsimp only [S129, iofNat, inegSucc]
  try simp (disch := first | omega | with_unfolding_all exact id rfl | with_unfolding_all exact Nat.le_of_ble_eq_true rfl | (simp only [Jd, Je, Jr, Js, Jt, Nat.reduceAdd, allOne, oneCell, Bool.and_self, Jc]; first | done | omega)) only [oInt_andNot (a := a) (b := b) (by omega) (by omega), ↓Qa, ↓Qb, ↓Qc, Qd, Qe, Qf, Qg, Qh, Qi, Qj, Qk, Ql, Qm, Qn, Qo, Qp, Qq, Qr, Qs, Qt, Qu, Qv, Qw, Qx, Qy, ptrTo, Qz, QA, QB, QC, QD, QE, QF, QG, QH, QI, QJ, QK, QL, QM, QN, QO, QP, QQ, QR, QS, QT, QU, QV, QW, QX, QY, QZ, Ja, Jb, Jc, Jd, Je, Jf, Jg, Jh, Ji, Jj, Jk, Jl, Jm, Jn, Jo, Jp, Jq, Jr, Js, Jt, Nat.reduceAdd]
  have h : (((a ^^^ (a &&& b) : Nat) : Int) = 0) ↔ (a &&& b = a) := by
    have : (a ^^^ (a &&& b) = 0) ↔ (a = a &&& b) := by
      constructor
      · intro h0
        have : (a ^^^ (a &&& b)) ^^^ (a &&& b) = 0 ^^^ (a &&& b) := by rw [h0]
        rwa [Nat.xor_assoc, Nat.xor_self, Nat.xor_zero, Nat.zero_xor] at this
      · intro h0; rw [← h0, Nat.xor_self]
    omega
  rw [decide_eq_decide.2 h]
  exact hk
/-- What is wrong with holders and groups. -/
def chk (h : Int) (l : List Int) : Int := if 1 ≤ h ∧ h ≤ 6 then (if 64 < l.length then 3 else if l.any (fun g => !decide (0 ≤ g ∧ g ≤ 2 ^ h.toNat - 1)) then 2 else 0) else 1
theorem check_sp {h : Int} {v : Value} {l : List Int} (hlf : 1000000 ≤ lf) (hv : IL m v l) (hk : ∀ m', Gt m m' → k (.int .i64 (chk h l)) m' = some ()) : runT (tabC lf) (n + 6) 121 [hg h v] L m k = some () := by
  rw [r121]
  dsimp only [S121, iofNat, inegSucc]
  try simp (disch := first | omega | with_unfolding_all exact id rfl | with_unfolding_all exact Nat.le_of_ble_eq_true rfl | (simp only [Jd, Je, Jr, Js, Jt, Nat.reduceAdd, allOne, oneCell, Bool.and_self, Jc]; first | done | omega)) only [↓Qa, ↓Qb, ↓Qc, Qd, Qe, Qf, Qg, Qh, Qi, Qj, Qk, Ql, Qm, Qn, Qo, Qp, Qq, Qr, Qs, Qt, Qu, Qv, Qw, Qx, Qy, ptrTo, Qz, QA, QB, QC, QD, QE, QF, QG, QH, QI, QJ, QK, QL, QM, QN, QO, QP, QQ, QR, QS, QT, QU, QV, QW, QX, QY, QZ, Ja, Jb, Jc, Jd, Je, Jf, Jg, Jh, Ji, Jj, Jk, Jl, Jm, Jn, Jo, Jp, Jq, Jr, Js, Jt, Nat.reduceAdd]
  refine within_sp h 1 6 ?_
  obtain ⟨p, c, rfl⟩ := hv.ex
  have hv1 := hv.mono (Mem.gt_push m ⟨1, [.int .i64 h, .slice p l.length c], none⟩)
  by_cases h1 : 1 ≤ h ∧ h ≤ 6
  · try simp (disch := first | omega | with_unfolding_all exact id rfl | with_unfolding_all exact Nat.le_of_ble_eq_true rfl | (simp only [Jd, Je, Jr, Js, Jt, Nat.reduceAdd, allOne, oneCell, Bool.and_self, Jc]; first | done | omega)) only [h1, and_self, hv1.ln, ↓Qa, ↓Qb, ↓Qc, Qd, Qe, Qf, Qg, Qh, Qi, Qj, Qk, Ql, Qm, Qn, Qo, Qp, Qq, Qr, Qs, Qt, Qu, Qv, Qw, Qx, Qy, ptrTo, Qz, QA, QB, QC, QD, QE, QF, QG, QH, QI, QJ, QK, QL, QM, QN, QO, QP, QQ, QR, QS, QT, QU, QV, QW, QX, QY, QZ, Ja, Jb, Jc, Jd, Je, Jf, Jg, Jh, Ji, Jj, Jk, Jl, Jm, Jn, Jo, Jp, Jq, Jr, Js, Jt, Nat.reduceAdd]
    refine oIf_dec (fun h2 => ?_) (fun h2 => ?_)
    · have := hk _ (Mem.gt_push m ⟨1, [.int .i64 h, .slice p l.length c], none⟩)
      rw [chk, if_pos h1, if_pos (by omega)] at this
      exact this
    · try simp (disch := first | omega | with_unfolding_all exact id rfl | with_unfolding_all exact Nat.le_of_ble_eq_true rfl | (simp only [Jd, Je, Jr, Js, Jt, Nat.reduceAdd, allOne, oneCell, Bool.and_self, Jc]; first | done | omega)) only [↓Qa, ↓Qb, ↓Qc, Qd, Qe, Qf, Qg, Qh, Qi, Qj, Qk, Ql, Qm, Qn, Qo, Qp, Qq, Qr, Qs, Qt, Qu, Qv, Qw, Qx, Qy, ptrTo, Qz, QA, QB, QC, QD, QE, QF, QG, QH, QI, QJ, QK, QL, QM, QN, QO, QP, QQ, QR, QS, QT, QU, QV, QW, QX, QY, QZ, Ja, Jb, Jc, Jd, Je, Jf, Jg, Jh, Ji, Jj, Jk, Jl, Jm, Jn, Jo, Jp, Jq, Jr, Js, Jt, Nat.reduceAdd]
      refine containsFunc_sp hlf hv1 (by omega) (p := fun g => !decide (0 ≤ g ∧ g ≤ 2 ^ h.toNat - 1)) ?_ fun m' hg => ?_
      · intro m2 x k2 hg2 _ hk2
        have hb : m2.rd m.next = _ := (At.push m [.int .i64 h, .slice p l.length c]).mono hg2
        rw [oCallV_e (hf := rfl), r156]
        dsimp only [S156, iofNat, inegSucc]
        try simp (disch := first | omega | with_unfolding_all exact id rfl | with_unfolding_all exact Nat.le_of_ble_eq_true rfl | (simp only [Jd, Je, Jr, Js, Jt, Nat.reduceAdd, allOne, oneCell, Bool.and_self, Jc]; first | done | omega)) only [hb, ↓Qa, ↓Qb, ↓Qc, Qd, Qe, Qf, Qg, Qh, Qi, Qj, Qk, Ql, Qm, Qn, Qo, Qp, Qq, Qr, Qs, Qt, Qu, Qv, Qw, Qx, Qy, ptrTo, Qz, QA, QB, QC, QD, QE, QF, QG, QH, QI, QJ, QK, QL, QM, QN, QO, QP, QQ, QR, QS, QT, QU, QV, QW, QX, QY, QZ, Ja, Jb, Jc, Jd, Je, Jf, Jg, Jh, Ji, Jj, Jk, Jl, Jm, Jn, Jo, Jp, Jq, Jr, Js, Jt, Nat.reduceAdd]
        obtain ⟨a, rfl⟩ : ∃ a : Nat, h = a := ⟨h.toNat, by omega⟩
        refine has_sp _ x (by omega) fun m3 hg3 => ?_
        try simp (disch := first | omega | with_unfolding_all exact id rfl | with_unfolding_all exact Nat.le_of_ble_eq_true rfl | (simp only [Jd, Je, Jr, Js, Jt, Nat.reduceAdd, allOne, oneCell, Bool.and_self, Jc]; first | done | omega)) only [↓Qa, ↓Qb, ↓Qc, Qd, Qe, Qf, Qg, Qh, Qi, Qj, Qk, Ql, Qm, Qn, Qo, Qp, Qq, Qr, Qs, Qt, Qu, Qv, Qw, Qx, Qy, ptrTo, Qz, QA, QB, QC, QD, QE, QF, QG, QH, QI, QJ, QK, QL, QM, QN, QO, QP, QQ, QR, QS, QT, QU, QV, QW, QX, QY, QZ, Ja, Jb, Jc, Jd, Je, Jf, Jg, Jh, Ji, Jj, Jk, Jl, Jm, Jn, Jo, Jp, Jq, Jr, Js, Jt, Nat.reduceAdd]
        rw [Int.toNat_natCast] at hk2
        exact hk2 m3 hg3
      · have := hk _ ((Mem.gt_push m ⟨1, [.int .i64 h, .slice p l.length c], none⟩).trans hg)
        rw [chk, if_pos h1, if_neg (by omega)] at this
        refine oIf_bool (fun h3 => ?_) (fun h3 => ?_)
        · rw [if_pos h3] at this; exact this
        · rw [h3] at this; exact this
  · have := hk _ (Mem.gt_push m ⟨1, [.int .i64 h, .slice p l.length c], none⟩)
    rw [chk, if_neg h1] at this
    try simp (disch := first | omega | with_unfolding_all exact id rfl | with_unfolding_all exact Nat.le_of_ble_eq_true rfl | (simp only [Jd, Je, Jr, Js, Jt, Nat.reduceAdd, allOne, oneCell, Bool.and_self, Jc]; first | done | omega)) only [h1, ↓Qa, ↓Qb, ↓Qc, Qd, Qe, Qf, Qg, Qh, Qi, Qj, Qk, Ql, Qm, Qn, Qo, Qp, Qq, Qr, Qs, Qt, Qu, Qv, Qw, Qx, Qy, ptrTo, Qz, QA, QB, QC, QD, QE, QF, QG, QH, QI, QJ, QK, QL, QM, QN, QO, QP, QQ, QR, QS, QT, QU, QV, QW, QX, QY, QZ, Ja, Jb, Jc, Jd, Je, Jf, Jg, Jh, Ji, Jj, Jk, Jl, Jm, Jn, Jo, Jp, Jq, Jr, Js, Jt, Nat.reduceAdd]
    exact this
end
end Go.Vit
