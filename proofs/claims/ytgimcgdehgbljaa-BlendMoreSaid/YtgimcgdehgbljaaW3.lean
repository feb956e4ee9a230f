/- Walks: Clone, missing, valid, apart, out1, Way. -/
import Derived.Test.YtgimcgdehgbljaaW2
import Derived.Test.YtgimcgdehgbljaaP2
import Derived.Test.YtgimcgdehgbljaaVitAE
set_option linter.unusedSimpArgs false
set_option linter.unusedVariables false
set_option maxRecDepth 20000
namespace Go.Vit
open Go Go.Proofs
attribute [local irreducible] runT loopS
theorem bs220 (m : Mem) : bs Try.prog m 22 0 [] = some (slTo 0 m.next, m.push ⟨1, [], none⟩) := (show _ = anew m 1 [] (slTo 0) by kernel_rfl).trans (anew_eq ..)
theorem az3 : azero Try.prog 3 = some [.int .i64 0] := by kernel_rfl
theorem tby3 : tbytes Try.prog 3 = some 8 := by kernel_rfl
theorem ael37 : aelem Try.prog 37 = some (1, 24) := by kernel_rfl
theorem bs37 (m : Mem) (p : Option Addr) (n c : Nat) : bs Try.prog m 37 1 [(0, .slice p n c)] = some (slTo 1 m.next, m.push ⟨1, [.slice p n c], none⟩) :=
  (show _ = anew m 1 [.slice p n c] (slTo 1) by kernel_rfl).trans (anew_eq ..)
theorem bs37L {m : Mem} {v : Value} {l : List Nat} {m2 : Mem} (hv : IN m2 v l) : bs Try.prog m 37 1 [(0, v)] = some (slTo 1 m.next, m.push ⟨1, [v], none⟩) := by
  obtain ⟨p, c, rfl⟩ := hv.ex
  exact bs37 ..
theorem abin_snil (p : Option Addr) (n c : Nat) : abin Try.prog .eql 22 (.slice p n c) (.slice none 0 0) = some (.bool p.isNone) := by
  cases p with
  | none => kernel_rfl
  | some a => kernel_rfl
theorem make22 (m : Mem) {a : Nat} (ha : a ≤ 1000) : amakeSlice Try.prog m 22 (.int .i64 (a : Int)) (.int .i64 (a : Int)) = some (.slice (some ⟨m.next, 0, none⟩) a a, m.push ⟨1, azrow [.int .i64 0] a, none⟩) := by
  unfold amakeSlice
  have h1 : anat (.int .i64 (a : Int)) = some a := by
    show anat (.int .i64 (Int.ofNat a)) = _
    simp only [anat, natK_eq]
  simp only [u22, az3, ts3, tby3, h1]
  have h2 : Nat.mul 8 a = 8 * a := rfl
  rw [h2, ble_t (Nat.le_refl a), ble_t (show a ≤ 1048576 by omega), ble_t (show 8 * a ≤ 281474976710656 by omega)]
  simp only [List.length_singleton, Nat.beq_refl, Bool.and_self, anew_eq]
theorem copy22 {L : Nat} {m : Mem} {b n : Nat} {x : Option Nat} {cs : List Value} {v : Value} {l : List Nat} (hL : L ≤ b) (hb : m.rd b = some ⟨1, cs, none⟩) (hc : cs.length = n) (hv : IN m v l) (hl : l.length = n) :
    ∃ r m', acopy Try.prog L m 22 (.slice (some ⟨b, 0, x⟩) n n) v = some (r, m') ∧ m'.rd b = some ⟨1, (ci l).map (Value.int .i64), none⟩ ∧ (∀ c, c ≠ b → m'.rd c = m.rd c) ∧ m'.next = m.next := by
  have h1 : Sl 1 m v l.length ((ci l).map (Value.int .i64)) := by
    have := hv; unfold IN IL at this; rwa [ci_length] at this
  have h2 : ((ci l).map (Value.int .i64)).length = n := by rw [List.length_map, ci_length, hl]
  unfold acopy
  simp only [u22, ts3, h1.1, hl, natK_eq, nmin_eq, Nat.min_self]
  cases n with
  | zero =>
    refine ⟨_, m, rfl, ?_, fun _ _ => rfl, rfl⟩
    rw [hb, List.length_eq_zero_iff.1 hc, List.length_eq_zero_iff.1 h2]
  | succ j =>
    have h3 : ((ci l).map (Value.int .i64)).take (Nat.mul (Nat.succ j) 1) = (ci l).map (Value.int .i64) := by
      rw [show Nat.mul (Nat.succ j) 1 = j + 1 from Nat.mul_one _, List.take_of_length_le (by omega)]
    have h4 := awr_e (L := L) (o := 0) (vs := (ci l).map (Value.int .i64)) hL hb (by omega) (allOne_map _)
    simp only [h3, h4]
    refine ⟨_, _, rfl, ?_, fun c hcb => rd_other hcb, rfl⟩
    rw [Mem.rd_put_eq _ _ (Mem.rd_lt hb), List.take_zero, List.nil_append, List.drop_eq_nil_of_le (by omega), List.append_nil]
def hdI : List Nat → Int
  | [] => -1
  | x :: _ => (x : Int)
def misI (a b : List Nat) : Int := hdI (less a b)
section
variable {lf n L : Nat} {m : Mem} {k : Value → Mem → Option Unit}
theorem clone_sp {v : Value} {l : List Nat} (hL : L ≤ m.next) (hv : IN m v l) (hnil : v = .slice none 0 0 → l = []) (hl : l.length < 1000000)
    (hk : ∀ u m', Gt m m' → IN m' u l → (∀ c, bid u = some c → m.next ≤ c ∧ c < m'.next) → k u m' = some ()) : runT (tab lf) (n + 1) 73 [v] L m k = some () := by
  rw [r73]
  dsimp only [S73, iofNat, inegSucc]
  obtain ⟨q, c, rfl⟩ := hv.ex
  cases q with
  | none =>
    try simp (disch := first | omega | with_unfolding_all exact id rfl | with_unfolding_all exact Nat.le_of_ble_eq_true rfl | (simp only [Jd, Je, Jr, Js, Jt, Nat.reduceAdd, allOne, oneCell, Bool.and_self, Jc]; first | done | omega)) only [abin_snil, Option.isNone_none, ↓Qa, ↓Qb, ↓Qc, Qd, Qe, Qf, Qg, Qh, Qi, Qj, Qk, Ql, Qm, Qn, Qo, Qp, Qq, Qr, Qs, Qt, Qu, Qv, Qw, Qx, Qy, ptrTo, Qz, QA, QB, QC, QD, QE, QF, QG, QH, QI, QJ, QK, QL, QM, QN, QO, QP, QQ, QR, QS, QT, QU, QV, QW, QX, QY, QZ, Ja, Jb, Jc, Jd, Je, Jf, Jg, Jh, Ji, Jj, Jk, Jl, Jm, Jn, Jo, Jp, Jq, Jr, Js, Jt, Nat.reduceAdd]
    have h0 : l = [] := by
      rcases hv with ⟨h1, h2 | ⟨b, o, x, c', h2⟩⟩
      · exact hnil h2
      · cases h2
    subst h0
    exact hk _ m (Gt.refl _) (GN.nil 0 _).inn (fun c hc => by cases hc)
  | some q =>
    try simp (disch := first | omega | with_unfolding_all exact id rfl | with_unfolding_all exact Nat.le_of_ble_eq_true rfl | (simp only [Jd, Je, Jr, Js, Jt, Nat.reduceAdd, allOne, oneCell, Bool.and_self, Jc]; first | done | omega)) only [abin_snil, Option.isNone_some, bs220, ↓Qa, ↓Qb, ↓Qc, Qd, Qe, Qf, Qg, Qh, Qi, Qj, Qk, Ql, Qm, Qn, Qo, Qp, Qq, Qr, Qs, Qt, Qu, Qv, Qw, Qx, Qy, ptrTo, Qz, QA, QB, QC, QD, QE, QF, QG, QH, QI, QJ, QK, QL, QM, QN, QO, QP, QQ, QR, QS, QT, QU, QV, QW, QX, QY, QZ, Ja, Jb, Jc, Jd, Je, Jf, Jg, Jh, Ji, Jj, Jk, Jl, Jm, Jn, Jo, Jp, Jq, Jr, Js, Jt, Nat.reduceAdd]
    have g1 := Mem.gt_push m ⟨1, [], none⟩
    have hx : IN (m.push ⟨1, [], none⟩) (.slice (some q) l.length c) l := hv.mono g1
    have h1 : Sl 1 (m.push ⟨1, [], none⟩) (.slice (some q) l.length c) l.length ((ci l).map (Value.int .i64)) := by
      have := hx; unfold IN IL at this; rwa [ci_length] at this
    cases hl0 : l.length with
    | zero =>
      have h0 : l = [] := List.length_eq_zero_iff.1 hl0
      subst h0
      have hap : aappend Try.prog L (m.push ⟨1, [], none⟩) 22 (slTo 0 m.next) (.slice (some q) 0 c) = some (slTo 0 m.next, m.push ⟨1, [], none⟩) := by
        unfold aappend slTo
        rw [ael22]
        have := h1.1
        simp only [List.length_nil] at this
        simp only [this, natK_eq]
      rw [hap, oRes_e]
      refine hk _ _ g1 ⟨rfl, .inr ⟨_, _, _, _, rfl⟩⟩ (fun c hc => ?_)
      cases hc
      exact ⟨Nat.le_refl _, by rw [Mem.push_next]; omega⟩
    | succ j =>
      have hap : aappend Try.prog L (m.push ⟨1, [], none⟩) 22 (slTo 0 m.next) (.slice (some q) (j + 1) c) = some (slTo l.length ((m.push ⟨1, [], none⟩).put m.next none).next, ((m.push ⟨1, [], none⟩).put m.next none).push ⟨1, (ci l).map (Value.int .i64), none⟩) := by
        have hr := roomy_of (n := l.length) (y := 8) (by omega) (by omega)
        unfold aappend slTo
        rw [ael22]
        rw [hl0] at h1 hr ⊢
        simp only [h1.1, natK_eq]
        have hrd : rdc (m.push ⟨1, [], none⟩) m.next 0 (Nat.mul 0 1) = some [] := rdc_e (s := 1) (Mem.rd_push m ⟨1, [], none⟩) (by decide)
        have hn0 : Nat.add 0 (Nat.succ j) = j + 1 := Nat.zero_add _
        simp only [hn0, hr, hrd, ble_t (show L ≤ m.next from hL), Mem.rd_push, Nat.ble_eq_true_of_le (Nat.le_refl 0), List.nil_append, anew_eq, allOne_map]
        rfl
      rw [hap, oRes_e]
      have hnx : ((m.push ⟨1, [], none⟩).put m.next none).next = m.next + 1 := by rw [Mem.put_next', Mem.push_next]
      have hgn : GN m.next (((m.push ⟨1, [], none⟩).put m.next none).push ⟨1, (ci l).map (Value.int .i64), none⟩) (slTo l.length ((m.push ⟨1, [], none⟩).put m.next none).next) l := by
        refine .inr ⟨_, ?_, ?_, Mem.rd_push _ _, ?_, ?_⟩
        · rw [hnx]; omega
        · rw [ci_length]; rfl
        · simp [ci]
        · rw [ci_length]; omega
      exact hk _ _ ((Mem.put_gt g1 none (Nat.le_refl _)).trans (Mem.gt_push _ _)) hgn.inn (Gs.bid_lt hgn)
theorem missing_sp {v u : Value} {a b : List Nat} (hlf : 1000000 ≤ lf) (hv : IN m v a) (hu : IN m u b) (hl : a.length < 1000000) (hl2 : b.length < 1000000)
    (hk : k (.int .i64 (misI a b)) m = some ()) : runT (tab lf) (n + 3) 68 [v, u] L m k = some () := by
  rw [r68]; dsimp only [S68, iofNat, inegSucc]
  try simp (disch := first | omega | with_unfolding_all exact id rfl | with_unfolding_all exact Nat.le_of_ble_eq_true rfl | (simp only [Jd, Je, Jr, Js, Jt, Nat.reduceAdd, allOne, oneCell, Bool.and_self, Jc]; first | done | omega)) only [hv.ln, ↓Qa, ↓Qb, ↓Qc, Qd, Qe, Qf, Qg, Qh, Qi, Qj, Qk, Ql, Qm, Qn, Qo, Qp, Qq, Qr, Qs, Qt, Qu, Qv, Qw, Qx, Qy, ptrTo, Qz, QA, QB, QC, QD, QE, QF, QG, QH, QI, QJ, QK, QL, QM, QN, QO, QP, QQ, QR, QS, QT, QU, QV, QW, QX, QY, QZ, Ja, Jb, Jc, Jd, Je, Jf, Jg, Jh, Ji, Jj, Jk, Jl, Jm, Jn, Jo, Jp, Jq, Jr, Js, Jt, Nat.reduceAdd]
  refine loop_up a.length (fun i vs m' => vs = [.int .i64 (i : Int)] ∧ m' = m ∧ less a b = less (a.drop i) b) (by omega) ⟨rfl, rfl, rfl⟩ ?_
  rintro i vs m' hi ⟨rfl, rfl, hI⟩ self hself
  try simp (disch := first | omega | with_unfolding_all exact id rfl | with_unfolding_all exact Nat.le_of_ble_eq_true rfl | (simp only [Jd, Je, Jr, Js, Jt, Nat.reduceAdd, allOne, oneCell, Bool.and_self, Jc]; first | done | omega)) only [↓Qa, ↓Qb, ↓Qc, Qd, Qe, Qf, Qg, Qh, Qi, Qj, Qk, Ql, Qm, Qn, Qo, Qp, Qq, Qr, Qs, Qt, Qu, Qv, Qw, Qx, Qy, ptrTo, Qz, QA, QB, QC, QD, QE, QF, QG, QH, QI, QJ, QK, QL, QM, QN, QO, QP, QQ, QR, QS, QT, QU, QV, QW, QX, QY, QZ, Ja, Jb, Jc, Jd, Je, Jf, Jg, Jh, Ji, Jj, Jk, Jl, Jm, Jn, Jo, Jp, Jq, Jr, Js, Jt, Nat.reduceAdd]
  refine oIf_dec (fun h => ?_) (fun h => ?_)
  · have hil : i < a.length := by omega
    rw [hv.ia hil, oOpt_e, hv.ld hil, oOpt_e]
    refine contains_sp hlf hu hl2 ?_
    rw [List.drop_eq_getElem_cons hil] at hI
    by_cases hb : a[i] ∈ b
    · try simp (disch := first | omega | with_unfolding_all exact id rfl | with_unfolding_all exact Nat.le_of_ble_eq_true rfl | (simp only [Jd, Je, Jr, Js, Jt, Nat.reduceAdd, allOne, oneCell, Bool.and_self, Jc]; first | done | omega)) only [decide_eq_true hb, ↓Qa, ↓Qb, ↓Qc, Qd, Qe, Qf, Qg, Qh, Qi, Qj, Qk, Ql, Qm, Qn, Qo, Qp, Qq, Qr, Qs, Qt, Qu, Qv, Qw, Qx, Qy, ptrTo, Qz, QA, QB, QC, QD, QE, QF, QG, QH, QI, QJ, QK, QL, QM, QN, QO, QP, QQ, QR, QS, QT, QU, QV, QW, QX, QY, QZ, Ja, Jb, Jc, Jd, Je, Jf, Jg, Jh, Ji, Jj, Jk, Jl, Jm, Jn, Jo, Jp, Jq, Jr, Js, Jt, Nat.reduceAdd]
      rw [oInt_add ⟨by omega, by omega⟩]
      refine hself hil _ _ ⟨rfl, rfl, ?_⟩
      rw [hI]; unfold less
      rw [List.filter_cons_of_neg (by simp [hb])]
    · try simp (disch := first | omega | with_unfolding_all exact id rfl | with_unfolding_all exact Nat.le_of_ble_eq_true rfl | (simp only [Jd, Je, Jr, Js, Jt, Nat.reduceAdd, allOne, oneCell, Bool.and_self, Jc]; first | done | omega)) only [decide_eq_false hb, ↓Qa, ↓Qb, ↓Qc, Qd, Qe, Qf, Qg, Qh, Qi, Qj, Qk, Ql, Qm, Qn, Qo, Qp, Qq, Qr, Qs, Qt, Qu, Qv, Qw, Qx, Qy, ptrTo, Qz, QA, QB, QC, QD, QE, QF, QG, QH, QI, QJ, QK, QL, QM, QN, QO, QP, QQ, QR, QS, QT, QU, QV, QW, QX, QY, QZ, Ja, Jb, Jc, Jd, Je, Jf, Jg, Jh, Ji, Jj, Jk, Jl, Jm, Jn, Jo, Jp, Jq, Jr, Js, Jt, Nat.reduceAdd]
      have : misI a b = (a[i] : Int) := by
        unfold misI
        rw [hI]; unfold less
        rw [List.filter_cons_of_pos (by simp [hb])]
        rfl
      rw [this] at hk
      exact hk
  · have : i = a.length := by omega
    subst this
    rw [List.drop_eq_nil_of_le (Nat.le_refl _)] at hI
    have : misI a b = -1 := by unfold misI; rw [hI]; rfl
    rw [this] at hk
    exact hk
theorem apart_sp {v u : Value} {a b : List Nat} (hlf : 1000000 ≤ lf) (hv : IN m v a) (hu : IN m u b) (hl : a.length < 1000000) (hl2 : b.length < 1000000)
    (hk : k (.int .i64 (awayN a b : Int)) m = some ()) : runT (tab lf) (n + 3) 47 [v, u] L m k = some () := by
  rw [r47]
  have h := away_sp (L := L) (n := n) hlf hv hu hl hl2 hk
  rw [r71] at h
  exact h
theorem out1_sp {v : Value} {l : List Nat} (hv : IN m v l) (hk : k (.int .i64 (hdI l)) m = some ()) : runT (tab lf) (n + 1) 50 [v] L m k = some () := by
  rw [r50]; dsimp only [S50, iofNat, inegSucc]
  try simp (disch := first | omega | with_unfolding_all exact id rfl | with_unfolding_all exact Nat.le_of_ble_eq_true rfl | (simp only [Jd, Je, Jr, Js, Jt, Nat.reduceAdd, allOne, oneCell, Bool.and_self, Jc]; first | done | omega)) only [hv.ln, ↓Qa, ↓Qb, ↓Qc, Qd, Qe, Qf, Qg, Qh, Qi, Qj, Qk, Ql, Qm, Qn, Qo, Qp, Qq, Qr, Qs, Qt, Qu, Qv, Qw, Qx, Qy, ptrTo, Qz, QA, QB, QC, QD, QE, QF, QG, QH, QI, QJ, QK, QL, QM, QN, QO, QP, QQ, QR, QS, QT, QU, QV, QW, QX, QY, QZ, Ja, Jb, Jc, Jd, Je, Jf, Jg, Jh, Ji, Jj, Jk, Jl, Jm, Jn, Jo, Jp, Jq, Jr, Js, Jt, Nat.reduceAdd]
  cases l with
  | nil =>
    try simp (disch := first | omega | with_unfolding_all exact id rfl | with_unfolding_all exact Nat.le_of_ble_eq_true rfl | (simp only [Jd, Je, Jr, Js, Jt, Nat.reduceAdd, allOne, oneCell, Bool.and_self, Jc]; first | done | omega)) only [↓Qa, ↓Qb, ↓Qc, Qd, Qe, Qf, Qg, Qh, Qi, Qj, Qk, Ql, Qm, Qn, Qo, Qp, Qq, Qr, Qs, Qt, Qu, Qv, Qw, Qx, Qy, ptrTo, Qz, QA, QB, QC, QD, QE, QF, QG, QH, QI, QJ, QK, QL, QM, QN, QO, QP, QQ, QR, QS, QT, QU, QV, QW, QX, QY, QZ, Ja, Jb, Jc, Jd, Je, Jf, Jg, Jh, Ji, Jj, Jk, Jl, Jm, Jn, Jo, Jp, Jq, Jr, Js, Jt, Nat.reduceAdd]
    exact hk
  | cons x l =>
    have h0 : ¬ (((l.length + 1 : Nat) : Int) = 0) := by omega
    have h1 : ia 1 v (.int .i64 0) = some (ep 1 v 0) := hv.ia (i := 0) (by simp)
    have h2 := hv.ld (i := 0) (by simp)
    try simp (disch := first | omega | with_unfolding_all exact id rfl | with_unfolding_all exact Nat.le_of_ble_eq_true rfl | (simp only [Jd, Je, Jr, Js, Jt, Nat.reduceAdd, allOne, oneCell, Bool.and_self, Jc]; first | done | omega)) only [decide_eq_false h0, h1, h2, ↓Qa, ↓Qb, ↓Qc, Qd, Qe, Qf, Qg, Qh, Qi, Qj, Qk, Ql, Qm, Qn, Qo, Qp, Qq, Qr, Qs, Qt, Qu, Qv, Qw, Qx, Qy, ptrTo, Qz, QA, QB, QC, QD, QE, QF, QG, QH, QI, QJ, QK, QL, QM, QN, QO, QP, QQ, QR, QS, QT, QU, QV, QW, QX, QY, QZ, Ja, Jb, Jc, Jd, Je, Jf, Jg, Jh, Ji, Jj, Jk, Jl, Jm, Jn, Jo, Jp, Jq, Jr, Js, Jt, Nat.reduceAdd]
    exact hk
theorem valid_sp {v : Value} {l : List Nat} {N kk : Nat} (hlf : 1000000 ≤ lf) (hv : IN m v l) (hb : Bl N kk l) (hN : N ≤ 10) (hk : k (.bool true) m = some ()) : runT (tab lf) (n + 1) 46 [v, .int .i64 (N : Int), .int .i64 (kk : Int)] L m k = some () := by
  have hkk := hb.le
  have hlen := hb.len
  rw [r46]; dsimp only [S46, iofNat, inegSucc]
  try simp (disch := first | omega | with_unfolding_all exact id rfl | with_unfolding_all exact Nat.le_of_ble_eq_true rfl | (simp only [Jd, Je, Jr, Js, Jt, Nat.reduceAdd, allOne, oneCell, Bool.and_self, Jc]; first | done | omega)) only [hv.ln, ↓Qa, ↓Qb, Qd, Qe, Qf, Qg, Qh, Qi, Qj, Qk, Ql, Qm, Qn, Qo, Qp, Qq, Qr, Qs, Qt, Qu, Qv, Qw, Qx, Qy, ptrTo, Qz, QA, QB, QC, QD, QE, QF, QG, QH, QI, QJ, QK, QL, QM, QN, QO, QP, QQ, QR, QS, QT, QU, QV, QW, QX, QY, QZ, Ja, Jb, Jc, Jd, Je, Jf, Jg, Jh, Ji, Jj, Jk, Jl, Jm, Jn, Jo, Jp, Jq, Jr, Js, Jt, Nat.reduceAdd]
  refine loop_up l.length (fun i vs m' => vs = [.int .i64 (i : Int)] ∧ m' = m) (by omega) ⟨rfl, rfl⟩ ?_
  rintro i vs m' hi ⟨rfl, rfl⟩ self hself
  try simp (disch := first | omega | with_unfolding_all exact id rfl | with_unfolding_all exact Nat.le_of_ble_eq_true rfl | (simp only [Jd, Je, Jr, Js, Jt, Nat.reduceAdd, allOne, oneCell, Bool.and_self, Jc]; first | done | omega)) only [↓Qa, ↓Qb, Qd, Qe, Qf, Qg, Qh, Qi, Qj, Qk, Ql, Qm, Qn, Qo, Qp, Qq, Qr, Qs, Qt, Qu, Qv, Qw, Qx, Qy, ptrTo, Qz, QA, QB, QC, QD, QE, QF, QG, QH, QI, QJ, QK, QL, QM, QN, QO, QP, QQ, QR, QS, QT, QU, QV, QW, QX, QY, QZ, Ja, Jb, Jc, Jd, Je, Jf, Jg, Jh, Ji, Jj, Jk, Jl, Jm, Jn, Jo, Jp, Jq, Jr, Js, Jt, Nat.reduceAdd]
  refine oIf_dec (fun h => ?_) (fun h => ?_)
  · have hil : i < l.length := by omega
    have hx := hb.lt _ (List.getElem_mem hil)
    have f1 : decide ((l[i] : Int) < 0) = false := decide_eq_false (by omega)
    have f2 : decide ((N : Int) ≤ (l[i] : Int)) = false := decide_eq_false (by omega)
    try simp (disch := first | omega | with_unfolding_all exact id rfl | with_unfolding_all exact Nat.le_of_ble_eq_true rfl | (simp only [Jd, Je, Jr, Js, Jt, Nat.reduceAdd, allOne, oneCell, Bool.and_self, Jc]; first | done | omega)) only [hv.ia hil, hv.ld hil, f1, f2, ↓Qa, ↓Qb, Qd, Qe, Qf, Qg, Qh, Qi, Qj, Qk, Ql, Qm, Qn, Qo, Qp, Qq, Qr, Qs, Qt, Qu, Qv, Qw, Qx, Qy, ptrTo, Qz, QA, QB, QC, QD, QE, QF, QG, QH, QI, QJ, QK, QL, QM, QN, QO, QP, QQ, QR, QS, QT, QU, QV, QW, QX, QY, QZ, Ja, Jb, Jc, Jd, Je, Jf, Jg, Jh, Ji, Jj, Jk, Jl, Jm, Jn, Jo, Jp, Jq, Jr, Js, Jt, Nat.reduceAdd]
    rw [join_e]
    try simp (disch := first | omega | with_unfolding_all exact id rfl | with_unfolding_all exact Nat.le_of_ble_eq_true rfl | (simp only [Jd, Je, Jr, Js, Jt, Nat.reduceAdd, allOne, oneCell, Bool.and_self, Jc]; first | done | omega)) only [f1, f2, ↓Qa, ↓Qb, Qd, Qe, Qf, Qg, Qh, Qi, Qj, Qk, Ql, Qm, Qn, Qo, Qp, Qq, Qr, Qs, Qt, Qu, Qv, Qw, Qx, Qy, ptrTo, Qz, QA, QB, QC, QD, QE, QF, QG, QH, QI, QJ, QK, QL, QM, QN, QO, QP, QQ, QR, QS, QT, QU, QV, QW, QX, QY, QZ, Ja, Jb, Jc, Jd, Je, Jf, Jg, Jh, Ji, Jj, Jk, Jl, Jm, Jn, Jo, Jp, Jq, Jr, Js, Jt, Nat.reduceAdd]
    rw [join_e]
    by_cases h0 : i = 0
    · subst h0
      have f3 : decide ((0 : Int) < ((0 : Nat) : Int)) = false := by decide
      try simp (disch := first | omega | with_unfolding_all exact id rfl | with_unfolding_all exact Nat.le_of_ble_eq_true rfl | (simp only [Jd, Je, Jr, Js, Jt, Nat.reduceAdd, allOne, oneCell, Bool.and_self, Jc]; first | done | omega)) only [f3, ↓Qa, ↓Qb, Qd, Qe, Qf, Qg, Qh, Qi, Qj, Qk, Ql, Qm, Qn, Qo, Qp, Qq, Qr, Qs, Qt, Qu, Qv, Qw, Qx, Qy, ptrTo, Qz, QA, QB, QC, QD, QE, QF, QG, QH, QI, QJ, QK, QL, QM, QN, QO, QP, QQ, QR, QS, QT, QU, QV, QW, QX, QY, QZ, Ja, Jb, Jc, Jd, Je, Jf, Jg, Jh, Ji, Jj, Jk, Jl, Jm, Jn, Jo, Jp, Jq, Jr, Js, Jt, Nat.reduceAdd]
      repeat (rw [join_e]; try simp (disch := first | omega | with_unfolding_all exact id rfl | with_unfolding_all exact Nat.le_of_ble_eq_true rfl | (simp only [Jd, Je, Jr, Js, Jt, Nat.reduceAdd, allOne, oneCell, Bool.and_self, Jc]; first | done | omega)) only [f3, ↓Qa, ↓Qb, Qd, Qe, Qf, Qg, Qh, Qi, Qj, Qk, Ql, Qm, Qn, Qo, Qp, Qq, Qr, Qs, Qt, Qu, Qv, Qw, Qx, Qy, ptrTo, Qz, QA, QB, QC, QD, QE, QF, QG, QH, QI, QJ, QK, QL, QM, QN, QO, QP, QQ, QR, QS, QT, QU, QV, QW, QX, QY, QZ, Ja, Jb, Jc, Jd, Je, Jf, Jg, Jh, Ji, Jj, Jk, Jl, Jm, Jn, Jo, Jp, Jq, Jr, Js, Jt, Nat.reduceAdd])
      exact hself hil _ _ ⟨rfl, rfl⟩
    · have f3 : decide ((0 : Int) < (i : Int)) = true := decide_eq_true (by omega)
      have hi1 : i - 1 < l.length := by omega
      have hlt : l[i - 1] < l[i] := List.pairwise_iff_getElem.1 hb.asc (i - 1) i hi1 hil (by omega)
      have f4 : decide ((l[i] : Int) ≤ (l[i - 1] : Int)) = false := decide_eq_false (by omega)
      have f5 : ∀ K : Value → Option Unit, oInt .sub .i64 (.int .i64 (i : Int)) (.int .i64 1) K = K (.int .i64 ((i - 1 : Nat) : Int)) := fun K => by rw [oInt_sub ⟨by omega, by omega⟩, show (i : Int) - 1 = ((i - 1 : Nat) : Int) by omega]
      have f6 : ∀ K : Value → Option Unit, oInt .add .i64 (.int .i64 (i : Int)) (.int .i64 1) K = K (.int .i64 ((i + 1 : Nat) : Int)) := fun K => by rw [oInt_add ⟨by omega, by omega⟩]; rfl
      try simp (disch := first | omega | with_unfolding_all exact id rfl | with_unfolding_all exact Nat.le_of_ble_eq_true rfl | (simp only [Jd, Je, Jr, Js, Jt, Nat.reduceAdd, allOne, oneCell, Bool.and_self, Jc]; first | done | omega)) only [f3, f5, hv.ia hi1, hv.ld hi1, f4, f6, ↓Qa, ↓Qb, Qd, Qe, Qf, Qg, Qh, Qi, Qj, Qk, Ql, Qm, Qn, Qo, Qp, Qq, Qr, Qs, Qt, Qu, Qv, Qw, Qx, Qy, ptrTo, Qz, QA, QB, QC, QD, QE, QF, QG, QH, QI, QJ, QK, QL, QM, QN, QO, QP, QQ, QR, QS, QT, QU, QV, QW, QX, QY, QZ, Ja, Jb, Jc, Jd, Je, Jf, Jg, Jh, Ji, Jj, Jk, Jl, Jm, Jn, Jo, Jp, Jq, Jr, Js, Jt, Nat.reduceAdd]
      repeat (rw [join_e]; try simp (disch := first | omega | with_unfolding_all exact id rfl | with_unfolding_all exact Nat.le_of_ble_eq_true rfl | (simp only [Jd, Je, Jr, Js, Jt, Nat.reduceAdd, allOne, oneCell, Bool.and_self, Jc]; first | done | omega)) only [f3, f5, hv.ia hi1, hv.ld hi1, f4, f6, ↓Qa, ↓Qb, Qd, Qe, Qf, Qg, Qh, Qi, Qj, Qk, Ql, Qm, Qn, Qo, Qp, Qq, Qr, Qs, Qt, Qu, Qv, Qw, Qx, Qy, ptrTo, Qz, QA, QB, QC, QD, QE, QF, QG, QH, QI, QJ, QK, QL, QM, QN, QO, QP, QQ, QR, QS, QT, QU, QV, QW, QX, QY, QZ, Ja, Jb, Jc, Jd, Je, Jf, Jg, Jh, Ji, Jj, Jk, Jl, Jm, Jn, Jo, Jp, Jq, Jr, Js, Jt, Nat.reduceAdd])
      exact hself hil _ _ ⟨rfl, rfl⟩
  · try simp (disch := first | omega | with_unfolding_all exact id rfl | with_unfolding_all exact Nat.le_of_ble_eq_true rfl | (simp only [Jd, Je, Jr, Js, Jt, Nat.reduceAdd, allOne, oneCell, Bool.and_self, Jc]; first | done | omega)) only [hlen, ↓Qa, ↓Qb, Qd, Qe, Qf, Qg, Qh, Qi, Qj, Qk, Ql, Qm, Qn, Qo, Qp, Qq, Qr, Qs, Qt, Qu, Qv, Qw, Qx, Qy, ptrTo, Qz, QA, QB, QC, QD, QE, QF, QG, QH, QI, QJ, QK, QL, QM, QN, QO, QP, QQ, QR, QS, QT, QU, QV, QW, QX, QY, QZ, Ja, Jb, Jc, Jd, Je, Jf, Jg, Jh, Ji, Jj, Jk, Jl, Jm, Jn, Jo, Jp, Jq, Jr, Js, Jt, Nat.reduceAdd]
    exact hk
end
end Go.Vit
