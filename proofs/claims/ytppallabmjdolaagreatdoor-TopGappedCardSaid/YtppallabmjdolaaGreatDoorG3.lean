/- Walks: a wound wrapper, and its gaps. -/
import Derived.Test.YtppallabmjdolaaGreatDoorG2
set_option linter.unusedSimpArgs false
set_option linter.unusedVariables false
set_option maxRecDepth 20000
namespace Go.Vit
open Go Go.Proofs
attribute [local irreducible] runT loopS
theorem ci_app (a b : List Nat) : ci (a ++ b) = ci a ++ ci b := by unfold ci; rw [List.map_append]
/-- The turns beside turn 0, after one turn more. -/
def moreN (M S t a b : Nat) : Nat × Nat := if t = 1 then (1, 1) else if t * S % M < a * S % M then (t, b) else if b * S % M < t * S % M then (a, t) else (a, b)
def nearN (M S : Nat) : Nat → Nat × Nat
  | 0 => (0, 0)
  | 1 => (0, 0)
  | t + 2 => moreN M S (t + 1) (nearN M S (t + 1)).1 (nearN M S (t + 1)).2
theorem moreN_le {M S t a b : Nat} (h1 : 1 ≤ t) (ha : a ≤ t) (hb : b ≤ t) : (moreN M S t a b).1 ≤ t ∧ (moreN M S t a b).2 ≤ t := by
  unfold moreN
  split
  · exact ⟨h1, h1⟩
  · split
    · exact ⟨Nat.le_refl _, hb⟩
    · split
      · exact ⟨ha, Nat.le_refl _⟩
      · exact ⟨ha, hb⟩
theorem nearN_le {M S : Nat} : ∀ t, (nearN M S t).1 ≤ t ∧ (nearN M S t).2 ≤ t
  | 0 => ⟨Nat.le_refl _, Nat.le_refl _⟩
  | 1 => ⟨Nat.zero_le _, Nat.zero_le _⟩
  | t + 2 => by
    have ih := nearN_le (M := M) (S := S) (t + 1)
    have := moreN_le (M := M) (S := S) (t := t + 1) (by omega) ih.1 ih.2
    show (moreN M S (t + 1) _ _).1 ≤ _ ∧ (moreN M S (t + 1) _ _).2 ≤ _
    omega
def nextN (T a b q : Nat) : Nat := if q + a < T then q + a else if q < b then q + a - b else q - b
def gapN (M S T a b q : Nat) : Nat := let d := (nextN T a b q * S % M + M - q * S % M) % M; if d = 0 then M else d
def kN (T a b : Nat) : Nat → Nat
  | 0 => 0
  | i + 1 => nextN T a b (kN T a b i)
def okK (T a b q : Nat) : Bool := decide (q < T) && (decide (q + a < T) || decide (b ≤ q + a))
def wdC (M S t a b : Nat) : List Value := [.int .i64 (M : Int), .int .i64 (S : Int), .int .i64 (t : Int), .int .i64 (a : Int), .int .i64 (b : Int)]
theorem bu79 : bu Tryz.prog 79 [(0, .int .i64 1), (1, .int .i64 1)] = some (.agg ⟨[.int .i64 1, .int .i64 1]⟩) := by kernel_rfl
theorem bu57 (x y z : Int) : bu Tryz.prog 57 [(0, .int .i64 x), (1, .int .i64 y), (2, .int .i64 z)] = some (.agg ⟨[.int .i64 x, .int .i64 y, .int .i64 z]⟩) := by kernel_rfl
theorem bu57a (x : Int) : bu Tryz.prog 57 [(0, .int .i64 x)] = some (.agg ⟨[.int .i64 x, .int .i64 0, .int .i64 0]⟩) := by kernel_rfl
theorem bu179 (x y z : Int) : bu Tryz.prog 179 [(0, .agg ⟨[.int .i64 x, .int .i64 y, .int .i64 z]⟩)] = some (.agg ⟨[.int .i64 x, .int .i64 y, .int .i64 z, .int .i64 0, .int .i64 0]⟩) := by kernel_rfl
section
variable {lf n L : Nat} {m : Mem} {k : Value → Mem → Option Unit}
theorem more_sp {w M S t a b : Nat} (hM : 0 < M) (hM6 : M ≤ 60) (hS : S < M) (h1 : 1 ≤ t) (ht : t < 100) (ha : a ≤ t) (hb : b ≤ t) (hL : L ≤ w) (hw : m.rd w = some ⟨1, wdC M S t a b, none⟩)
    (hk : ∀ m', GtX (fun c => c = w) m m' → m'.rd w = some ⟨1, wdC M S (t + 1) (moreN M S t a b).1 (moreN M S t a b).2, none⟩ → k (.tuple ⟨[]⟩) m' = some ()) :
    runT (tab lf) (n + 2) 174 [.pointer (some ⟨w, 0, none⟩)] L m k = some () := by
  rw [r174]; dsimp only [S174, iofNat, inegSucc]
  have hlt := Mem.rd_lt hw
  have han : ∀ a : Addr, anil (.pointer (some a)) = some (.pointer (some a)) := fun _ => rfl
  have c2 : (wdC M S t a b)[0 + 0 + 2]? = some (.int .i64 (t : Int)) := rfl
  have c2' : (wdC M S t a b)[0 + 2]? = some (.int .i64 (t : Int)) := rfl
  have hadd : ∀ K : Value → Option Unit, oInt .add .i64 (.int .i64 (t : Int)) (.int .i64 1) K = K (.int .i64 ((t + 1 : Nat) : Int)) := fun K => by rw [oInt_add ⟨by omega, by omega⟩]; rfl
  have hs : stw 1 L m w (0 + 2) [.int .i64 ((t + 1 : Nat) : Int)] (some ⟨1, wdC M S t a b, none⟩) = some (Go.undef, m.put w (some ⟨1, wdC M S (t + 1) a b, none⟩)) := stw_e hL rfl (by show 2 + 1 ≤ 5; omega) rfl
  try simp (disch := first | omega | with_unfolding_all exact id rfl | with_unfolding_all exact Nat.le_of_ble_eq_true rfl | (simp only [Jd, Je, Jr, Js, Jt, Nat.reduceAdd, allOne, oneCell, Bool.and_self, Jc]; first | done | omega)) only [han, hw, c2, c2', hadd, hs, ↓Qa, ↓Qb, Qd, Qe, Qf, Qg, Qh, Qi, Qj, Qk, Ql, Qm, Qn, Qo, Qp, Qq, Qr, Qs, Qt, Qu, Qv, Qw, Qx, Qy, ptrTo, Qz, QA, QB, QC, QD, QE, QF, QG, QH, QI, QJ, QK, QL, QM, QN, QO, QP, QQ, QR, QS, QT, QU, QV, QW, QX, QY, QZ, Ja, Jb, Jc, Jd, Je, Jf, Jg, Jh, Ji, Jj, Jk, Jl, Jm, Jn, Jo, Jp, Jq, Jr, Js, Jt, Nat.reduceAdd]
  have htk : ∀ a b : Nat, (Value.agg ⟨List.take 3 (wdC M S (t + 1) a b)⟩) = wrV M S (t + 1) := fun a b => rfl
  have hrdn : ∀ a b : Nat, rdn (some ⟨1, wdC M S (t + 1) a b, none⟩) 0 3 = some (wrV M S (t + 1)) := fun a b => by kernel_rfl
  have g1 : GtX (fun c => c = w) m (m.put w (some ⟨1, wdC M S (t + 1) a b, none⟩)) := GtX.put (X := fun c => c = w) (GtX.refl m) (b := w) rfl _
  have q1 : (m.put w (some ⟨1, wdC M S (t + 1) a b, none⟩)).rd w = some ⟨1, wdC M S (t + 1) a b, none⟩ := Mem.rd_put_eq _ _ hlt
  generalize m.put w (some ⟨1, wdC M S (t + 1) a b, none⟩) = m1 at g1 q1 ⊢
  have hlt1 := Mem.rd_lt q1
  have ia0 : iaA 2 1 (.pointer (some ⟨w, 3, none⟩)) (.int .i64 0) = some (.pointer (some ⟨w, 3, none⟩)) := rfl
  have ia1 : iaA 2 1 (.pointer (some ⟨w, 3, none⟩)) (.int .i64 1) = some (.pointer (some ⟨w, 4, none⟩)) := rfl
  refine oIf_dec (fun h => ?_) (fun h => ?_)
  · have h' : t = 1 := by omega
    rw [bu79, oOpt_e]
    have hs2 : stw 2 L m1 w 3 (Value.agg ⟨[.int .i64 1, .int .i64 1]⟩).cells.toList (some ⟨1, wdC M S (t + 1) a b, none⟩) = some (Go.undef, m1.put w (some ⟨1, wdC M S (t + 1) 1 1, none⟩)) := stw_e hL rfl (by show 3 + 2 ≤ 5; omega) rfl
    rw [hs2, oRes_e]
    refine hk _ (g1.put rfl _) ?_
    have hm : moreN M S t a b = (1, 1) := by unfold moreN; rw [if_pos h']
    rw [hm]
    exact Mem.rd_put_eq _ _ hlt1
  · have h' : ¬ t = 1 := by omega
    rw [htk]
    refine mark_sp hM hM6 hS (by omega) fun m2 e2 => ?_
    have q2 := (e2.kept w hlt1).trans q1
    have l0 : ld1 m2 (.pointer (some ⟨w, 3, none⟩)) = some (.int .i64 (a : Int)) := by rw [ld1_u, q2]; rfl
    rw [q2, hrdn, oOpt_e, ia0, oOpt_e, l0, oOpt_e]
    refine mark_sp hM hM6 hS (by omega) fun m3 e3 => ?_
    have q3 := (e3.kept w (Mem.rd_lt q2)).trans q2
    have g3 := (g1.trans (GtX.of e2)).trans (GtX.of e3)
    have l1 : ld1 m3 (.pointer (some ⟨w, 4, none⟩)) = some (.int .i64 (b : Int)) := by rw [ld1_u, q3]; rfl
    rw [oInt_lss, join_e]
    refine oIf_dec (fun h2 => ?_) (fun h2 => ?_)
    · have h2' : t * S % M < a * S % M := by omega
      rw [oOpt_e, st_int q3 (by show 3 < 5; omega) hL, oRes_e]
      refine hk _ (g3.put rfl _) ?_
      have hm : moreN M S t a b = (t, b) := by unfold moreN; rw [if_neg h', if_pos h2']
      rw [hm]
      exact Mem.rd_put_eq _ _ (Mem.rd_lt q3)
    · have h2' : ¬ t * S % M < a * S % M := by omega
      rw [q3, hrdn, oOpt_e, ia1, oOpt_e, l1, oOpt_e]
      refine mark_sp hM hM6 hS (by omega) fun m4 e4 => ?_
      have q4 := (e4.kept w (Mem.rd_lt q3)).trans q3
      have g4 := g3.trans (GtX.of e4)
      rw [oInt_gtr, join_e]
      refine oIf_dec (fun h3 => ?_) (fun h3 => ?_)
      · have h3' : b * S % M < t * S % M := by omega
        rw [oOpt_e, st_int q4 (by show 4 < 5; omega) hL, oRes_e]
        refine hk _ (g4.put rfl _) ?_
        have hm : moreN M S t a b = (a, t) := by unfold moreN; rw [if_neg h', if_neg h2', if_pos h3']
        rw [hm]
        exact Mem.rd_put_eq _ _ (Mem.rd_lt q4)
      · have h3' : ¬ b * S % M < t * S % M := by omega
        refine hk _ g4 ?_
        have hm : moreN M S t a b = (a, b) := by unfold moreN; rw [if_neg h', if_neg h2', if_neg h3']
        rw [hm]
        exact q4
theorem wopened_sp {M S T : Nat} (hlf : 1000000 ≤ lf) (hL : L ≤ m.next) (hM : 0 < M) (hM6 : M ≤ 60) (hS : S < M) (h1 : 1 ≤ T) (h7 : T ≤ 7) (hT : T ≤ M / Nat.gcd M S)
    (hk : ∀ w m', Gt m m' → m.next ≤ w → m'.rd w = some ⟨1, wdC M S T (nearN M S T).1 (nearN M S T).2, none⟩ → k (.tuple ⟨[.pointer (some ⟨w, 0, none⟩), .int .i64 0]⟩) m' = some ()) :
    runT (tab lf) (n + 4) 134 [wrV M S T] L m k = some () := by
  rw [r134]; dsimp only [S134, iofNat, inegSucc]
  rw [uc_e, un0_e, box_wr, oRes_e]
  have e1 := Mem.gt_push m ⟨1, wrC M S T, none⟩
  have q1 := Mem.rd_push m ⟨1, wrC M S T, none⟩
  have n1 : (m.push ⟨1, wrC M S T, none⟩).next = m.next + 1 := Mem.push_next _ _
  generalize m.push ⟨1, wrC M S T, none⟩ = m1 at e1 q1 n1 ⊢
  have c0 : (wrC M S T)[0]? = some (.int .i64 (M : Int)) := rfl
  have c1 : (wrC M S T)[0 + 1]? = some (.int .i64 (S : Int)) := rfl
  have c2 : (wrC M S T)[0 + 2]? = some (.int .i64 (T : Int)) := rfl
  have hr : rdn (some ⟨1, wrC M S T, none⟩) 0 3 = some (wrV M S T) := by kernel_rfl
  try simp (disch := first | omega | with_unfolding_all exact id rfl | with_unfolding_all exact Nat.le_of_ble_eq_true rfl | (simp only [Jd, Je, Jr, Js, Jt, Nat.reduceAdd, allOne, oneCell, Bool.and_self, Jc]; first | done | omega)) only [q1, hr, ↓Qa, ↓Qb, Qd, Qe, Qf, Qg, Qh, Qi, Qj, Qk, Ql, Qm, Qn, Qo, Qp, Qq, Qr, Qs, Qt, Qu, Qv, Qw, Qx, Qy, ptrTo, Qz, QA, QB, QC, QD, QE, QF, QG, QH, QI, QJ, QK, QL, QM, QN, QO, QP, QQ, QR, QS, QT, QU, QV, QW, QX, QY, QZ, Ja, Jb, Jc, Jd, Je, Jf, Jg, Jh, Ji, Jj, Jk, Jl, Jm, Jn, Jo, Jp, Jq, Jr, Js, Jt, Nat.reduceAdd]
  refine wcheck_sp hlf hM hM6 hS h1 hT fun m2 e2 => ?_
  have n2 := e2.next
  have q2 := (e2.kept m.next (by omega)).trans q1
  have han : ∀ a : Addr, anil (.pointer (some a)) = some (.pointer (some a)) := fun _ => rfl
  try simp (disch := first | omega | with_unfolding_all exact id rfl | with_unfolding_all exact Nat.le_of_ble_eq_true rfl | (simp only [Jd, Je, Jr, Js, Jt, Nat.reduceAdd, allOne, oneCell, Bool.and_self, Jc]; first | done | omega)) only [q2, c0, c1, bu57, bu179, ↓Qa, ↓Qb, Qd, Qe, Qf, Qg, Qh, Qi, Qj, Qk, Ql, Qm, Qn, Qo, Qp, Qq, Qr, Qs, Qt, Qu, Qv, Qw, Qx, Qy, ptrTo, Qz, QA, QB, QC, QD, QE, QF, QG, QH, QI, QJ, QK, QL, QM, QN, QO, QP, QQ, QR, QS, QT, QU, QV, QW, QX, QY, QZ, Ja, Jb, Jc, Jd, Je, Jf, Jg, Jh, Ji, Jj, Jk, Jl, Jm, Jn, Jo, Jp, Jq, Jr, Js, Jt, Nat.reduceAdd]
  have e3 := Mem.gt_push m2 ⟨1, wdC M S 1 0 0, none⟩
  have q3 := Mem.rd_push m2 ⟨1, wdC M S 1 0 0, none⟩
  have n3 : (m2.push ⟨1, wdC M S 1 0 0, none⟩).next = m2.next + 1 := Mem.push_next _ _
  change loopS _ _ _ (m2.push ⟨1, wdC M S 1 0 0, none⟩) = some ()
  generalize m2.push ⟨1, wdC M S 1 0 0, none⟩ = m3 at e3 q3 n3 ⊢
  have q23 := (e3.kept m.next (by omega)).trans q2
  refine loop_up T (fun i vs m' => i < T ∧ vs = [] ∧ GtX (fun c => c = m2.next) m3 m' ∧ m'.rd m2.next = some ⟨1, wdC M S (i + 1) (nearN M S (i + 1)).1 (nearN M S (i + 1)).2, none⟩) (by omega) ⟨by omega, rfl, GtX.refl _, q3⟩ ?_
  rintro i vs m4 hi ⟨hiT, rfl, e4, q4⟩ self hself
  have n4 := e4.next
  have q24 := (e4.kept m.next (by omega) (by omega)).trans q23
  have c2w : ∀ a b : Nat, (wdC M S (i + 1) a b)[0 + 0 + 2]? = some (.int .i64 ((i + 1 : Nat) : Int)) := fun a b => rfl
  have c2w' : ∀ a b : Nat, (wdC M S (i + 1) a b)[2]? = some (.int .i64 ((i + 1 : Nat) : Int)) := fun a b => rfl
  have c22 : (wrC M S T)[2]? = some (.int .i64 (T : Int)) := rfl
  try simp (disch := first | omega | with_unfolding_all exact id rfl | with_unfolding_all exact Nat.le_of_ble_eq_true rfl | (simp only [Jd, Je, Jr, Js, Jt, Nat.reduceAdd, allOne, oneCell, Bool.and_self, Jc]; first | done | omega)) only [han, q4, q24, c2w, c2w', c22, c2, ↓Qa, ↓Qb, Qd, Qe, Qf, Qg, Qh, Qi, Qj, Qk, Ql, Qm, Qn, Qo, Qp, Qq, Qr, Qs, Qt, Qu, Qv, Qw, Qx, Qy, ptrTo, Qz, QA, QB, QC, QD, QE, QF, QG, QH, QI, QJ, QK, QL, QM, QN, QO, QP, QQ, QR, QS, QT, QU, QV, QW, QX, QY, QZ, Ja, Jb, Jc, Jd, Je, Jf, Jg, Jh, Ji, Jj, Jk, Jl, Jm, Jn, Jo, Jp, Jq, Jr, Js, Jt, Nat.reduceAdd]
  have hnl := nearN_le (M := M) (S := S) (i + 1)
  refine oIf_dec (fun h => ?_) (fun h => ?_)
  · refine more_sp hM hM6 hS (by omega) (by omega) hnl.1 hnl.2 (by omega) q4 fun m5 e5 q5 => ?_
    exact hself (by omega) _ _ ⟨by omega, rfl, e4.trans e5, q5⟩
  · have hiT2 : i + 1 = T := by omega
    rw [hiT2] at q4
    exact hk m2.next m4 (GtX.gt ((e1.trans e2).trans e3) e4 fun c hc => by omega) (by omega) q4
theorem next_sp {w M S T a b q : Nat} (hw : m.rd w = some ⟨1, wdC M S T a b, none⟩) (ha : a ≤ 100) (hb : b ≤ 100) (hT : T ≤ 100) (hq : q < 100) (hok : okK T a b q = true)
    (hk : k (.int .i64 (nextN T a b q : Int)) m = some ()) : runT (tab lf) (n + 1) 135 [.pointer (some ⟨w, 0, none⟩), .int .i64 (q : Int)] L m k = some () := by
  rw [r135]; dsimp only [S135, iofNat, inegSucc]
  have han : ∀ a : Addr, anil (.pointer (some a)) = some (.pointer (some a)) := fun _ => rfl
  have ia0 : iaA 2 1 (.pointer (some ⟨w, 0 + 3, none⟩)) (.int .i64 0) = some (.pointer (some ⟨w, 3, none⟩)) := rfl
  have ia1 : iaA 2 1 (.pointer (some ⟨w, 0 + 3, none⟩)) (.int .i64 1) = some (.pointer (some ⟨w, 4, none⟩)) := rfl
  have c2 : (wdC M S T a b)[0 + 0 + 2]? = some (.int .i64 (T : Int)) := rfl
  have c2' : (wdC M S T a b)[2]? = some (.int .i64 (T : Int)) := rfl
  have c3 : (wdC M S T a b)[3]? = some (.int .i64 (a : Int)) := rfl
  have c4 : (wdC M S T a b)[4]? = some (.int .i64 (b : Int)) := rfl
  try simp (disch := first | omega | with_unfolding_all exact id rfl | with_unfolding_all exact Nat.le_of_ble_eq_true rfl | (simp only [Jd, Je, Jr, Js, Jt, Nat.reduceAdd, allOne, oneCell, Bool.and_self, Jc]; first | done | omega)) only [han, hw, ia0, ia1, c2, c2', c3, c4, ↓Qa, ↓Qb, Qd, Qe, Qf, Qg, Qh, Qi, Qj, Qk, Ql, Qm, Qn, Qo, Qp, Qq, Qr, Qs, Qt, Qu, Qv, Qw, Qx, Qy, ptrTo, Qz, QA, QB, QC, QD, QE, QF, QG, QH, QI, QJ, QK, QL, QM, QN, QO, QP, QQ, QR, QS, QT, QU, QV, QW, QX, QY, QZ, Ja, Jb, Jc, Jd, Je, Jf, Jg, Jh, Ji, Jj, Jk, Jl, Jm, Jn, Jo, Jp, Jq, Jr, Js, Jt, Nat.reduceAdd]
  unfold okK at hok
  rw [Bool.and_eq_true, Bool.or_eq_true, decide_eq_true_eq, decide_eq_true_eq, decide_eq_true_eq] at hok
  obtain ⟨hqT, hor⟩ := hok
  unfold nextN at hk
  rw [oInt_sub ⟨by omega, by omega⟩, oInt_lss]
  refine oIf_dec (fun h => ?_) (fun h => ?_)
  · rw [if_pos (by omega)] at hk
    rw [oInt_add ⟨by omega, by omega⟩]
    exact hk
  · rw [if_neg (by omega)] at hk
    refine oIf_dec (fun h2 => ?_) (fun h2 => ?_)
    · rw [if_pos (by omega)] at hk
      rw [oInt_add ⟨by omega, by omega⟩, oInt_sub ⟨by omega, by omega⟩, show (q : Int) + (a : Int) - (b : Int) = ((q + a - b : Nat) : Int) by omega]
      exact hk
    · rw [if_neg (by omega)] at hk
      rw [oInt_sub ⟨by omega, by omega⟩, show (q : Int) - (b : Int) = ((q - b : Nat) : Int) by omega]
      exact hk
theorem nextN_lt {T a b q : Nat} (hok : okK T a b q = true) (ha : a ≤ 7) (hT : T ≤ 7) : nextN T a b q ≤ 14 := by
  unfold okK at hok
  rw [Bool.and_eq_true, decide_eq_true_eq] at hok
  unfold nextN
  split
  · omega
  · split <;> omega
theorem gap_sp {w M S T a b q : Nat} (hM : 0 < M) (hM6 : M ≤ 60) (hS : S < M) (hw : m.rd w = some ⟨1, wdC M S T a b, none⟩) (ha : a ≤ 7) (hb : b ≤ 7) (hT : T ≤ 7) (hok : okK T a b q = true)
    (hk : ∀ m', Gt m m' → k (.int .i64 (gapN M S T a b q : Int)) m' = some ()) : runT (tab lf) (n + 2) 86 [.pointer (some ⟨w, 0, none⟩), .int .i64 (q : Int)] L m k = some () := by
  rw [r86]; dsimp only [S86, iofNat, inegSucc]
  have hlt := Mem.rd_lt hw
  have hq7 : q < 7 := by
    unfold okK at hok
    rw [Bool.and_eq_true, decide_eq_true_eq] at hok
    omega
  have hn := nextN_lt hok ha hT
  have han : ∀ a : Addr, anil (.pointer (some a)) = some (.pointer (some a)) := fun _ => rfl
  have htk : (Value.agg ⟨List.take 3 (wdC M S T a b)⟩) = wrV M S T := rfl
  have hrdn : rdn (some ⟨1, wdC M S T a b, none⟩) 0 3 = some (wrV M S T) := by kernel_rfl
  have c0 : (wdC M S T a b)[0]? = some (.int .i64 (M : Int)) := rfl
  have c0' : (wdC M S T a b)[0 + 0 + 0]? = some (.int .i64 (M : Int)) := rfl
  unfold gapN at hk
  try simp (disch := first | omega | with_unfolding_all exact id rfl | with_unfolding_all exact Nat.le_of_ble_eq_true rfl | (simp only [Jd, Je, Jr, Js, Jt, Nat.reduceAdd, allOne, oneCell, Bool.and_self, Jc]; first | done | omega)) only [han, hw, hrdn, ↓Qa, ↓Qb, Qd, Qe, Qf, Qg, Qh, Qi, Qj, Qk, Ql, Qm, Qn, Qo, Qp, Qq, Qr, Qs, Qt, Qu, Qv, Qw, Qx, Qy, ptrTo, Qz, QA, QB, QC, QD, QE, QF, QG, QH, QI, QJ, QK, QL, QM, QN, QO, QP, QQ, QR, QS, QT, QU, QV, QW, QX, QY, QZ, Ja, Jb, Jc, Jd, Je, Jf, Jg, Jh, Ji, Jj, Jk, Jl, Jm, Jn, Jo, Jp, Jq, Jr, Js, Jt, Nat.reduceAdd]
  refine next_sp hw (by omega) (by omega) (by omega) (by omega) hok ?_
  try rw [htk]
  refine mark_sp hM hM6 hS (by omega) fun m1 e1 => ?_
  have w1 := (e1.kept w hlt).trans hw
  try simp (disch := first | omega | with_unfolding_all exact id rfl | with_unfolding_all exact Nat.le_of_ble_eq_true rfl | (simp only [Jd, Je, Jr, Js, Jt, Nat.reduceAdd, allOne, oneCell, Bool.and_self, Jc]; first | done | omega)) only [han, w1, hrdn, ↓Qa, ↓Qb, Qd, Qe, Qf, Qg, Qh, Qi, Qj, Qk, Ql, Qm, Qn, Qo, Qp, Qq, Qr, Qs, Qt, Qu, Qv, Qw, Qx, Qy, ptrTo, Qz, QA, QB, QC, QD, QE, QF, QG, QH, QI, QJ, QK, QL, QM, QN, QO, QP, QQ, QR, QS, QT, QU, QV, QW, QX, QY, QZ, Ja, Jb, Jc, Jd, Je, Jf, Jg, Jh, Ji, Jj, Jk, Jl, Jm, Jn, Jo, Jp, Jq, Jr, Js, Jt, Nat.reduceAdd]
  try rw [htk]
  refine mark_sp hM hM6 hS (by omega) fun m2 e2 => ?_
  have w2 := (e2.kept w (Mem.rd_lt w1)).trans w1
  have l1 := Nat.mod_lt (nextN T a b q * S) hM
  have l2 := Nat.mod_lt (q * S) hM
  generalize hx : nextN T a b q * S % M = x at hk l1 ⊢
  generalize hy : q * S % M = y at hk l2 ⊢
  try simp (disch := first | omega | with_unfolding_all exact id rfl | with_unfolding_all exact Nat.le_of_ble_eq_true rfl | (simp only [Jd, Je, Jr, Js, Jt, Nat.reduceAdd, allOne, oneCell, Bool.and_self, Jc]; first | done | omega)) only [han, w2, c0, c0', ↓Qa, ↓Qb, Qd, Qe, Qf, Qg, Qh, Qi, Qj, Qk, Ql, Qm, Qn, Qo, Qp, Qq, Qr, Qs, Qt, Qu, Qv, Qw, Qx, Qy, ptrTo, Qz, QA, QB, QC, QD, QE, QF, QG, QH, QI, QJ, QK, QL, QM, QN, QO, QP, QQ, QR, QS, QT, QU, QV, QW, QX, QY, QZ, Ja, Jb, Jc, Jd, Je, Jf, Jg, Jh, Ji, Jj, Jk, Jl, Jm, Jn, Jo, Jp, Jq, Jr, Js, Jt, Nat.reduceAdd]
  rw [oInt_sub ⟨by omega, by omega⟩, oInt_add ⟨by omega, by omega⟩, show (x : Int) - (y : Int) + (M : Int) = ((x + M - y : Nat) : Int) by omega, oInt_remN hM, oInt_eql]
  refine oIf_dec (fun h => ?_) (fun h => ?_)
  · have := hk m2 (e1.trans e2)
    rw [show (have d := (x + M - y) % M; if d = 0 then M else d) = M from if_pos (by omega)] at this
    exact this
  · have := hk m2 (e1.trans e2)
    rw [show (have d := (x + M - y) % M; if d = 0 then M else d) = (x + M - y) % M from if_neg (by omega)] at this
    exact this
def gapsN (M S T : Nat) : List Nat := (List.range T).map fun j => gapN M S T (nearN M S T).1 (nearN M S T).2 (kN T (nearN M S T).1 (nearN M S T).2 j)
def okAll (M S T : Nat) : Bool := (List.range T).all fun j => okK T (nearN M S T).1 (nearN M S T).2 (kN T (nearN M S T).1 (nearN M S T).2 j)
set_option maxHeartbeats 1000000 in
theorem around_sp {M S T : Nat} (hlf : 1000000 ≤ lf) (hL : L ≤ m.next) (hM : 0 < M) (hM6 : M ≤ 60) (hS : S < M) (h1 : 1 ≤ T) (h7 : T ≤ 7) (hT : T ≤ M / Nat.gcd M S) (hok : okAll M S T = true)
    (hk : ∀ u m', Gt m m' → GL m.next m' u (ci (gapsN M S T)) → k (.tuple ⟨[u, .int .i64 0]⟩) m' = some ()) :
    runT (tab lf) (n + 6) 85 [wrV M S T, .func (.func 86) #[] #[]] L m k = some () := by
  rw [r85]; dsimp only [S85, iofNat, inegSucc]
  rw [uc_e, uc_e, un0_e, box_wr, oRes_e]
  have e1 := Mem.gt_push m ⟨1, wrC M S T, none⟩
  have q1 := Mem.rd_push m ⟨1, wrC M S T, none⟩
  have n1 : (m.push ⟨1, wrC M S T, none⟩).next = m.next + 1 := Mem.push_next _ _
  generalize m.push ⟨1, wrC M S T, none⟩ = m1 at e1 q1 n1 ⊢
  have hr : rdn (some ⟨1, wrC M S T, none⟩) 0 3 = some (wrV M S T) := by kernel_rfl
  try simp (disch := first | omega | with_unfolding_all exact id rfl | with_unfolding_all exact Nat.le_of_ble_eq_true rfl | (simp only [Jd, Je, Jr, Js, Jt, Nat.reduceAdd, allOne, oneCell, Bool.and_self, Jc]; first | done | omega)) only [q1, hr, ↓Qa, ↓Qb, Qd, Qe, Qf, Qg, Qh, Qi, Qj, Qk, Ql, Qm, Qn, Qo, Qp, Qq, Qr, Qs, Qt, Qu, Qv, Qw, Qx, Qy, ptrTo, Qz, QA, QB, QC, QD, QE, QF, QG, QH, QI, QJ, QK, QL, QM, QN, QO, QP, QQ, QR, QS, QT, QU, QV, QW, QX, QY, QZ, Ja, Jb, Jc, Jd, Je, Jf, Jg, Jh, Ji, Jj, Jk, Jl, Jm, Jn, Jo, Jp, Jq, Jr, Js, Jt, Nat.reduceAdd]
  refine wopened_sp (n := n + 1) hlf (by omega) hM hM6 hS h1 h7 hT fun w m2 e2 hwn hw => ?_
  have n2 := e2.next
  have hnl := nearN_le (M := M) (S := S) T
  have hall : ∀ j, j < T → okK T (nearN M S T).1 (nearN M S T).2 (kN T (nearN M S T).1 (nearN M S T).2 j) = true := fun j hj => List.all_eq_true.1 hok j (List.mem_range.2 hj)
  unfold gapsN at hk
  generalize (nearN M S T).1 = a at hk hnl hw hall
  generalize (nearN M S T).2 = b at hk hnl hw hall
  have han : ∀ a : Addr, anil (.pointer (some a)) = some (.pointer (some a)) := fun _ => rfl
  have c2 : (wdC M S T a b)[0 + 0 + 2]? = some (.int .i64 (T : Int)) := rfl
  have c2' : (wdC M S T a b)[2]? = some (.int .i64 (T : Int)) := rfl
  try simp (disch := first | omega | with_unfolding_all exact id rfl | with_unfolding_all exact Nat.le_of_ble_eq_true rfl | (simp only [Jd, Je, Jr, Js, Jt, Nat.reduceAdd, allOne, oneCell, Bool.and_self, Jc]; first | done | omega)) only [han, hw, c2, c2', ↓Qa, ↓Qb, Qd, Qe, Qf, Qg, Qh, Qi, Qj, Qk, Ql, Qm, Qn, Qo, Qp, Qq, Qr, Qs, Qt, Qu, Qv, Qw, Qx, Qy, ptrTo, Qz, QA, QB, QC, QD, QE, QF, QG, QH, QI, QJ, QK, QL, QM, QN, QO, QP, QQ, QR, QS, QT, QU, QV, QW, QX, QY, QZ, Ja, Jb, Jc, Jd, Je, Jf, Jg, Jh, Ji, Jj, Jk, Jl, Jm, Jn, Jo, Jp, Jq, Jr, Js, Jt, Nat.reduceAdd]
  have e02 := e1.trans e2
  refine loop_up T (fun i vs m' => ∃ u, vs = [u, .int .i64 (kN T a b i : Int), .int .i64 (i : Int)] ∧ Gt m2 m' ∧ GL m2.next m' u (ci ((List.range i).map fun j => gapN M S T a b (kN T a b j)))) (by omega) ⟨_, rfl, Gt.refl _, GL.nil _ _⟩ ?_
  rintro i vs m3 hi ⟨u, rfl, e3, hu⟩ self hself
  have n3 := e3.next
  have hlt := Mem.rd_lt hw
  have w3 := (e3.kept w hlt).trans hw
  rw [uc_e, uc_e, uc_e, oInt_lss]
  refine oIf_dec (fun h => ?_) (fun h => ?_)
  · have hiT : i < T := by omega
    have hoki := hall i hiT
    refine gap_sp (n := n + 3) hM hM6 hS w3 (by omega) (by omega) (by omega) hoki fun m4 e4 => ?_
    have n4 := e4.next
    have w4 := (e4.kept w (Mem.rd_lt w3)).trans w3
    obtain ⟨u', m5, s1, s2, s3, s4, _⟩ := GL.snocV (P := Tryz.prog) (L := L) (m0 := m2) ((gapN M S T a b (kN T a b i) : Nat) : Int) ael22 (by omega) (hu.mono e4) (by rw [ci_length, List.length_map, List.length_range]; omega) (by omega) (e3.trans e4) (Nat.le_refl _)
    rw [bs22, oRes_e, s1, oRes_e]
    have w5 := (s3.kept w hlt).trans hw
    have hk7 : kN T a b i < 7 := by
      unfold okK at hoki
      rw [Bool.and_eq_true, decide_eq_true_eq] at hoki
      omega
    refine next_sp (n := n + 4) w5 (by omega) (by omega) (by omega) (by omega) hoki ?_
    rw [oInt_add ⟨by omega, by omega⟩]
    refine hself hiT _ _ ⟨u', rfl, s3, ?_⟩
    rw [List.range_succ, List.map_append, ci_app]
    exact s2.le (by omega)
  · have hiT : i = T := by omega
    subst hiT
    exact hk u m3 (e02.trans e3) (hu.le (by omega))
theorem gaps_sp {M S T : Nat} (hlf : 1000000 ≤ lf) (hL : L ≤ m.next) (hM : 0 < M) (hM6 : M ≤ 60) (hS : S < M) (h1 : 1 ≤ T) (h7 : T ≤ 7) (hT : T ≤ M / Nat.gcd M S) (hok : okAll M S T = true)
    (hk : ∀ u m', Gt m m' → GL m.next m' u (ci (gapsN M S T)) → k (.tuple ⟨[u, .int .i64 0]⟩) m' = some ()) :
    runT (tab lf) (n + 7) 27 [wrV M S T] L m k = some () := by
  rw [r27]; dsimp only [S27, iofNat, inegSucc]
  rw [uc_e, un0_e, box_wr, oRes_e]
  have e1 := Mem.gt_push m ⟨1, wrC M S T, none⟩
  have q1 := Mem.rd_push m ⟨1, wrC M S T, none⟩
  have n1 : (m.push ⟨1, wrC M S T, none⟩).next = m.next + 1 := Mem.push_next _ _
  generalize m.push ⟨1, wrC M S T, none⟩ = m1 at e1 q1 n1 ⊢
  have hr : rdn (some ⟨1, wrC M S T, none⟩) 0 3 = some (wrV M S T) := by kernel_rfl
  try simp (disch := first | omega | with_unfolding_all exact id rfl | with_unfolding_all exact Nat.le_of_ble_eq_true rfl | (simp only [Jd, Je, Jr, Js, Jt, Nat.reduceAdd, allOne, oneCell, Bool.and_self, Jc]; first | done | omega)) only [q1, hr, ↓Qa, ↓Qb, Qd, Qe, Qf, Qg, Qh, Qi, Qj, Qk, Ql, Qm, Qn, Qo, Qp, Qq, Qr, Qs, Qt, Qu, Qv, Qw, Qx, Qy, ptrTo, Qz, QA, QB, QC, QD, QE, QF, QG, QH, QI, QJ, QK, QL, QM, QN, QO, QP, QQ, QR, QS, QT, QU, QV, QW, QX, QY, QZ, Ja, Jb, Jc, Jd, Je, Jf, Jg, Jh, Ji, Jj, Jk, Jl, Jm, Jn, Jo, Jp, Jq, Jr, Js, Jt, Nat.reduceAdd]
  refine around_sp hlf (by omega) hM hM6 hS h1 h7 hT hok fun u m2 e2 hu => ?_
  try simp (disch := first | omega | with_unfolding_all exact id rfl | with_unfolding_all exact Nat.le_of_ble_eq_true rfl | (simp only [Jd, Je, Jr, Js, Jt, Nat.reduceAdd, allOne, oneCell, Bool.and_self, Jc]; first | done | omega)) only [↓Qa, ↓Qb, Qd, Qe, Qf, Qg, Qh, Qi, Qj, Qk, Ql, Qm, Qn, Qo, Qp, Qq, Qr, Qs, Qt, Qu, Qv, Qw, Qx, Qy, ptrTo, Qz, QA, QB, QC, QD, QE, QF, QG, QH, QI, QJ, QK, QL, QM, QN, QO, QP, QQ, QR, QS, QT, QU, QV, QW, QX, QY, QZ, Ja, Jb, Jc, Jd, Je, Jf, Jg, Jh, Ji, Jj, Jk, Jl, Jm, Jn, Jo, Jp, Jq, Jr, Js, Jt, Nat.reduceAdd]
  exact hk u m2 (e1.trans e2) (hu.le (by omega))
theorem places_sp {M S T : Nat} (hlf : 1000000 ≤ lf) (hL : L ≤ m.next) (hM : 0 < M) (hM6 : M ≤ 60) (hS : S < M) (h7 : T ≤ 7)
    (hk : ∀ u m', Gt m m' → GL m.next m' u (ci ((List.range T).map fun j => j * S % M)) → k u m' = some ()) :
    runT (tab lf) (n + 1) 28 [wrV M S T] L m k = some () := by
  rw [r28]; dsimp only [S28, iofNat, inegSucc]
  rw [uc_e, un0_e, box_wr, oRes_e]
  have e1 := Mem.gt_push m ⟨1, wrC M S T, none⟩
  have q1 := Mem.rd_push m ⟨1, wrC M S T, none⟩
  have n1 : (m.push ⟨1, wrC M S T, none⟩).next = m.next + 1 := Mem.push_next _ _
  generalize m.push ⟨1, wrC M S T, none⟩ = m1 at e1 q1 n1 ⊢
  have c0 : (wrC M S T)[0]? = some (.int .i64 (M : Int)) := rfl
  have c1 : (wrC M S T)[0 + 1]? = some (.int .i64 (S : Int)) := rfl
  have c2 : (wrC M S T)[0 + 2]? = some (.int .i64 (T : Int)) := rfl
  try simp (disch := first | omega | with_unfolding_all exact id rfl | with_unfolding_all exact Nat.le_of_ble_eq_true rfl | (simp only [Jd, Je, Jr, Js, Jt, Nat.reduceAdd, allOne, oneCell, Bool.and_self, Jc]; first | done | omega)) only [q1, c2, ↓Qa, ↓Qb, Qd, Qe, Qf, Qg, Qh, Qi, Qj, Qk, Ql, Qm, Qn, Qo, Qp, Qq, Qr, Qs, Qt, Qu, Qv, Qw, Qx, Qy, ptrTo, Qz, QA, QB, QC, QD, QE, QF, QG, QH, QI, QJ, QK, QL, QM, QN, QO, QP, QQ, QR, QS, QT, QU, QV, QW, QX, QY, QZ, Ja, Jb, Jc, Jd, Je, Jf, Jg, Jh, Ji, Jj, Jk, Jl, Jm, Jn, Jo, Jp, Jq, Jr, Js, Jt, Nat.reduceAdd]
  refine loop_up T (fun i vs m' => ∃ u, vs = [u, .int .i64 (i : Int)] ∧ Gt m1 m' ∧ GL m1.next m' u (ci ((List.range i).map fun j => j * S % M))) (by omega) ⟨_, rfl, Gt.refl _, GL.nil _ _⟩ ?_
  rintro i vs m3 hi ⟨u, rfl, e3, hu⟩ self hself
  have n3 := e3.next
  have q3 := (e3.kept m.next (by omega)).trans q1
  have c1' : (wrC M S T)[1]? = some (.int .i64 (S : Int)) := rfl
  have his : i * S < 1000 * 60 := Nat.mul_lt_mul_of_lt_of_le (by omega) (by omega) (by omega)
  have hm : oInt .mul .i64 (.int .i64 (i : Int)) (.int .i64 (S : Int)) = fun K => K (.int .i64 ((i * S : Nat) : Int)) := funext fun K => oInt_mulN (by omega) K
  have hrm : oInt .rem .i64 (.int .i64 ((i * S : Nat) : Int)) (.int .i64 (M : Int)) = fun K => K (.int .i64 ((i * S % M : Nat) : Int)) := funext fun K => oInt_remN hM K
  try simp (disch := first | omega | with_unfolding_all exact id rfl | with_unfolding_all exact Nat.le_of_ble_eq_true rfl | (simp only [Jd, Je, Jr, Js, Jt, Nat.reduceAdd, allOne, oneCell, Bool.and_self, Jc]; first | done | omega)) only [q3, c0, c1, c1', hm, hrm, ↓Qa, ↓Qb, Qd, Qe, Qf, Qg, Qh, Qi, Qj, Qk, Ql, Qm, Qn, Qo, Qp, Qq, Qr, Qs, Qt, Qu, Qv, Qw, Qx, Qy, ptrTo, Qz, QA, QB, QC, QD, QE, QF, QG, QH, QI, QJ, QK, QL, QM, QN, QO, QP, QQ, QR, QS, QT, QU, QV, QW, QX, QY, QZ, Ja, Jb, Jc, Jd, Je, Jf, Jg, Jh, Ji, Jj, Jk, Jl, Jm, Jn, Jo, Jp, Jq, Jr, Js, Jt, Nat.reduceAdd]
  refine oIf_dec (fun h => ?_) (fun h => ?_)
  · have hiT : i < T := by omega
    obtain ⟨u', m5, s1, s2, s3, s4, _⟩ := GL.snocV (P := Tryz.prog) (L := L) (m0 := m1) ((i * S % M : Nat) : Int) ael22 (by omega) hu (by rw [ci_length, List.length_map, List.length_range]; omega) (by omega) e3 (Nat.le_refl _)
    rw [bs22, oRes_e, s1, oRes_e]
    rw [oInt_add ⟨by omega, by omega⟩]
    refine hself hiT _ _ ⟨u', rfl, s3, ?_⟩
    rw [List.range_succ, List.map_append, ci_app]
    exact s2.le (by omega)
  · have hiT : i = T := by omega
    subst hiT
    exact hk u m3 (e1.trans e3) (hu.le (by omega))
end
end Go.Vit
