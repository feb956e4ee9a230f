/- Walks: Park, Serves, Way, Lucky, both ways. -/
import Derived.Test.YtnmmjbclidbdbaaDoorW3
set_option linter.unusedSimpArgs false
set_option linter.unusedVariables false
set_option maxRecDepth 20000
namespace Go.Vit
open Go Go.Proofs
attribute [local irreducible] runT loopS
def nnl (l : List Int) : List Nat := l.map Int.toNat
theorem nnl_ci (w : List Nat) : nnl (ci w) = w := by
  unfold nnl ci
  rw [List.map_map]
  conv => rhs; rw [← List.map_id w]
  exact List.map_congr_left fun x _ => rfl
def okD (N : Int) (l : List Int) : Bool := decide (chkD N (N - 1) l = 0)
def pkX (N : Int) (l : List Int) : List Int := if chkD N (N - 1) l = 0 then parkL N.toNat (nnl l) else []
theorem pkX_no {N : Int} {l : List Int} (h : chkD N (N - 1) l ≠ 0) : pkX N l = [] := if_neg h
theorem pkX_yes {a : Nat} {w : List Nat} (h : chkD (a : Int) ((a : Int) - 1) (ci w) = 0) : pkX (a : Int) (ci w) = parkL a w := by
  unfold pkX
  rw [if_pos h, nnl_ci]; rfl
def svX (N : Int) (l : List Int) : Bool := decide (chkD N (N - 1) l = 0) && decide (-1 ∉ pkX N l)
/-- Sums along two lists. -/
def zsum (f : Int → Nat → Int) (P : List Int) (w : List Nat) : Int := (List.zipWith f P w).sum
theorem zsum_take {f : Int → Nat → Int} {P : List Int} {w : List Nat} {i : Nat} {p : Int} (hp : P[i]? = some p) (h : i < w.length) : zsum f (P.take (i + 1)) (w.take (i + 1)) = zsum f (P.take i) (w.take i) + f p w[i] := by
  unfold zsum
  have hP : i < P.length := by
    rcases Nat.lt_or_ge i P.length with h1 | h1
    · exact h1
    · rw [List.getElem?_eq_none h1] at hp; cases hp
  rw [List.take_add_one, List.take_add_one, hp, List.getElem?_eq_getElem h, List.zipWith_append (by rw [List.length_take, List.length_take]; omega), List.sum_append]
  simp
theorem sum_bd : ∀ (l : List Int) (c : Int), 0 ≤ c → (∀ x ∈ l, 0 ≤ x ∧ x ≤ c) → 0 ≤ l.sum ∧ l.sum ≤ c * l.length
  | [], c, _, _ => by simp
  | x :: l, c, hc, h => by
    obtain ⟨h1, h2⟩ := sum_bd l c hc fun y hy => h y (List.mem_cons_of_mem _ hy)
    obtain ⟨h3, h4⟩ := h x (List.mem_cons_self ..)
    rw [List.sum_cons, List.length_cons]
    have : c * ((l.length + 1 : Nat) : Int) = c * l.length + c := by rw [Int.natCast_add, Int.mul_add]; simp
    omega
def wayF (p : Int) (x : Nat) : Int := if p = -1 then 0 else p - x
def luckF (p : Int) (x : Nat) : Int := if p = (x : Int) then 1 else 0
theorem zip_bd {f : Int → Nat → Int} {a : Nat} {w : List Nat} (hf : ∀ (p : Int) (x : Nat), (p = -1 ∨ (x : Int) ≤ p ∧ p < a) → 0 ≤ f p x ∧ f p x ≤ a) (i : Nat) : 0 ≤ zsum f ((parkL a w).take i) (w.take i) ∧ zsum f ((parkL a w).take i) (w.take i) ≤ a * w.length := by
  have h1 := sum_bd (List.zipWith f ((parkL a w).take i) (w.take i)) a (by omega) fun y hy => by
    obtain ⟨j, hj, rfl⟩ := List.getElem_of_mem hy
    rw [List.length_zipWith, List.length_take, List.length_take, parkL_len] at hj
    rw [List.getElem_zipWith, List.getElem_take, List.getElem_take]
    obtain ⟨p, hp, hb⟩ := parkL_bd (n := a) (l := w) (i := j) (by omega)
    rw [List.getElem?_eq_getElem (by rw [parkL_len]; omega)] at hp
    rw [Option.some.inj hp]
    exact hf _ _ hb
  refine ⟨h1.1, Int.le_trans h1.2 ?_⟩
  refine Int.mul_le_mul_of_nonneg_left ?_ (by omega)
  rw [List.length_zipWith, List.length_take, List.length_take, parkL_len]
  omega
theorem wayF_bd (a : Nat) (p : Int) (x : Nat) (h : p = -1 ∨ (x : Int) ≤ p ∧ p < a) : 0 ≤ wayF p x ∧ wayF p x ≤ a := by
  unfold wayF
  split <;> omega
theorem luckF_bd {a : Nat} (ha : 1 ≤ a) (p : Int) (x : Nat) (h : p = -1 ∨ (x : Int) ≤ p ∧ p < a) : 0 ≤ luckF p x ∧ luckF p x ≤ a := by
  unfold luckF
  split <;> omega
theorem mul_le64 {a b : Nat} (ha : a ≤ 8) (hb : b ≤ 8) : (a : Int) * b ≤ 64 := by
  have : a * b ≤ 8 * 8 := Nat.mul_le_mul ha hb
  have h2 : ((a * b : Nat) : Int) ≤ 64 := by omega
  rwa [Int.natCast_mul] at h2
def wayX (N : Int) (l : List Int) : Int := if chkD N (N - 1) l = 0 then zsum wayF (pkX N l) (nnl l) else 0
def lkX (N : Int) (l : List Int) : Int := if chkD N (N - 1) l = 0 then zsum luckF (pkX N l) (nnl l) else 0
theorem as70_st (p q : Int) : aassert Tryd.prog (stV p q) 70 true = some (.tuple ⟨[.agg ⟨[.int .i64 p, .int .i64 q]⟩, .bool true]⟩) := by kernel_rfl
theorem as70_le : aassert Tryd.prog leV 70 true = some (.tuple ⟨[.agg ⟨[.int .i64 0, .int .i64 0]⟩, .bool false]⟩) := by kernel_rfl
theorem as72_le : aassert Tryd.prog leV 72 true = some (.tuple ⟨[.agg ⟨[]⟩, .bool true]⟩) := by kernel_rfl
section
variable {lf n L : Nat} {m : Mem} {k : Value → Mem → Option Unit}
theorem park_sp {N : Int} {v : Value} {l : List Int} (hlf : 1000000 ≤ lf) (hL : L ≤ m.next) (hT : TabOk mTab m) (hv : IL m v l) (hl : l.length < 1000000)
    (hk : ∀ u m', Gt m m' → GL m.next m' u (pkX N l) → k (.tuple ⟨[u, .int .i64 (chkD N (N - 1) l)]⟩) m' = some ()) :
    runT (tab lf) (n + 8) 16 [.int .i64 N, v] L m k = some () := by
  rw [r16]; dsimp only [S16, iofNat, inegSucc]
  try simp (disch := first | omega | with_unfolding_all exact id rfl | with_unfolding_all exact Nat.le_of_ble_eq_true rfl | (simp only [Jd, Je, Jr, Js, Jt, Nat.reduceAdd, allOne, oneCell, Bool.and_self, Jc]; first | done | omega)) only [↓Qa, ↓Qb, ↓Qc, Qd, Qe, Qf, Qg, Qh, Qi, Qj, Qk, Ql, Qm, Qn, Qo, Qp, Qq, Qr, Qs, Qt, Qu, Qv, Qw, Qx, Qy, ptrTo, Qz, QA, QB, QC, QD, QE, QF, QG, QH, QI, QJ, QK, QL, QM, QN, QO, QP, QQ, QR, QS, QT, QU, QV, QW, QX, QY, QZ, Ja, Jb, Jc, Jd, Je, Jf, Jg, Jh, Ji, Jj, Jk, Jl, Jm, Jn, Jo, Jp, Jq, Jr, Js, Jt, Nat.reduceAdd]
  refine comeAll_sp hlf hL hT hv hl (fun h m1 e1 => ?_) ?_
  · try simp (disch := first | omega | with_unfolding_all exact id rfl | with_unfolding_all exact Nat.le_of_ble_eq_true rfl | (simp only [Jd, Je, Jr, Js, Jt, Nat.reduceAdd, allOne, oneCell, Bool.and_self, Jc]; first | done | omega)) only [↓Qa, ↓Qb, ↓Qc, Qd, Qe, Qf, Qg, Qh, Qi, Qj, Qk, Ql, Qm, Qn, Qo, Qp, Qq, Qr, Qs, Qt, Qu, Qv, Qw, Qx, Qy, ptrTo, Qz, QA, QB, QC, QD, QE, QF, QG, QH, QI, QJ, QK, QL, QM, QN, QO, QP, QQ, QR, QS, QT, QU, QV, QW, QX, QY, QZ, Ja, Jb, Jc, Jd, Je, Jf, Jg, Jh, Ji, Jj, Jk, Jl, Jm, Jn, Jo, Jp, Jq, Jr, Js, Jt, Nat.reduceAdd]
    refine loop_up 0 (fun i vs m' => vs = [.slice none 0 0, .int .i64 0] ∧ m' = m1) (by omega) ⟨rfl, rfl⟩ ?_
    rintro i vs m' hi ⟨rfl, rfl⟩ self hself
    try simp (disch := first | omega | with_unfolding_all exact id rfl | with_unfolding_all exact Nat.le_of_ble_eq_true rfl | (simp only [Jd, Je, Jr, Js, Jt, Nat.reduceAdd, allOne, oneCell, Bool.and_self, Jc]; first | done | omega)) only [↓Qa, ↓Qb, ↓Qc, Qd, Qe, Qf, Qg, Qh, Qi, Qj, Qk, Ql, Qm, Qn, Qo, Qp, Qq, Qr, Qs, Qt, Qu, Qv, Qw, Qx, Qy, ptrTo, Qz, QA, QB, QC, QD, QE, QF, QG, QH, QI, QJ, QK, QL, QM, QN, QO, QP, QQ, QR, QS, QT, QU, QV, QW, QX, QY, QZ, Ja, Jb, Jc, Jd, Je, Jf, Jg, Jh, Ji, Jj, Jk, Jl, Jm, Jn, Jo, Jp, Jq, Jr, Js, Jt, Nat.reduceAdd]
    have := hk (.slice none 0 0) m' e1 (by rw [pkX_no h]; exact GL.nil _ _)
    exact this
  · rintro a w rfl rfl ha1 ha8 hwl hw h0 u m1 e1 hu
    rw [pkX_yes h0, h0] at hk
    have hul := fates_len a w
    have e1n := e1.next
    try simp (disch := first | omega | with_unfolding_all exact id rfl | with_unfolding_all exact Nat.le_of_ble_eq_true rfl | (simp only [Jd, Je, Jr, Js, Jt, Nat.reduceAdd, allOne, oneCell, Bool.and_self, Jc]; first | done | omega)) only [hu.sl.ln, ↓Qa, ↓Qb, ↓Qc, Qd, Qe, Qf, Qg, Qh, Qi, Qj, Qk, Ql, Qm, Qn, Qo, Qp, Qq, Qr, Qs, Qt, Qu, Qv, Qw, Qx, Qy, ptrTo, Qz, QA, QB, QC, QD, QE, QF, QG, QH, QI, QJ, QK, QL, QM, QN, QO, QP, QQ, QR, QS, QT, QU, QV, QW, QX, QY, QZ, Ja, Jb, Jc, Jd, Je, Jf, Jg, Jh, Ji, Jj, Jk, Jl, Jm, Jn, Jo, Jp, Jq, Jr, Js, Jt, Nat.reduceAdd]
    refine loop_up w.length (fun i vs m' => ∃ x, vs = [x, .int .i64 (i : Int)] ∧ Gt m1 m' ∧ GL m1.next m' x ((parkL a w).take i)) (by omega) ⟨_, rfl, Gt.refl _, GL.nil _ _⟩ ?_
    rintro i vs m2 hi ⟨x, rfl, e2, hx⟩ self hself
    have e2n := e2.next
    try simp (disch := first | omega | with_unfolding_all exact id rfl | with_unfolding_all exact Nat.le_of_ble_eq_true rfl | (simp only [Jd, Je, Jr, Js, Jt, Nat.reduceAdd, allOne, oneCell, Bool.and_self, Jc]; first | done | omega)) only [↓Qa, ↓Qb, ↓Qc, Qd, Qe, Qf, Qg, Qh, Qi, Qj, Qk, Ql, Qm, Qn, Qo, Qp, Qq, Qr, Qs, Qt, Qu, Qv, Qw, Qx, Qy, ptrTo, Qz, QA, QB, QC, QD, QE, QF, QG, QH, QI, QJ, QK, QL, QM, QN, QO, QP, QQ, QR, QS, QT, QU, QV, QW, QX, QY, QZ, Ja, Jb, Jc, Jd, Je, Jf, Jg, Jh, Ji, Jj, Jk, Jl, Jm, Jn, Jo, Jp, Jq, Jr, Js, Jt, Nat.reduceAdd]
    rw [hul]
    refine oIf_dec (fun h => ?_) (fun h => ?_)
    · have hil : i < w.length := by omega
      have hpl := parkL_len a w
      have hu2 : Sl 1 m2 u (fates a w).length (fates a w) := hu.sl.mono e2
      obtain ⟨p, hp, hpb⟩ := parkL_bd (n := a) hil
      have hfg := fates_get (n := a) hil (by omega)
      have hpe : (parkL a w)[i]'(by omega) = p := by rw [List.getElem?_eq_getElem (by omega)] at hp; exact Option.some.inj hp
      rw [hpe] at hfg
      have hxl : ((parkL a w).take i).length = i := by rw [List.length_take]; omega
      have htk : (parkL a w).take (i + 1) = (parkL a w).take i ++ [p] := by rw [List.take_add_one, hp]; rfl
      try simp (disch := first | omega | with_unfolding_all exact id rfl | with_unfolding_all exact Nat.le_of_ble_eq_true rfl | (simp only [Jd, Je, Jr, Js, Jt, Nat.reduceAdd, allOne, oneCell, Bool.and_self, Jc]; first | done | omega)) only [hu2.ia (show i < (fates a w).length by omega), hu2.ld (show i < (fates a w).length by omega) hfg, ↓Qa, ↓Qb, ↓Qc, Qd, Qe, Qf, Qg, Qh, Qi, Qj, Qk, Ql, Qm, Qn, Qo, Qp, Qq, Qr, Qs, Qt, Qu, Qv, Qw, Qx, Qy, ptrTo, Qz, QA, QB, QC, QD, QE, QF, QG, QH, QI, QJ, QK, QL, QM, QN, QO, QP, QQ, QR, QS, QT, QU, QV, QW, QX, QY, QZ, Ja, Jb, Jc, Jd, Je, Jf, Jg, Jh, Ji, Jj, Jk, Jl, Jm, Jn, Jo, Jp, Jq, Jr, Js, Jt, Nat.reduceAdd]
      unfold fV
      have step : ∀ m3, Gt m2 m3 → (oRes (bs Tryd.prog m3 22 1 [(0, .int .i64 p)]) fun t34 m35 => oRes (aappend Tryd.prog L m35 22 x t34) fun t36 m37 => oInt .add .i64 (.int .i64 (i : Int)) (.int .i64 1) fun t27 => self [t36, t27] m37) = some () := by
        intro m3 e3
        have e3n := e3.next
        obtain ⟨u', m5, k1, k2, k3, k4, k5⟩ := GL.snocV (P := Tryd.prog) (L := L) (m0 := m1) p ael22 (by omega) (hx.mono e3) (by omega) (by omega) (e2.trans e3) (Nat.le_refl _)
        rw [bs22, oRes_e, k1, oRes_e, oInt_add ⟨by omega, by omega⟩]
        refine hself hil _ _ ⟨u', rfl, k3, ?_⟩
        rw [htk]
        exact k2.le (by omega)
      by_cases hp1 : p = -1
      · rw [if_pos hp1]
        try simp (disch := first | omega | with_unfolding_all exact id rfl | with_unfolding_all exact Nat.le_of_ble_eq_true rfl | (simp only [Jd, Je, Jr, Js, Jt, Nat.reduceAdd, allOne, oneCell, Bool.and_self, Jc]; first | done | omega)) only [as70_le, as72_le, ↓Qa, ↓Qb, ↓Qc, Qd, Qe, Qf, Qg, Qh, Qi, Qj, Qk, Ql, Qm, Qn, Qo, Qp, Qq, Qr, Qs, Qt, Qu, Qv, Qw, Qx, Qy, ptrTo, Qz, QA, QB, QC, QD, QE, QF, QG, QH, QI, QJ, QK, QL, QM, QN, QO, QP, QQ, QR, QS, QT, QU, QV, QW, QX, QY, QZ, Ja, Jb, Jc, Jd, Je, Jf, Jg, Jh, Ji, Jj, Jk, Jl, Jm, Jn, Jo, Jp, Jq, Jr, Js, Jt, Nat.reduceAdd]
        rw [hp1] at step
        exact step _ (Mem.put_gt (Mem.gt_push _ _) _ (by omega))
      · rw [if_neg hp1]
        try simp (disch := first | omega | with_unfolding_all exact id rfl | with_unfolding_all exact Nat.le_of_ble_eq_true rfl | (simp only [Jd, Je, Jr, Js, Jt, Nat.reduceAdd, allOne, oneCell, Bool.and_self, Jc]; first | done | omega)) only [as70_st, ↓Qa, ↓Qb, ↓Qc, Qd, Qe, Qf, Qg, Qh, Qi, Qj, Qk, Ql, Qm, Qn, Qo, Qp, Qq, Qr, Qs, Qt, Qu, Qv, Qw, Qx, Qy, ptrTo, Qz, QA, QB, QC, QD, QE, QF, QG, QH, QI, QJ, QK, QL, QM, QN, QO, QP, QQ, QR, QS, QT, QU, QV, QW, QX, QY, QZ, Ja, Jb, Jc, Jd, Je, Jf, Jg, Jh, Ji, Jj, Jk, Jl, Jm, Jn, Jo, Jp, Jq, Jr, Js, Jt, Nat.reduceAdd]
        exact step _ (Mem.put_gt (Mem.gt_push _ _) _ (by omega))
    · have hiw : i = w.length := by omega
      subst hiw
      rw [List.take_of_length_le (by rw [parkL_len]; omega)] at hx
      try simp (disch := first | omega | with_unfolding_all exact id rfl | with_unfolding_all exact Nat.le_of_ble_eq_true rfl | (simp only [Jd, Je, Jr, Js, Jt, Nat.reduceAdd, allOne, oneCell, Bool.and_self, Jc]; first | done | omega)) only [↓Qa, ↓Qb, ↓Qc, Qd, Qe, Qf, Qg, Qh, Qi, Qj, Qk, Ql, Qm, Qn, Qo, Qp, Qq, Qr, Qs, Qt, Qu, Qv, Qw, Qx, Qy, ptrTo, Qz, QA, QB, QC, QD, QE, QF, QG, QH, QI, QJ, QK, QL, QM, QN, QO, QP, QQ, QR, QS, QT, QU, QV, QW, QX, QY, QZ, Ja, Jb, Jc, Jd, Je, Jf, Jg, Jh, Ji, Jj, Jk, Jl, Jm, Jn, Jo, Jp, Jq, Jr, Js, Jt, Nat.reduceAdd]
      exact hk x m2 (e1.trans e2) (hx.le (by omega))
theorem rparkX_sp {N : Int} {v : Value} {l : List Int} (hlf : 1000000 ≤ lf) (hL : L ≤ m.next) (hv : IL m v l) (hl : l.length < 1000000)
    (hk : ∀ u m', Gt m m' → GL m.next m' u (pkX N l) → k (.tuple ⟨[u, .int .i64 (chkD N (N - 1) l)]⟩) m' = some ()) :
    runT (tab lf) (n + 4) 17 [.int .i64 N, v] L m k = some () := by
  rw [r17]; dsimp only [S17, iofNat, inegSucc]
  try simp (disch := first | omega | with_unfolding_all exact id rfl | with_unfolding_all exact Nat.le_of_ble_eq_true rfl | (simp only [Jd, Je, Jr, Js, Jt, Nat.reduceAdd, allOne, oneCell, Bool.and_self, Jc]; first | done | omega)) only [↓Qa, ↓Qb, ↓Qc, Qd, Qe, Qf, Qg, Qh, Qi, Qj, Qk, Ql, Qm, Qn, Qo, Qp, Qq, Qr, Qs, Qt, Qu, Qv, Qw, Qx, Qy, ptrTo, Qz, QA, QB, QC, QD, QE, QF, QG, QH, QI, QJ, QK, QL, QM, QN, QO, QP, QQ, QR, QS, QT, QU, QV, QW, QX, QY, QZ, Ja, Jb, Jc, Jd, Je, Jf, Jg, Jh, Ji, Jj, Jk, Jl, Jm, Jn, Jo, Jp, Jq, Jr, Js, Jt, Nat.reduceAdd]
  refine rcheck_sp hlf hv hl ?_
  try simp (disch := first | omega | with_unfolding_all exact id rfl | with_unfolding_all exact Nat.le_of_ble_eq_true rfl | (simp only [Jd, Je, Jr, Js, Jt, Nat.reduceAdd, allOne, oneCell, Bool.and_self, Jc]; first | done | omega)) only [↓Qa, ↓Qb, ↓Qc, Qd, Qe, Qf, Qg, Qh, Qi, Qj, Qk, Ql, Qm, Qn, Qo, Qp, Qq, Qr, Qs, Qt, Qu, Qv, Qw, Qx, Qy, ptrTo, Qz, QA, QB, QC, QD, QE, QF, QG, QH, QI, QJ, QK, QL, QM, QN, QO, QP, QQ, QR, QS, QT, QU, QV, QW, QX, QY, QZ, Ja, Jb, Jc, Jd, Je, Jf, Jg, Jh, Ji, Jj, Jk, Jl, Jm, Jn, Jo, Jp, Jq, Jr, Js, Jt, Nat.reduceAdd]
  refine oIf_ndec (fun h => ?_) (fun h => ?_)
  · exact hk _ m (Gt.refl _) (by rw [pkX_no h]; exact GL.nil _ _)
  · have h0 : chkD N (N - 1) l = 0 := h
    obtain ⟨a, w, rfl, rfl, ha1, ha8, hwl, hw⟩ := chkD_ok h0
    rw [pkX_yes h0, h0] at hk
    exact rpark_sp hlf hL ha8 hwl hw hv hk
/-- Nobody goes away. -/
theorem served_sp {a : Nat} {w : List Nat} {v : Value} (hlf : 1000000 ≤ lf) (hwl : w.length ≤ 8) (hv : Sl 1 m v (fates a w).length (fates a w)) (hk : ∀ m', Gt m m' → k (.bool (decide (-1 ∉ parkL a w))) m' = some ()) :
    runT (tab lf) (n + 5) 58 [v] L m k = some () := by
  rw [r58]; dsimp only [S58, iofNat, inegSucc]
  have hpl := parkL_len a w
  have hul := fates_len a w
  try simp (disch := first | omega | with_unfolding_all exact id rfl | with_unfolding_all exact Nat.le_of_ble_eq_true rfl | (simp only [Jd, Je, Jr, Js, Jt, Nat.reduceAdd, allOne, oneCell, Bool.and_self, Jc]; first | done | omega)) only [↓Qa, ↓Qb, ↓Qc, Qd, Qe, Qf, Qg, Qh, Qi, Qj, Qk, Ql, Qm, Qn, Qo, Qp, Qq, Qr, Qs, Qt, Qu, Qv, Qw, Qx, Qy, ptrTo, Qz, QA, QB, QC, QD, QE, QF, QG, QH, QI, QJ, QK, QL, QM, QN, QO, QP, QQ, QR, QS, QT, QU, QV, QW, QX, QY, QZ, Ja, Jb, Jc, Jd, Je, Jf, Jg, Jh, Ji, Jj, Jk, Jl, Jm, Jn, Jo, Jp, Jq, Jr, Js, Jt, Nat.reduceAdd]
  rw [r77]; dsimp only [S77, iofNat, inegSucc]
  try simp (disch := first | omega | with_unfolding_all exact id rfl | with_unfolding_all exact Nat.le_of_ble_eq_true rfl | (simp only [Jd, Je, Jr, Js, Jt, Nat.reduceAdd, allOne, oneCell, Bool.and_self, Jc]; first | done | omega)) only [↓Qa, ↓Qb, ↓Qc, Qd, Qe, Qf, Qg, Qh, Qi, Qj, Qk, Ql, Qm, Qn, Qo, Qp, Qq, Qr, Qs, Qt, Qu, Qv, Qw, Qx, Qy, ptrTo, Qz, QA, QB, QC, QD, QE, QF, QG, QH, QI, QJ, QK, QL, QM, QN, QO, QP, QQ, QR, QS, QT, QU, QV, QW, QX, QY, QZ, Ja, Jb, Jc, Jd, Je, Jf, Jg, Jh, Ji, Jj, Jk, Jl, Jm, Jn, Jo, Jp, Jq, Jr, Js, Jt, Nat.reduceAdd]
  rw [r87]; dsimp only [S87, iofNat, inegSucc]
  try simp (disch := first | omega | with_unfolding_all exact id rfl | with_unfolding_all exact Nat.le_of_ble_eq_true rfl | (simp only [Jd, Je, Jr, Js, Jt, Nat.reduceAdd, allOne, oneCell, Bool.and_self, Jc]; first | done | omega)) only [hv.ln, ↓Qa, ↓Qb, ↓Qc, Qd, Qe, Qf, Qg, Qh, Qi, Qj, Qk, Ql, Qm, Qn, Qo, Qp, Qq, Qr, Qs, Qt, Qu, Qv, Qw, Qx, Qy, ptrTo, Qz, QA, QB, QC, QD, QE, QF, QG, QH, QI, QJ, QK, QL, QM, QN, QO, QP, QQ, QR, QS, QT, QU, QV, QW, QX, QY, QZ, Ja, Jb, Jc, Jd, Je, Jf, Jg, Jh, Ji, Jj, Jk, Jl, Jm, Jn, Jo, Jp, Jq, Jr, Js, Jt, Nat.reduceAdd]
  rw [hul]
  refine loop_up w.length (fun i vs m' => vs = [.int .i64 (i : Int)] ∧ Gt m m' ∧ ∀ j, j < i → (parkL a w)[j]? ≠ some (-1)) (by omega) ⟨rfl, Gt.refl _, fun j h => by omega⟩ ?_
  rintro i vs m1 hi ⟨rfl, e1, hno⟩ self hself
  have hv1 := hv.mono e1
  try simp (disch := first | omega | with_unfolding_all exact id rfl | with_unfolding_all exact Nat.le_of_ble_eq_true rfl | (simp only [Jd, Je, Jr, Js, Jt, Nat.reduceAdd, allOne, oneCell, Bool.and_self, Jc]; first | done | omega)) only [↓Qa, ↓Qb, ↓Qc, Qd, Qe, Qf, Qg, Qh, Qi, Qj, Qk, Ql, Qm, Qn, Qo, Qp, Qq, Qr, Qs, Qt, Qu, Qv, Qw, Qx, Qy, ptrTo, Qz, QA, QB, QC, QD, QE, QF, QG, QH, QI, QJ, QK, QL, QM, QN, QO, QP, QQ, QR, QS, QT, QU, QV, QW, QX, QY, QZ, Ja, Jb, Jc, Jd, Je, Jf, Jg, Jh, Ji, Jj, Jk, Jl, Jm, Jn, Jo, Jp, Jq, Jr, Js, Jt, Nat.reduceAdd]
  refine oIf_dec (fun h => ?_) (fun h => ?_)
  · have hil : i < w.length := by omega
    obtain ⟨p, hp, hpb⟩ := parkL_bd (n := a) hil
    have hfg := fates_get (n := a) hil (by omega)
    have hpe : (parkL a w)[i]'(by omega) = p := by rw [List.getElem?_eq_getElem (by omega)] at hp; exact Option.some.inj hp
    rw [hpe] at hfg
    try simp (disch := first | omega | with_unfolding_all exact id rfl | with_unfolding_all exact Nat.le_of_ble_eq_true rfl | (simp only [Jd, Je, Jr, Js, Jt, Nat.reduceAdd, allOne, oneCell, Bool.and_self, Jc]; first | done | omega)) only [hv1.ia (show i < (fates a w).length by omega), hv1.ld (show i < (fates a w).length by omega) hfg, ↓Qa, ↓Qb, ↓Qc, Qd, Qe, Qf, Qg, Qh, Qi, Qj, Qk, Ql, Qm, Qn, Qo, Qp, Qq, Qr, Qs, Qt, Qu, Qv, Qw, Qx, Qy, ptrTo, Qz, QA, QB, QC, QD, QE, QF, QG, QH, QI, QJ, QK, QL, QM, QN, QO, QP, QQ, QR, QS, QT, QU, QV, QW, QX, QY, QZ, Ja, Jb, Jc, Jd, Je, Jf, Jg, Jh, Ji, Jj, Jk, Jl, Jm, Jn, Jo, Jp, Jq, Jr, Js, Jt, Nat.reduceAdd]
    rw [r78]; dsimp only [S78, iofNat, inegSucc]
    rw [uc_e, un0_e]
    unfold fV
    by_cases hp1 : p = -1
    · rw [if_pos hp1]
      have hi1 : ∀ (call : CallK Unit) (K : Value → Mem → Option Unit), oInv call [(72, 126), (70, 125)] leV [] L m1 K = call 126 [.agg ⟨[]⟩] L m1 K := fun _ _ => rfl
      rw [hi1, r126]; dsimp only [S126, iofNat, inegSucc]
      try simp (disch := first | omega | with_unfolding_all exact id rfl | with_unfolding_all exact Nat.le_of_ble_eq_true rfl | (simp only [Jd, Je, Jr, Js, Jt, Nat.reduceAdd, allOne, oneCell, Bool.and_self, Jc]; first | done | omega)) only [abox_e, ↓Qa, ↓Qb, ↓Qc, Qd, Qe, Qf, Qg, Qh, Qi, Qj, Qk, Ql, Qm, Qn, Qo, Qp, Qq, Qr, Qs, Qt, Qu, Qv, Qw, Qx, Qy, ptrTo, Qz, QA, QB, QC, QD, QE, QF, QG, QH, QI, QJ, QK, QL, QM, QN, QO, QP, QQ, QR, QS, QT, QU, QV, QW, QX, QY, QZ, Ja, Jb, Jc, Jd, Je, Jf, Jg, Jh, Ji, Jj, Jk, Jl, Jm, Jn, Jo, Jp, Jq, Jr, Js, Jt, Nat.reduceAdd]
      rw [decide_eq_true (show (0 : Int) ≤ (i : Int) by omega)]
      have hkk := hk _ (e1.trans (Mem.gt_push m1 ⟨1, [], none⟩))
      have hin : (-1 : Int) ∈ parkL a w := by rw [← hp1, ← hpe]; exact List.getElem_mem _
      rw [decide_eq_false (by simpa using hin)] at hkk
      exact hkk
    · rw [if_neg hp1]
      have hi1 : ∀ (call : CallK Unit) (K : Value → Mem → Option Unit), oInv call [(72, 126), (70, 125)] (stV p (p - (w[i] : Int))) [] L m1 K = call 125 [.agg ⟨[.int .i64 p, .int .i64 (p - (w[i] : Int))]⟩] L m1 K := fun _ _ => rfl
      rw [hi1, r125]; dsimp only [S125, iofNat, inegSucc]
      try simp (disch := first | omega | with_unfolding_all exact id rfl | with_unfolding_all exact Nat.le_of_ble_eq_true rfl | (simp only [Jd, Je, Jr, Js, Jt, Nat.reduceAdd, allOne, oneCell, Bool.and_self, Jc]; first | done | omega)) only [abox_e, ↓Qa, ↓Qb, ↓Qc, Qd, Qe, Qf, Qg, Qh, Qi, Qj, Qk, Ql, Qm, Qn, Qo, Qp, Qq, Qr, Qs, Qt, Qu, Qv, Qw, Qx, Qy, ptrTo, Qz, QA, QB, QC, QD, QE, QF, QG, QH, QI, QJ, QK, QL, QM, QN, QO, QP, QQ, QR, QS, QT, QU, QV, QW, QX, QY, QZ, Ja, Jb, Jc, Jd, Je, Jf, Jg, Jh, Ji, Jj, Jk, Jl, Jm, Jn, Jo, Jp, Jq, Jr, Js, Jt, Nat.reduceAdd]
      rw [oInt_add ⟨by omega, by omega⟩]
      refine hself hil _ _ ⟨rfl, e1.trans (Mem.gt_push m1 _), fun j hj => ?_⟩
      by_cases hji : j = i
      · subst hji; rw [hp]; exact fun h => hp1 (Option.some.inj h)
      · exact hno j (by omega)
  · have hiw : i = w.length := by omega
    subst hiw
    try simp (disch := first | omega | with_unfolding_all exact id rfl | with_unfolding_all exact Nat.le_of_ble_eq_true rfl | (simp only [Jd, Je, Jr, Js, Jt, Nat.reduceAdd, allOne, oneCell, Bool.and_self, Jc]; first | done | omega)) only [↓Qa, ↓Qb, ↓Qc, Qd, Qe, Qf, Qg, Qh, Qi, Qj, Qk, Ql, Qm, Qn, Qo, Qp, Qq, Qr, Qs, Qt, Qu, Qv, Qw, Qx, Qy, ptrTo, Qz, QA, QB, QC, QD, QE, QF, QG, QH, QI, QJ, QK, QL, QM, QN, QO, QP, QQ, QR, QS, QT, QU, QV, QW, QX, QY, QZ, Ja, Jb, Jc, Jd, Je, Jf, Jg, Jh, Ji, Jj, Jk, Jl, Jm, Jn, Jo, Jp, Jq, Jr, Js, Jt, Nat.reduceAdd]
    have hkk := hk _ e1
    have hno2 : (-1 : Int) ∉ parkL a w := fun hin => by
      obtain ⟨j, hj, hje⟩ := List.getElem_of_mem hin
      exact hno j (by omega) (by rw [List.getElem?_eq_getElem hj, hje])
    rw [decide_eq_true hno2] at hkk
    exact hkk
theorem serves_sp {N : Int} {v : Value} {l : List Int} (hlf : 1000000 ≤ lf) (hL : L ≤ m.next) (hT : TabOk mTab m) (hv : IL m v l) (hl : l.length < 1000000)
    (hk : ∀ m', Gt m m' → k (.tuple ⟨[.bool (svX N l), .int .i64 (chkD N (N - 1) l)]⟩) m' = some ()) :
    runT (tab lf) (n + 8) 18 [.int .i64 N, v] L m k = some () := by
  rw [r18]; dsimp only [S18, iofNat, inegSucc]
  try simp (disch := first | omega | with_unfolding_all exact id rfl | with_unfolding_all exact Nat.le_of_ble_eq_true rfl | (simp only [Jd, Je, Jr, Js, Jt, Nat.reduceAdd, allOne, oneCell, Bool.and_self, Jc]; first | done | omega)) only [↓Qa, ↓Qb, ↓Qc, Qd, Qe, Qf, Qg, Qh, Qi, Qj, Qk, Ql, Qm, Qn, Qo, Qp, Qq, Qr, Qs, Qt, Qu, Qv, Qw, Qx, Qy, ptrTo, Qz, QA, QB, QC, QD, QE, QF, QG, QH, QI, QJ, QK, QL, QM, QN, QO, QP, QQ, QR, QS, QT, QU, QV, QW, QX, QY, QZ, Ja, Jb, Jc, Jd, Je, Jf, Jg, Jh, Ji, Jj, Jk, Jl, Jm, Jn, Jo, Jp, Jq, Jr, Js, Jt, Nat.reduceAdd]
  refine comeAll_sp hlf hL hT hv hl (fun h m1 e1 => ?_) ?_
  · try simp (disch := first | omega | with_unfolding_all exact id rfl | with_unfolding_all exact Nat.le_of_ble_eq_true rfl | (simp only [Jd, Je, Jr, Js, Jt, Nat.reduceAdd, allOne, oneCell, Bool.and_self, Jc]; first | done | omega)) only [decide_eq_false h, ↓Qa, ↓Qb, ↓Qc, Qd, Qe, Qf, Qg, Qh, Qi, Qj, Qk, Ql, Qm, Qn, Qo, Qp, Qq, Qr, Qs, Qt, Qu, Qv, Qw, Qx, Qy, ptrTo, Qz, QA, QB, QC, QD, QE, QF, QG, QH, QI, QJ, QK, QL, QM, QN, QO, QP, QQ, QR, QS, QT, QU, QV, QW, QX, QY, QZ, Ja, Jb, Jc, Jd, Je, Jf, Jg, Jh, Ji, Jj, Jk, Jl, Jm, Jn, Jo, Jp, Jq, Jr, Js, Jt, Nat.reduceAdd]
    have := hk m1 e1
    unfold svX at this
    rw [decide_eq_false h] at this
    exact this
  · rintro a w rfl rfl ha1 ha8 hwl hw h0 u m1 e1 hu
    try simp (disch := first | omega | with_unfolding_all exact id rfl | with_unfolding_all exact Nat.le_of_ble_eq_true rfl | (simp only [Jd, Je, Jr, Js, Jt, Nat.reduceAdd, allOne, oneCell, Bool.and_self, Jc]; first | done | omega)) only [↓Qa, ↓Qb, ↓Qc, Qd, Qe, Qf, Qg, Qh, Qi, Qj, Qk, Ql, Qm, Qn, Qo, Qp, Qq, Qr, Qs, Qt, Qu, Qv, Qw, Qx, Qy, ptrTo, Qz, QA, QB, QC, QD, QE, QF, QG, QH, QI, QJ, QK, QL, QM, QN, QO, QP, QQ, QR, QS, QT, QU, QV, QW, QX, QY, QZ, Ja, Jb, Jc, Jd, Je, Jf, Jg, Jh, Ji, Jj, Jk, Jl, Jm, Jn, Jo, Jp, Jq, Jr, Js, Jt, Nat.reduceAdd]
    refine served_sp hlf (by omega) hu.sl fun m2 e2 => ?_
    have := hk m2 (e1.trans e2)
    unfold svX at this
    rw [pkX_yes h0, h0] at this
    try simp (disch := first | omega | with_unfolding_all exact id rfl | with_unfolding_all exact Nat.le_of_ble_eq_true rfl | (simp only [Jd, Je, Jr, Js, Jt, Nat.reduceAdd, allOne, oneCell, Bool.and_self, Jc]; first | done | omega)) only [↓Qa, ↓Qb, ↓Qc, Qd, Qe, Qf, Qg, Qh, Qi, Qj, Qk, Ql, Qm, Qn, Qo, Qp, Qq, Qr, Qs, Qt, Qu, Qv, Qw, Qx, Qy, ptrTo, Qz, QA, QB, QC, QD, QE, QF, QG, QH, QI, QJ, QK, QL, QM, QN, QO, QP, QQ, QR, QS, QT, QU, QV, QW, QX, QY, QZ, Ja, Jb, Jc, Jd, Je, Jf, Jg, Jh, Ji, Jj, Jk, Jl, Jm, Jn, Jo, Jp, Jq, Jr, Js, Jt, Nat.reduceAdd]
    exact this
theorem rserves_sp {a : Nat} {w : List Nat} {v : Value} (hlf : 1000000 ≤ lf) (hL : L ≤ m.next) (ha : a ≤ 8) (hwl : w.length ≤ a) (hw : ∀ x ∈ w, x < a) (hv : IN m v w)
    (hk : ∀ m', Gt m m' → k (.bool (decide (-1 ∉ parkL a w))) m' = some ()) : runT (tab lf) (n + 4) 59 [.int .i64 (a : Int), v] L m k = some () := by
  rw [r59]; dsimp only [S59, iofNat, inegSucc]
  try simp (disch := first | omega | with_unfolding_all exact id rfl | with_unfolding_all exact Nat.le_of_ble_eq_true rfl | (simp only [Jd, Je, Jr, Js, Jt, Nat.reduceAdd, allOne, oneCell, Bool.and_self, Jc]; first | done | omega)) only [↓Qa, ↓Qb, ↓Qc, Qd, Qe, Qf, Qg, Qh, Qi, Qj, Qk, Ql, Qm, Qn, Qo, Qp, Qq, Qr, Qs, Qt, Qu, Qv, Qw, Qx, Qy, ptrTo, Qz, QA, QB, QC, QD, QE, QF, QG, QH, QI, QJ, QK, QL, QM, QN, QO, QP, QQ, QR, QS, QT, QU, QV, QW, QX, QY, QZ, Ja, Jb, Jc, Jd, Je, Jf, Jg, Jh, Ji, Jj, Jk, Jl, Jm, Jn, Jo, Jp, Jq, Jr, Js, Jt, Nat.reduceAdd]
  refine rpark_sp hlf hL ha hwl hw hv fun u m1 e1 hu => ?_
  refine has_sp hlf hu.il (by rw [parkL_len]; omega) ?_
  try simp (disch := first | omega | with_unfolding_all exact id rfl | with_unfolding_all exact Nat.le_of_ble_eq_true rfl | (simp only [Jd, Je, Jr, Js, Jt, Nat.reduceAdd, allOne, oneCell, Bool.and_self, Jc]; first | done | omega)) only [↓Qa, ↓Qb, ↓Qc, Qd, Qe, Qf, Qg, Qh, Qi, Qj, Qk, Ql, Qm, Qn, Qo, Qp, Qq, Qr, Qs, Qt, Qu, Qv, Qw, Qx, Qy, ptrTo, Qz, QA, QB, QC, QD, QE, QF, QG, QH, QI, QJ, QK, QL, QM, QN, QO, QP, QQ, QR, QS, QT, QU, QV, QW, QX, QY, QZ, Ja, Jb, Jc, Jd, Je, Jf, Jg, Jh, Ji, Jj, Jk, Jl, Jm, Jn, Jo, Jp, Jq, Jr, Js, Jt, Nat.reduceAdd]
  rw [decide_not] at hk
  exact hk m1 e1
theorem rservesX_sp {N : Int} {v : Value} {l : List Int} (hlf : 1000000 ≤ lf) (hL : L ≤ m.next) (hv : IL m v l) (hl : l.length < 1000000)
    (hk : ∀ m', Gt m m' → k (.tuple ⟨[.bool (svX N l), .int .i64 (chkD N (N - 1) l)]⟩) m' = some ()) :
    runT (tab lf) (n + 5) 19 [.int .i64 N, v] L m k = some () := by
  rw [r19]; dsimp only [S19, iofNat, inegSucc]
  try simp (disch := first | omega | with_unfolding_all exact id rfl | with_unfolding_all exact Nat.le_of_ble_eq_true rfl | (simp only [Jd, Je, Jr, Js, Jt, Nat.reduceAdd, allOne, oneCell, Bool.and_self, Jc]; first | done | omega)) only [↓Qa, ↓Qb, ↓Qc, Qd, Qe, Qf, Qg, Qh, Qi, Qj, Qk, Ql, Qm, Qn, Qo, Qp, Qq, Qr, Qs, Qt, Qu, Qv, Qw, Qx, Qy, ptrTo, Qz, QA, QB, QC, QD, QE, QF, QG, QH, QI, QJ, QK, QL, QM, QN, QO, QP, QQ, QR, QS, QT, QU, QV, QW, QX, QY, QZ, Ja, Jb, Jc, Jd, Je, Jf, Jg, Jh, Ji, Jj, Jk, Jl, Jm, Jn, Jo, Jp, Jq, Jr, Js, Jt, Nat.reduceAdd]
  refine rcheck_sp hlf hv hl ?_
  try simp (disch := first | omega | with_unfolding_all exact id rfl | with_unfolding_all exact Nat.le_of_ble_eq_true rfl | (simp only [Jd, Je, Jr, Js, Jt, Nat.reduceAdd, allOne, oneCell, Bool.and_self, Jc]; first | done | omega)) only [↓Qa, ↓Qb, ↓Qc, Qd, Qe, Qf, Qg, Qh, Qi, Qj, Qk, Ql, Qm, Qn, Qo, Qp, Qq, Qr, Qs, Qt, Qu, Qv, Qw, Qx, Qy, ptrTo, Qz, QA, QB, QC, QD, QE, QF, QG, QH, QI, QJ, QK, QL, QM, QN, QO, QP, QQ, QR, QS, QT, QU, QV, QW, QX, QY, QZ, Ja, Jb, Jc, Jd, Je, Jf, Jg, Jh, Ji, Jj, Jk, Jl, Jm, Jn, Jo, Jp, Jq, Jr, Js, Jt, Nat.reduceAdd]
  refine oIf_ndec (fun h => ?_) (fun h => ?_)
  · have := hk m (Gt.refl _)
    unfold svX at this
    rw [decide_eq_false h] at this
    exact this
  · have h0 : chkD N (N - 1) l = 0 := h
    obtain ⟨a, w, rfl, rfl, ha1, ha8, hwl, hw⟩ := chkD_ok h0
    refine rserves_sp hlf hL ha8 hwl hw hv fun m1 e1 => ?_
    have := hk m1 e1
    unfold svX at this
    rw [pkX_yes h0, h0] at this
    exact this
end
end Go.Vit
