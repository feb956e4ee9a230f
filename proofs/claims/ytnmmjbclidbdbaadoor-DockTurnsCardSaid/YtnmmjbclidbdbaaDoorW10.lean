/- Walks: Ways, both ways. -/
import Derived.Test.YtnmmjbclidbdbaaDoorW9
set_option linter.unusedSimpArgs false
set_option linter.unusedVariables false
set_option maxRecDepth 20000
namespace Go.Vit
open Go Go.Proofs
attribute [local irreducible] runT loopS
theorem bkN_succ (p : Nat → Bool) (b : Nat) : bkN p (b + 1) = if p b then 1 + bkN p b else 1 := rfl
/-- In how many ways: for each bay its wishes. -/
def prodW (l : List Nat) : Nat → Nat
  | 0 => 1
  | i + 1 => prodW l i * bkN (fun c => decide ((c : Int) ∈ ci (l.take i))) (l.getD i 0)
theorem prodW_le {l : List Nat} {a : Nat} (ha : a ≤ 8) (hw : ∀ x ∈ l, x < a) : ∀ i, i ≤ l.length → prodW l i ≤ 8 ^ i
  | 0, _ => Nat.le_refl _
  | i + 1, h => by
    have ih := prodW_le ha hw i (by omega)
    have h1 := (bkN_le (fun c => decide ((c : Int) ∈ ci (l.take i))) (l.getD i 0)).2
    have h2 : l.getD i 0 < a := by
      rw [List.getD_eq_getElem?_getD, List.getElem?_eq_getElem (by omega)]
      exact hw _ (List.getElem_mem _)
    show prodW l i * _ ≤ 8 ^ i * 8
    exact Nat.mul_le_mul ih (by omega)
theorem prodW_big {l : List Nat} {a : Nat} (ha : a ≤ 8) (hw : ∀ x ∈ l, x < a) {i : Nat} (hi : i ≤ l.length) (hl : i ≤ 8) : prodW l i ≤ 16777216 := by
  have h1 := prodW_le ha hw i hi
  have h2 : 8 ^ i ≤ 8 ^ 8 := Nat.pow_le_pow_right (by omega) hl
  omega
def waE (N : Int) (l : List Int) : Int := if inI N 1 8 then (if N < (l.length : Int) then 3 else difX N l) else 1
def waV (N : Int) (l : List Int) : Int := if waE N l = 0 then (prodW (nnl l) l.length : Int) else 0
theorem difL_ok {N : Int} : ∀ (l acc : List Int), difL N acc l = 0 → (∀ x ∈ l, inI x 0 (N - 1)) ∧ ∀ i (h : i < l.length), l[i] ∉ acc ++ l.take i
  | [], acc, _ => ⟨fun x hx => by (cases hx), fun i h => by (cases h)⟩
  | x :: l, acc, h => by
    unfold difL at h
    split at h
    · rename_i hx
      split at h
      · cases h
      · rename_i hxa
        obtain ⟨h1, h2⟩ := difL_ok l (acc ++ [x]) h
        refine ⟨fun y hy => ?_, fun i hi => ?_⟩
        · rcases List.mem_cons.1 hy with rfl | hy
          · exact hx
          · exact h1 y hy
        · cases i with
          | zero => simpa using hxa
          | succ i =>
            have := h2 i (by simpa using hi)
            simpa using this
    · cases h
section
variable {lf n L : Nat} {m : Mem} {k : Value → Mem → Option Unit}
/-- How many wishes lead to a free bay. -/
theorem backw_sp {a T b : Nat} {acc : List Int} (hlf : 1000000 ≤ lf) (hB : BitsOf a T acc) (hb : b < a) (ha : a ≤ 8)
    (hk : ∀ m', Gt m m' → k (.int .i64 (bkN (fun c => decide ((c : Int) ∈ acc)) b : Int)) m' = some ()) : runT (tab lf) (n + 1) 72 [.agg ⟨[.int .i64 (a : Int), .int .u64 (T : Int)]⟩, .int .i64 (b : Int)] L m k = some () := by
  rw [r72]; dsimp only [S72, iofNat, inegSucc]
  have hab : abox m (.agg ⟨[.int .i64 (a : Int), .int .u64 (T : Int)]⟩) = some (ptrTo m.next, m.push (rowB a T)) := abox_e _ _
  rw [uc_e, uc_e, un0_e, hab, oRes_e, oInt_sub ⟨by omega, by omega⟩]
  have e1 := Mem.gt_push m (rowB a T)
  have q1 : (m.push (rowB a T)).rd m.next = some (rowB a T) := Mem.rd_push _ _
  have hk1 := hk _ e1
  generalize m.push (rowB a T) = m1 at e1 q1 hk1 ⊢
  unfold rowB at q1
  refine loop_of (fun nn vs m' => ∃ s : Nat, nn = b - s ∧ s ≤ b ∧ vs = [.int .i64 ((1 + s : Nat) : Int), .int .i64 ((b : Int) - s - 1)] ∧ m' = m1 ∧ bkN (fun c => decide ((c : Int) ∈ acc)) b = s + bkN (fun c => decide ((c : Int) ∈ acc)) (b - s)) ?_
    ⟨0, rfl, by omega, by rw [show (b : Int) - ((0 : Nat) : Int) - 1 = (b : Int) - 1 by omega]; rfl, rfl, by rw [Nat.zero_add, Nat.sub_zero]⟩ (by omega)
  rintro nn vs m' ⟨s, rfl, hs, rfl, rfl, hbk⟩ self hself
  try simp (disch := first | omega | with_unfolding_all exact id rfl | with_unfolding_all exact Nat.le_of_ble_eq_true rfl | (simp only [Jd, Je, Jr, Js, Jt, Nat.reduceAdd, allOne, oneCell, Bool.and_self, Jc]; first | done | omega)) only [↓Qa, ↓Qb, ↓Qc, Qd, Qe, Qf, Qg, Qh, Qi, Qj, Qk, Ql, Qm, Qn, Qo, Qp, Qq, Qr, Qs, Qt, Qu, Qv, Qw, Qx, Qy, ptrTo, Qz, QA, QB, QC, QD, QE, QF, QG, QH, QI, QJ, QK, QL, QM, QN, QO, QP, QQ, QR, QS, QT, QU, QV, QW, QX, QY, QZ, Ja, Jb, Jc, Jd, Je, Jf, Jg, Jh, Ji, Jj, Jk, Jl, Jm, Jn, Jo, Jp, Jq, Jr, Js, Jt, Nat.reduceAdd]
  refine oGT_dec (fun h => ?_) (fun h => ?_)
  · obtain ⟨c, hc⟩ : ∃ c, b = s + 1 + c := ⟨b - s - 1, by omega⟩
    have hcc : (b : Int) - s - 1 = (c : Int) := by omega
    rw [hcc] at h ⊢
    try simp (disch := first | omega | with_unfolding_all exact id rfl | with_unfolding_all exact Nat.le_of_ble_eq_true rfl | (simp only [Jd, Je, Jr, Js, Jt, Nat.reduceAdd, allOne, oneCell, Bool.and_self, Jc]; first | done | omega)) only [q1, shr_u, decide_eq_true h, ↓Qa, ↓Qb, ↓Qc, Qd, Qe, Qf, Qg, Qh, Qi, Qj, Qk, Ql, Qm, Qn, Qo, Qp, Qq, Qr, Qs, Qt, Qu, Qv, Qw, Qx, Qy, ptrTo, Qz, QA, QB, QC, QD, QE, QF, QG, QH, QI, QJ, QK, QL, QM, QN, QO, QP, QQ, QR, QS, QT, QU, QV, QW, QX, QY, QZ, Ja, Jb, Jc, Jd, Je, Jf, Jg, Jh, Ji, Jj, Jk, Jl, Jm, Jn, Jo, Jp, Jq, Jr, Js, Jt, Nat.reduceAdd]
    rw [bit_e hB.1 (by omega), eql_u, hB.2 c (by omega)]
    have hbs : b - s = c + 1 := by omega
    rw [hbs, bkN_succ] at hbk
    by_cases hin : (c : Int) ∈ acc
    · rw [decide_eq_true hin, if_pos rfl] at hbk
      rw [decide_eq_true hin]
      simp only [if_true, decide_true]
      try simp (disch := first | omega | with_unfolding_all exact id rfl | with_unfolding_all exact Nat.le_of_ble_eq_true rfl | (simp only [Jd, Je, Jr, Js, Jt, Nat.reduceAdd, allOne, oneCell, Bool.and_self, Jc]; first | done | omega)) only [decide_eq_true h, ↓Qa, ↓Qb, ↓Qc, Qd, Qe, Qf, Qg, Qh, Qi, Qj, Qk, Ql, Qm, Qn, Qo, Qp, Qq, Qr, Qs, Qt, Qu, Qv, Qw, Qx, Qy, ptrTo, Qz, QA, QB, QC, QD, QE, QF, QG, QH, QI, QJ, QK, QL, QM, QN, QO, QP, QQ, QR, QS, QT, QU, QV, QW, QX, QY, QZ, Ja, Jb, Jc, Jd, Je, Jf, Jg, Jh, Ji, Jj, Jk, Jl, Jm, Jn, Jo, Jp, Jq, Jr, Js, Jt, Nat.reduceAdd]
      rw [oInt_add ⟨by omega, by omega⟩, oInt_sub ⟨by omega, by omega⟩]
      refine hself _ _ _ (show b - (s + 1) < b - s by omega) ⟨s + 1, rfl, by omega, ?_, rfl, ?_⟩
      · rw [show ((1 + s : Nat) : Int) + 1 = ((1 + (s + 1) : Nat) : Int) by omega, show (c : Int) - 1 = (b : Int) - ((s + 1 : Nat) : Int) - 1 by omega]
      · rw [hbk, show b - (s + 1) = c by omega]; omega
    · rw [decide_eq_false hin, if_neg (by decide)] at hbk
      rw [decide_eq_false hin]
      simp only [Bool.false_eq_true, if_false, show decide ((0 : Int) = 1) = false from rfl]
      try simp (disch := first | omega | with_unfolding_all exact id rfl | with_unfolding_all exact Nat.le_of_ble_eq_true rfl | (simp only [Jd, Je, Jr, Js, Jt, Nat.reduceAdd, allOne, oneCell, Bool.and_self, Jc]; first | done | omega)) only [decide_eq_true h, ↓Qa, ↓Qb, ↓Qc, Qd, Qe, Qf, Qg, Qh, Qi, Qj, Qk, Ql, Qm, Qn, Qo, Qp, Qq, Qr, Qs, Qt, Qu, Qv, Qw, Qx, Qy, ptrTo, Qz, QA, QB, QC, QD, QE, QF, QG, QH, QI, QJ, QK, QL, QM, QN, QO, QP, QQ, QR, QS, QT, QU, QV, QW, QX, QY, QZ, Ja, Jb, Jc, Jd, Je, Jf, Jg, Jh, Ji, Jj, Jk, Jl, Jm, Jn, Jo, Jp, Jq, Jr, Js, Jt, Nat.reduceAdd]
      rw [hbk] at hk1
      rw [show ((1 + s : Nat) : Int) = ((s + 1 : Nat) : Int) by omega]
      exact hk1
  · have hsb : s = b := by omega
    subst hsb
    try simp (disch := first | omega | with_unfolding_all exact id rfl | with_unfolding_all exact Nat.le_of_ble_eq_true rfl | (simp only [Jd, Je, Jr, Js, Jt, Nat.reduceAdd, allOne, oneCell, Bool.and_self, Jc]; first | done | omega)) only [decide_eq_false h, ↓Qa, ↓Qb, ↓Qc, Qd, Qe, Qf, Qg, Qh, Qi, Qj, Qk, Ql, Qm, Qn, Qo, Qp, Qq, Qr, Qs, Qt, Qu, Qv, Qw, Qx, Qy, ptrTo, Qz, QA, QB, QC, QD, QE, QF, QG, QH, QI, QJ, QK, QL, QM, QN, QO, QP, QQ, QR, QS, QT, QU, QV, QW, QX, QY, QZ, Ja, Jb, Jc, Jd, Je, Jf, Jg, Jh, Ji, Jj, Jk, Jl, Jm, Jn, Jo, Jp, Jq, Jr, Js, Jt, Nat.reduceAdd]
    rw [Nat.sub_self] at hbk
    rw [hbk] at hk1
    rw [show ((1 + s : Nat) : Int) = ((s + 1 : Nat) : Int) by omega]
    exact hk1
theorem ways_sp {N : Int} {v : Value} {l : List Int} (hlf : 1000000 ≤ lf) (hL : L ≤ m.next) (hv : IL m v l) (hl : l.length < 1000)
    (hk : ∀ m', Gt m m' → k (.tuple ⟨[.int .i64 (waV N l), .int .i64 (waE N l)]⟩) m' = some ()) : runT (tab lf) (n + 3) 41 [.int .i64 N, v] L m k = some () := by
  rw [r41]; dsimp only [S41, iofNat, inegSucc]
  have hbl := Mem.push_next m ⟨1, [.int .i64 0, .int .u64 0], none⟩
  have e1 : Gt m ((m.push ⟨1, [.int .i64 0, .int .u64 0], none⟩).put m.next (some ⟨1, [.int .i64 N, .int .u64 0], none⟩)) := Mem.put_gt (Mem.gt_push _ _) _ (Nat.le_refl _)
  have q1 : ((m.push ⟨1, [.int .i64 0, .int .u64 0], none⟩).put m.next (some ⟨1, [.int .i64 N, .int .u64 0], none⟩)).rd m.next = some ⟨1, [.int .i64 N, .int .u64 0], none⟩ := Mem.rd_put_eq _ _ (by omega)
  have n1 : ((m.push ⟨1, [.int .i64 0, .int .u64 0], none⟩).put m.next (some ⟨1, [.int .i64 N, .int .u64 0], none⟩)).next = m.next + 1 := by rw [Mem.put_next', hbl]
  try simp (disch := first | omega | with_unfolding_all exact id rfl | with_unfolding_all exact Nat.le_of_ble_eq_true rfl | (simp only [Jd, Je, Jr, Js, Jt, Nat.reduceAdd, allOne, oneCell, Bool.and_self, Jc]; first | done | omega)) only [bu76, ↓Qa, ↓Qb, ↓Qc, Qd, Qe, Qf, Qg, Qh, Qi, Qj, Qk, Ql, Qm, Qn, Qo, Qp, Qq, Qr, Qs, Qt, Qu, Qv, Qw, Qx, Qy, ptrTo, Qz, QA, QB, QC, QD, QE, QF, QG, QH, QI, QJ, QK, QL, QM, QN, QO, QP, QQ, QR, QS, QT, QU, QV, QW, QX, QY, QZ, Ja, Jb, Jc, Jd, Je, Jf, Jg, Jh, Ji, Jj, Jk, Jl, Jm, Jn, Jo, Jp, Jq, Jr, Js, Jt, Nat.reduceAdd]
  generalize (m.push ⟨1, [.int .i64 0, .int .u64 0], none⟩).put m.next (some ⟨1, [.int .i64 N, .int .u64 0], none⟩) = m1 at e1 q1 n1 ⊢
  refine within_sp _ _ _ ?_
  have herr : ∀ e m', Gt m m' → waE N l = e → e ≠ 0 → k (.tuple ⟨[.int .i64 0, .int .i64 e]⟩) m' = some () := fun e m' he h1 h2 => by
    have := hk m' he
    unfold waV at this
    rw [h1, if_neg h2] at this
    exact this
  have hv1 := hv.mono e1
  by_cases hN : inI N 1 8
  · try simp (disch := first | omega | with_unfolding_all exact id rfl | with_unfolding_all exact Nat.le_of_ble_eq_true rfl | (simp only [Jd, Je, Jr, Js, Jt, Nat.reduceAdd, allOne, oneCell, Bool.and_self, Jc]; first | done | omega)) only [decide_eq_true hN, hv1.ln, ↓Qa, ↓Qb, ↓Qc, Qd, Qe, Qf, Qg, Qh, Qi, Qj, Qk, Ql, Qm, Qn, Qo, Qp, Qq, Qr, Qs, Qt, Qu, Qv, Qw, Qx, Qy, ptrTo, Qz, QA, QB, QC, QD, QE, QF, QG, QH, QI, QJ, QK, QL, QM, QN, QO, QP, QQ, QR, QS, QT, QU, QV, QW, QX, QY, QZ, Ja, Jb, Jc, Jd, Je, Jf, Jg, Jh, Ji, Jj, Jk, Jl, Jm, Jn, Jo, Jp, Jq, Jr, Js, Jt, Nat.reduceAdd]
    refine oIf_dec (fun h => ?_) (fun h => ?_)
    · exact herr 3 m1 e1 (by unfold waE; rw [if_pos hN, if_pos h]) (by decide)
    · have hwe : waE N l = difX N l := by unfold waE; rw [if_pos hN, if_neg h]
      refine filled_sp hlf (by omega) hv1 (by omega) (fun hd y m2 e2 => ?_) (fun a T hNa ha1 ha8 hd hin hB m2 e2 => ?_)
      · have n2 := e2.next
        try simp (disch := first | omega | with_unfolding_all exact id rfl | with_unfolding_all exact Nat.le_of_ble_eq_true rfl | (simp only [Jd, Je, Jr, Js, Jt, Nat.reduceAdd, allOne, oneCell, Bool.and_self, Jc]; first | done | omega)) only [↓Qa, ↓Qb, ↓Qc, Qd, Qe, Qf, Qg, Qh, Qi, Qj, Qk, Ql, Qm, Qn, Qo, Qp, Qq, Qr, Qs, Qt, Qu, Qv, Qw, Qx, Qy, ptrTo, Qz, QA, QB, QC, QD, QE, QF, QG, QH, QI, QJ, QK, QL, QM, QN, QO, QP, QQ, QR, QS, QT, QU, QV, QW, QX, QY, QZ, Ja, Jb, Jc, Jd, Je, Jf, Jg, Jh, Ji, Jj, Jk, Jl, Jm, Jn, Jo, Jp, Jq, Jr, Js, Jt, Nat.reduceAdd]
        rw [decide_eq_false hd]
        exact herr _ _ (Mem.put_gt ((e1.trans e2).trans (Mem.gt_push m2 ⟨1, [.int .i64 0, .int .u64 0], none⟩)) _ (by omega)) hwe hd
      · subst hNa
        have n2 := e2.next
        have hk' : ∀ m', Gt m m' → k (.tuple ⟨[.int .i64 (prodW (nnl l) l.length : Int), .int .i64 0]⟩) m' = some () := fun m' he => by
          have := hk m' he
          unfold waV at this
          rw [hwe, hd, if_pos rfl] at this
          exact this
        have hdl : difL (a : Int) [] l = 0 := by unfold difX at hd; rwa [if_pos hN] at hd
        obtain ⟨g1, g2⟩ := difL_ok l [] hdl
        obtain ⟨w, rfl⟩ : ∃ w, l = ci w := ⟨nnl l, by
          unfold ci nnl
          rw [List.map_map]
          conv => lhs; rw [← List.map_id l]
          refine List.map_congr_left fun x hx => ?_
          have := (g1 x hx).1
          show x = ((x.toNat : Nat) : Int)
          omega⟩
        rw [nnl_ci, ci_length] at hk'
        rw [ci_length] at h
        have hw : ∀ x ∈ w, x < a := fun x hx => by
          have := (g1 (x : Int) (List.mem_map.2 ⟨x, hx, rfl⟩)).2; omega
        have hfr : ∀ i (h : i < w.length), ((w[i] : Nat) : Int) ∉ ci (w.take i) := fun i h => by
          have := g2 i (by rw [ci_length]; exact h)
          rw [List.nil_append] at this
          have e1 : (ci w)[i]'(by rw [ci_length]; exact h) = ((w[i] : Nat) : Int) := List.getElem_map _
          rw [e1] at this
          have e2 : (ci w).take i = ci (w.take i) := by unfold ci; rw [List.map_take]
          rwa [e2] at this
        clear herr hk g1 g2
        have e12 := e1.trans e2
        have q2 : m2.rd m.next = some ⟨1, [.int .i64 (a : Int), .int .u64 0], none⟩ := (e2.kept _ (by omega)).trans q1
        have e3 : Gt m2 ((m2.push ⟨1, [.int .i64 0, .int .u64 0], none⟩).put m2.next (some ⟨1, [.int .i64 (a : Int), .int .u64 (T : Int)], none⟩)) := Mem.put_gt (Mem.gt_push _ _) _ (Nat.le_refl _)
        try simp (disch := first | omega | with_unfolding_all exact id rfl | with_unfolding_all exact Nat.le_of_ble_eq_true rfl | (simp only [Jd, Je, Jr, Js, Jt, Nat.reduceAdd, allOne, oneCell, Bool.and_self, Jc]; first | done | omega)) only [hv1.ln, ci_length, ↓Qa, ↓Qb, ↓Qc, Qd, Qe, Qf, Qg, Qh, Qi, Qj, Qk, Ql, Qm, Qn, Qo, Qp, Qq, Qr, Qs, Qt, Qu, Qv, Qw, Qx, Qy, ptrTo, Qz, QA, QB, QC, QD, QE, QF, QG, QH, QI, QJ, QK, QL, QM, QN, QO, QP, QQ, QR, QS, QT, QU, QV, QW, QX, QY, QZ, Ja, Jb, Jc, Jd, Je, Jf, Jg, Jh, Ji, Jj, Jk, Jl, Jm, Jn, Jo, Jp, Jq, Jr, Js, Jt, Nat.reduceAdd]
        generalize (m2.push ⟨1, [.int .i64 0, .int .u64 0], none⟩).put m2.next (some ⟨1, [.int .i64 (a : Int), .int .u64 (T : Int)], none⟩) = m3 at e3 ⊢
        have n3 := e3.next
        have q3 : m3.rd m.next = some (rowB a 0) := (e3.kept _ (by omega)).trans q2
        have hw3 : IN m3 v w := IL.mono hv (e12.trans e3)
        have hvb : ∀ c, bid v = some c → 0 < w.length → c < m.next := fun c hc h0 => Sl.bid_lt hv (by rw [ci_length]; exact h0) c hc
        refine loop_up w.length (fun i vs m' => ∃ T, vs = [.int .i64 (prodW w i : Int), .int .i64 (i : Int)] ∧ Gt m m' ∧ IN m' v w ∧ m.next < m'.next ∧ m'.rd m.next = some (rowB a T) ∧ BitsOf a T (ci (w.take i))) (by omega)
          ⟨0, rfl, e12.trans e3, hw3, by omega, q3, BitsOf.nil a⟩ ?_
        rintro i vs m4 hi ⟨T4, rfl, e4, hv4, l4, q4, hB4⟩ self hself
        try simp (disch := first | omega | with_unfolding_all exact id rfl | with_unfolding_all exact Nat.le_of_ble_eq_true rfl | (simp only [Jd, Je, Jr, Js, Jt, Nat.reduceAdd, allOne, oneCell, Bool.and_self, Jc]; first | done | omega)) only [↓Qa, ↓Qb, ↓Qc, Qd, Qe, Qf, Qg, Qh, Qi, Qj, Qk, Ql, Qm, Qn, Qo, Qp, Qq, Qr, Qs, Qt, Qu, Qv, Qw, Qx, Qy, ptrTo, Qz, QA, QB, QC, QD, QE, QF, QG, QH, QI, QJ, QK, QL, QM, QN, QO, QP, QQ, QR, QS, QT, QU, QV, QW, QX, QY, QZ, Ja, Jb, Jc, Jd, Je, Jf, Jg, Jh, Ji, Jj, Jk, Jl, Jm, Jn, Jo, Jp, Jq, Jr, Js, Jt, Nat.reduceAdd]
        refine oIf_dec (fun h1 => ?_) (fun h1 => ?_)
        · have hil : i < w.length := by omega
          have hwi := hw _ (List.getElem_mem hil)
          have hfi := hfr i hil
          have hps : prodW w (i + 1) = prodW w i * bkN (fun c => decide ((c : Int) ∈ ci (w.take i))) w[i] := by
            show prodW w i * bkN _ (w.getD i 0) = _
            rw [List.getD_eq_getElem?_getD, List.getElem?_eq_getElem hil]; rfl
          have hpb := prodW_big ha8 hw (i := i + 1) (by omega) (by omega)
          have htk : ci (w.take (i + 1)) = ci (w.take i) ++ [((w[i] : Nat) : Int)] := by
            rw [List.take_add_one, List.getElem?_eq_getElem hil]
            unfold ci
            rw [List.map_append]; rfl
          have q4' := q4
          unfold rowB at q4'
          try simp (disch := first | omega | with_unfolding_all exact id rfl | with_unfolding_all exact Nat.le_of_ble_eq_true rfl | (simp only [Jd, Je, Jr, Js, Jt, Nat.reduceAdd, allOne, oneCell, Bool.and_self, Jc]; first | done | omega)) only [hv4.ia hil, hv4.ld hil, q4', ↓Qa, ↓Qb, ↓Qc, Qd, Qe, Qf, Qg, Qh, Qi, Qj, Qk, Ql, Qm, Qn, Qo, Qp, Qq, Qr, Qs, Qt, Qu, Qv, Qw, Qx, Qy, ptrTo, Qz, QA, QB, QC, QD, QE, QF, QG, QH, QI, QJ, QK, QL, QM, QN, QO, QP, QQ, QR, QS, QT, QU, QV, QW, QX, QY, QZ, Ja, Jb, Jc, Jd, Je, Jf, Jg, Jh, Ji, Jj, Jk, Jl, Jm, Jn, Jo, Jp, Jq, Jr, Js, Jt, Nat.reduceAdd]
          generalize w[i] = x at hwi hfi hps htk ⊢
          rw [hps] at hpb hself
          refine backw_sp hlf hB4 hwi ha8 fun m5 e5 => ?_
          have n5 := e5.next
          have q5 : m5.rd m.next = some ⟨1, [.int .i64 (a : Int), .int .u64 (T4 : Int)], none⟩ := (e5.kept _ l4).trans q4'
          rw [oInt_mul ⟨by rw [← Int.natCast_mul]; omega, by rw [← Int.natCast_mul]; omega⟩, ← Int.natCast_mul]
          try simp (disch := first | omega | with_unfolding_all exact id rfl | with_unfolding_all exact Nat.le_of_ble_eq_true rfl | (simp only [Jd, Je, Jr, Js, Jt, Nat.reduceAdd, allOne, oneCell, Bool.and_self, Jc]; first | done | omega)) only [q5, shl_u, ↓Qa, ↓Qb, ↓Qc, Qd, Qe, Qf, Qg, Qh, Qi, Qj, Qk, Ql, Qm, Qn, Qo, Qp, Qq, Qr, Qs, Qt, Qu, Qv, Qw, Qx, Qy, ptrTo, Qz, QA, QB, QC, QD, QE, QF, QG, QH, QI, QJ, QK, QL, QM, QN, QO, QP, QQ, QR, QS, QT, QU, QV, QW, QX, QY, QZ, Ja, Jb, Jc, Jd, Je, Jf, Jg, Jh, Ji, Jj, Jk, Jl, Jm, Jn, Jo, Jp, Jq, Jr, Js, Jt, Nat.reduceAdd]
          rw [or_e hB4.1 (by omega)]
          try simp (disch := first | omega | with_unfolding_all exact id rfl | with_unfolding_all exact Nat.le_of_ble_eq_true rfl | (simp only [Jd, Je, Jr, Js, Jt, Nat.reduceAdd, allOne, oneCell, Bool.and_self, Jc]; first | done | omega)) only [q5, ↓Qa, ↓Qb, ↓Qc, Qd, Qe, Qf, Qg, Qh, Qi, Qj, Qk, Ql, Qm, Qn, Qo, Qp, Qq, Qr, Qs, Qt, Qu, Qv, Qw, Qx, Qy, ptrTo, Qz, QA, QB, QC, QD, QE, QF, QG, QH, QI, QJ, QK, QL, QM, QN, QO, QP, QQ, QR, QS, QT, QU, QV, QW, QX, QY, QZ, Ja, Jb, Jc, Jd, Je, Jf, Jg, Jh, Ji, Jj, Jk, Jl, Jm, Jn, Jo, Jp, Jq, Jr, Js, Jt, Nat.reduceAdd]
          rw [oInt_add ⟨by omega, by omega⟩]
          refine hself hil _ _ ⟨T4 ||| 2 ^ x, rfl, Mem.put_gt (e4.trans e5) _ (Nat.le_refl _), IN.put (hv4.mono e5) ?_ _, by rw [Mem.put_next']; omega, Mem.rd_put_eq _ _ (by omega), ?_⟩
          · intro hb
            have := hvb _ hb (by omega)
            omega
          · rw [htk]; exact hB4.put (by omega)
        · have hiw : i = w.length := by omega
          subst hiw
          exact hk' m4 e4
  · try simp (disch := first | omega | with_unfolding_all exact id rfl | with_unfolding_all exact Nat.le_of_ble_eq_true rfl | (simp only [Jd, Je, Jr, Js, Jt, Nat.reduceAdd, allOne, oneCell, Bool.and_self, Jc]; first | done | omega)) only [decide_eq_false hN, ↓Qa, ↓Qb, ↓Qc, Qd, Qe, Qf, Qg, Qh, Qi, Qj, Qk, Ql, Qm, Qn, Qo, Qp, Qq, Qr, Qs, Qt, Qu, Qv, Qw, Qx, Qy, ptrTo, Qz, QA, QB, QC, QD, QE, QF, QG, QH, QI, QJ, QK, QL, QM, QN, QO, QP, QQ, QR, QS, QT, QU, QV, QW, QX, QY, QZ, Ja, Jb, Jc, Jd, Je, Jf, Jg, Jh, Ji, Jj, Jk, Jl, Jm, Jn, Jo, Jp, Jq, Jr, Js, Jt, Nat.reduceAdd]
    exact herr 1 m1 e1 (by unfold waE; rw [if_neg hN]) (by decide)
theorem rways_sp {N : Int} {v : Value} {l : List Int} (hlf : 1000000 ≤ lf) (hL : L ≤ m.next) (hv : IL m v l) (ho : Opn v) (hl : l.length < 1000)
    (hk : k (.tuple ⟨[.int .i64 (waV N l), .int .i64 (waE N l)]⟩) m = some ()) : runT (tab lf) (n + 3) 42 [.int .i64 N, v] L m k = some () := by
  rw [r42]; dsimp only [S42, iofNat, inegSucc]
  try simp (disch := first | omega | with_unfolding_all exact id rfl | with_unfolding_all exact Nat.le_of_ble_eq_true rfl | (simp only [Jd, Je, Jr, Js, Jt, Nat.reduceAdd, allOne, oneCell, Bool.and_self, Jc]; first | done | omega)) only [↓Qa, ↓Qb, ↓Qc, Qd, Qe, Qf, Qg, Qh, Qi, Qj, Qk, Ql, Qm, Qn, Qo, Qp, Qq, Qr, Qs, Qt, Qu, Qv, Qw, Qx, Qy, ptrTo, Qz, QA, QB, QC, QD, QE, QF, QG, QH, QI, QJ, QK, QL, QM, QN, QO, QP, QQ, QR, QS, QT, QU, QV, QW, QX, QY, QZ, Ja, Jb, Jc, Jd, Je, Jf, Jg, Jh, Ji, Jj, Jk, Jl, Jm, Jn, Jo, Jp, Jq, Jr, Js, Jt, Nat.reduceAdd]
  refine in_sp _ _ _ ?_
  have herr : ∀ e, waE N l = e → e ≠ 0 → k (.tuple ⟨[.int .i64 0, .int .i64 e]⟩) m = some () := fun e h1 h2 => by
    have := hk
    unfold waV at this
    rw [h1, if_neg h2] at this
    exact this
  by_cases hN : inI N 1 8
  · try simp (disch := first | omega | with_unfolding_all exact id rfl | with_unfolding_all exact Nat.le_of_ble_eq_true rfl | (simp only [Jd, Je, Jr, Js, Jt, Nat.reduceAdd, allOne, oneCell, Bool.and_self, Jc]; first | done | omega)) only [decide_eq_true hN, hv.ln, ↓Qa, ↓Qb, ↓Qc, Qd, Qe, Qf, Qg, Qh, Qi, Qj, Qk, Ql, Qm, Qn, Qo, Qp, Qq, Qr, Qs, Qt, Qu, Qv, Qw, Qx, Qy, ptrTo, Qz, QA, QB, QC, QD, QE, QF, QG, QH, QI, QJ, QK, QL, QM, QN, QO, QP, QQ, QR, QS, QT, QU, QV, QW, QX, QY, QZ, Ja, Jb, Jc, Jd, Je, Jf, Jg, Jh, Ji, Jj, Jk, Jl, Jm, Jn, Jo, Jp, Jq, Jr, Js, Jt, Nat.reduceAdd]
    refine oIf_dec (fun h => ?_) (fun h => ?_)
    · exact herr 3 (by unfold waE; rw [if_pos hN, if_pos h]) (by decide)
    · have hwe : waE N l = difX N l := by unfold waE; rw [if_pos hN, if_neg h]
      have hdx : difX N l = difL N [] l := if_pos hN
      refine different_sp hlf hN hv ho (by omega) ?_
      try simp (disch := first | omega | with_unfolding_all exact id rfl | with_unfolding_all exact Nat.le_of_ble_eq_true rfl | (simp only [Jd, Je, Jr, Js, Jt, Nat.reduceAdd, allOne, oneCell, Bool.and_self, Jc]; first | done | omega)) only [↓Qa, ↓Qb, ↓Qc, Qd, Qe, Qf, Qg, Qh, Qi, Qj, Qk, Ql, Qm, Qn, Qo, Qp, Qq, Qr, Qs, Qt, Qu, Qv, Qw, Qx, Qy, ptrTo, Qz, QA, QB, QC, QD, QE, QF, QG, QH, QI, QJ, QK, QL, QM, QN, QO, QP, QQ, QR, QS, QT, QU, QV, QW, QX, QY, QZ, Ja, Jb, Jc, Jd, Je, Jf, Jg, Jh, Ji, Jj, Jk, Jl, Jm, Jn, Jo, Jp, Jq, Jr, Js, Jt, Nat.reduceAdd]
      refine oIf_ndec (fun h1 => ?_) (fun h1 => ?_)
      · exact herr _ (by rw [hwe, hdx]) h1
      · have hd : difL N [] l = 0 := h1
        obtain ⟨hN1, hN2⟩ := id hN
        obtain ⟨a, rfl⟩ : ∃ a : Nat, N = a := ⟨N.toNat, by omega⟩
        have hk' : k (.tuple ⟨[.int .i64 (prodW (nnl l) l.length : Int), .int .i64 0]⟩) m = some () := by
          have := hk
          unfold waV at this
          rw [hwe, hdx, hd, if_pos rfl] at this
          exact this
        obtain ⟨g1, g2⟩ := difL_ok l [] hd
        obtain ⟨w, rfl⟩ : ∃ w, l = ci w := ⟨nnl l, by
          unfold ci nnl
          rw [List.map_map]
          conv => lhs; rw [← List.map_id l]
          refine List.map_congr_left fun x hx => ?_
          have := (g1 x hx).1
          show x = ((x.toNat : Nat) : Int)
          omega⟩
        rw [nnl_ci, ci_length] at hk'
        rw [ci_length] at h hl
        have hw : ∀ x ∈ w, x < a := fun x hx => by
          have := (g1 (x : Int) (List.mem_map.2 ⟨x, hx, rfl⟩)).2; omega
        have hfr : ∀ i (h : i < w.length), ((w[i] : Nat) : Int) ∉ ci (w.take i) := fun i h => by
          have := g2 i (by rw [ci_length]; exact h)
          rw [List.nil_append] at this
          have e1 : (ci w)[i]'(by rw [ci_length]; exact h) = ((w[i] : Nat) : Int) := List.getElem_map _
          rw [e1] at this
          have e2 : (ci w).take i = ci (w.take i) := by unfold ci; rw [List.map_take]
          rwa [e2] at this
        clear herr hk g1 g2 hd hdx hwe h1
        have hcw := ci_length w
        have ha8 : a ≤ 8 := by omega
        have hv1 : IN m v w := hv
        refine loop_up w.length (fun i vs m' => vs = [.int .i64 (prodW w i : Int), .int .i64 (i : Int)] ∧ m' = m) (by omega) ⟨rfl, rfl⟩ ?_
        rintro i vs m' hi ⟨rfl, rfl⟩ self hself
        try simp (disch := first | omega | with_unfolding_all exact id rfl | with_unfolding_all exact Nat.le_of_ble_eq_true rfl | (simp only [Jd, Je, Jr, Js, Jt, Nat.reduceAdd, allOne, oneCell, Bool.and_self, Jc]; first | done | omega)) only [hv1.ln, ↓Qa, ↓Qb, ↓Qc, Qd, Qe, Qf, Qg, Qh, Qi, Qj, Qk, Ql, Qm, Qn, Qo, Qp, Qq, Qr, Qs, Qt, Qu, Qv, Qw, Qx, Qy, ptrTo, Qz, QA, QB, QC, QD, QE, QF, QG, QH, QI, QJ, QK, QL, QM, QN, QO, QP, QQ, QR, QS, QT, QU, QV, QW, QX, QY, QZ, Ja, Jb, Jc, Jd, Je, Jf, Jg, Jh, Ji, Jj, Jk, Jl, Jm, Jn, Jo, Jp, Jq, Jr, Js, Jt, Nat.reduceAdd]
        refine oIf_dec (fun h1 => ?_) (fun h1 => ?_)
        · have hil : i < w.length := by omega
          have hwi := hw _ (List.getElem_mem hil)
          have hfi := hfr i hil
          have hps : prodW w (i + 1) = prodW w i * bkN (fun c => decide ((c : Int) ∈ ci (w.take i))) w[i] := by
            show prodW w i * bkN _ (w.getD i 0) = _
            rw [List.getD_eq_getElem?_getD, List.getElem?_eq_getElem hil]; rfl
          have hpb := prodW_big ha8 hw (i := i + 1) (by omega) (by omega)
          obtain ⟨u, hsl, hou, hu⟩ := Opn.preI (P := Tryd.prog) u22 ts3 ho hv (k := i) (by rw [ci_length]; omega) (by rw [ci_length]; omega)
          have htc : (ci w).take i = ci (w.take i) := by unfold ci; rw [List.map_take]
          rw [htc] at hu
          have hlead := lead_cnt hwi hfi
          rw [hps] at hpb hself
          rw [← hlead] at hpb hself
          have hcnt : ∀ j, j ≤ a → ((List.range j).filter fun x => decide (bayOf a (ci (w.take i)) x = ((w[i] : Nat) : Int))).length ≤ j := fun j _ => by
            have := List.length_filter_le (fun x => decide (bayOf a (ci (w.take i)) x = ((w[i] : Nat) : Int))) (List.range j)
            rwa [List.length_range] at this
          refine loop_up a (fun j vs m2 => vs = [.int .i64 (((List.range j).filter fun x => decide (bayOf a (ci (w.take i)) x = ((w[i] : Nat) : Int))).length : Int), .int .i64 (j : Int)] ∧ m2 = m') (by omega) ⟨rfl, rfl⟩ ?_
          rintro j vs m2 hj ⟨rfl, rfl⟩ self2 hself2
          try simp (disch := first | omega | with_unfolding_all exact id rfl | with_unfolding_all exact Nat.le_of_ble_eq_true rfl | (simp only [Jd, Je, Jr, Js, Jt, Nat.reduceAdd, allOne, oneCell, Bool.and_self, Jc]; first | done | omega)) only [↓Qa, ↓Qb, ↓Qc, Qd, Qe, Qf, Qg, Qh, Qi, Qj, Qk, Ql, Qm, Qn, Qo, Qp, Qq, Qr, Qs, Qt, Qu, Qv, Qw, Qx, Qy, ptrTo, Qz, QA, QB, QC, QD, QE, QF, QG, QH, QI, QJ, QK, QL, QM, QN, QO, QP, QQ, QR, QS, QT, QU, QV, QW, QX, QY, QZ, Ja, Jb, Jc, Jd, Je, Jf, Jg, Jh, Ji, Jj, Jk, Jl, Jm, Jn, Jo, Jp, Jq, Jr, Js, Jt, Nat.reduceAdd]
          have hcj := hcnt j hj
          refine oIf_dec (fun h2 => ?_) (fun h2 => ?_)
          · rw [hsl, oOpt_e]
            refine rnext_sp hlf (by omega) (by omega) hu (by rw [ci_length, List.length_take]; omega) ?_
            try simp (disch := first | omega | with_unfolding_all exact id rfl | with_unfolding_all exact Nat.le_of_ble_eq_true rfl | (simp only [Jd, Je, Jr, Js, Jt, Nat.reduceAdd, allOne, oneCell, Bool.and_self, Jc]; first | done | omega)) only [hv1.ia hil, hv1.ld hil, ↓Qa, ↓Qb, ↓Qc, Qd, Qe, Qf, Qg, Qh, Qi, Qj, Qk, Ql, Qm, Qn, Qo, Qp, Qq, Qr, Qs, Qt, Qu, Qv, Qw, Qx, Qy, ptrTo, Qz, QA, QB, QC, QD, QE, QF, QG, QH, QI, QJ, QK, QL, QM, QN, QO, QP, QQ, QR, QS, QT, QU, QV, QW, QX, QY, QZ, Ja, Jb, Jc, Jd, Je, Jf, Jg, Jh, Ji, Jj, Jk, Jl, Jm, Jn, Jo, Jp, Jq, Jr, Js, Jt, Nat.reduceAdd]
            rw [List.range_succ, List.filter_append, List.length_append] at hself2
            refine oIf_dec (fun h3 => ?_) (fun h3 => ?_)
            · rw [List.filter_cons_of_pos (by simpa using h3)] at hself2
              rw [oInt_add ⟨by omega, by omega⟩, oInt_add ⟨by omega, by omega⟩]
              exact hself2 (by omega) _ _ ⟨rfl, rfl⟩
            · rw [List.filter_cons_of_neg (by simpa using h3)] at hself2
              rw [oInt_add ⟨by omega, by omega⟩]
              exact hself2 (by omega) _ _ ⟨rfl, rfl⟩
          · have hja : j = a := by omega
            subst hja
            rw [oInt_mul ⟨by rw [← Int.natCast_mul]; omega, by rw [← Int.natCast_mul]; omega⟩, ← Int.natCast_mul, oInt_add ⟨by omega, by omega⟩]
            exact hself hil _ _ ⟨rfl, rfl⟩
        · have hiw : i = w.length := by omega
          subst hiw
          exact hk'
  · try simp (disch := first | omega | with_unfolding_all exact id rfl | with_unfolding_all exact Nat.le_of_ble_eq_true rfl | (simp only [Jd, Je, Jr, Js, Jt, Nat.reduceAdd, allOne, oneCell, Bool.and_self, Jc]; first | done | omega)) only [decide_eq_false hN, ↓Qa, ↓Qb, ↓Qc, Qd, Qe, Qf, Qg, Qh, Qi, Qj, Qk, Ql, Qm, Qn, Qo, Qp, Qq, Qr, Qs, Qt, Qu, Qv, Qw, Qx, Qy, ptrTo, Qz, QA, QB, QC, QD, QE, QF, QG, QH, QI, QJ, QK, QL, QM, QN, QO, QP, QQ, QR, QS, QT, QU, QV, QW, QX, QY, QZ, Ja, Jb, Jc, Jd, Je, Jf, Jg, Jh, Ji, Jj, Jk, Jl, Jm, Jn, Jo, Jp, Jq, Jr, Js, Jt, Nat.reduceAdd]
    exact herr 1 (by unfold waE; rw [if_neg hN]) (by decide)
end
end Go.Vit
