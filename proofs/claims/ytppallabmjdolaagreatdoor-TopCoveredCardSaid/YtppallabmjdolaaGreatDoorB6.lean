/- Walks of the group Bond, numbered for this seat by a program: W5. -/
import Derived.Test.YtppallabmjdolaaGreatDoorB5
set_option linter.unusedSimpArgs false
set_option linter.unusedVariables false
namespace Go.Vit
open Go Go.Proofs
attribute [local irreducible] runT loopS
theorem aun_neg {a : Int} (h : fit (-a)) : aun .neg (.int .i64 a) = some (.int .i64 (-a)) := by
  show mkI .i64 (fwrap .i64 (Int.sub 0 a)) = _
  rw [show Int.sub 0 a = -a from Int.zero_sub a, fwrap_fit h, mkI_e]
theorem and_neg_all : ∀ a : Fin 64, a.val ≠ 0 → abits .and .i64 (a.val : Int) (-(a.val : Int)) = (lowb a.val : Int) := by decide +kernel
theorem and_neg {a : Nat} (ha : a < 64) (h0 : a ≠ 0) (k : Value → Option Unit) : oInt .and .i64 (.int .i64 (a : Int)) (.int .i64 (-(a : Int))) k = k (.int .i64 (lowb a : Int)) := by
  rw [oInt_i]
  show oOpt (mkI .i64 (abits .and .i64 (a : Int) (-(a : Int)))) k = _
  rw [and_neg_all ⟨a, ha⟩ h0, mkI_e, oOpt_e]
theorem lows_rec : ∀ a : Fin 64, a.val ≠ 0 → lows 6 a.val = lowb a.val :: lows 6 (a.val &&& (a.val - 1)) ∧ (a.val &&& (a.val - 1)) < a.val ∧ lowb a.val < 64 := by decide +kernel
theorem lows_len_all : ∀ a : Fin 64, (lows 6 a.val).length ≤ 6 := by decide +kernel
theorem stepG_len {g m : Nat} (hg : g < 64) : (stepG g m).length ≤ 6 := by
  unfold stepG
  split
  · rw [List.length_map]; exact lows_len_all ⟨g, hg⟩
  · simp
theorem stepL_len {g : Nat} (hg : g < 64) : ∀ ms : List Nat, (stepL g ms).length ≤ 6 * ms.length
  | [] => by simp [stepL]
  | m :: ms => by
    have := stepL_len hg ms
    have h2 := stepG_len (m := m) hg
    have h3 : stepL g (m :: ms) = stepG g m ++ stepL g ms := rfl
    rw [h3, List.length_append, List.length_cons]
    omega
theorem stepL_take {g : Nat} {ms : List Nat} {i : Nat} (h : i < ms.length) : stepL g (ms.take (i + 1)) = stepL g (ms.take i) ++ stepG g ms[i] := by
  rw [List.take_add_one, List.getElem?_eq_getElem h, Option.toList_some]
  unfold stepL
  rw [List.flatMap_append]
  simp
theorem meetR_take {ms gs : List Nat} {i : Nat} (h : i < gs.length) : meetR ms (gs.take (i + 1)) = minl (stepL gs[i] (meetR ms (gs.take i))) := by
  rw [List.take_add_one, List.getElem?_eq_getElem h, Option.toList_some]
  unfold meetR
  rw [List.foldl_append]
  rfl
theorem meetR_len {gs : List Nat} : (meetR [0] gs).length ≤ 64 ∧ ∀ x ∈ meetR [0] gs, x < 64 := by
  rcases List.eq_nil_or_concat gs with rfl | ⟨l, b, hlb⟩
  · exact ⟨by decide, fun x hx => by simp [meetR] at hx; omega⟩
  · rw [List.concat_eq_append] at hlb
    subst hlb
    rw [show meetR [0] (l ++ [b]) = minl (stepL b (meetR [0] l)) by unfold meetR; rw [List.foldl_append]; rfl]
    exact ⟨minl_len _, fun x hx => minl_lt hx⟩
theorem bu92s (a : Int) (b : Nat) : bu Tryz.prog 97 [(0, .int .i64 a), (1, slTo 1 b)] = some (.agg ⟨[.int .i64 a, slTo 1 b]⟩) := by kernel_rfl
section
variable {lf n L : Nat} {m : Mem} {k : Value → Mem → Option Unit}
theorem meeting_sp {h : Int} {v : Value} {gs : List Nat} (hlf : 1000000 ≤ lf) (hL : L ≤ m.next) (hv : IN m v gs) (hl : gs.length < 1000000) (hs : ∀ x ∈ gs, x < 64)
    (hk : ∀ u m', Gt m m' → IN m' u (meetL gs) → Fsh m.next u → k u m' = some ()) : runT (tabC lf) (n + 6) 57 [Vit.hg h v] L m k = some () := by
  rw [r57]
  dsimp only [S57, iofNat, inegSucc]
  obtain ⟨p, c, rfl⟩ := hv.ex
  have g1 := Mem.gt_push m ⟨1, [.int .i64 h, .slice p gs.length c], none⟩
  have hb : At (m.push ⟨1, [.int .i64 h, .slice p gs.length c], none⟩) m.next _ := At.push m [.int .i64 h, .slice p gs.length c]
  have hn1 : (m.push ⟨1, [.int .i64 h, .slice p gs.length c], none⟩).next = m.next + 1 := rfl
  have hv1 := hv.mono g1
  try simp (disch := first | omega | with_unfolding_all exact id rfl | with_unfolding_all exact Nat.le_of_ble_eq_true rfl | (simp only [Jd, Je, Jr, Js, Jt, Nat.reduceAdd, allOne, oneCell, Bool.and_self, Jc]; first | done | omega)) only [bs22, bu92s, ↓Qa, ↓Qb, ↓Qc, Qd, Qe, Qf, Qg, Qh, Qi, Qj, Qk, Ql, Qm, Qn, Qo, Qp, Qq, Qr, Qs, Qt, Qu, Qv, Qw, Qx, Qy, ptrTo, Qz, QA, QB, QC, QD, QE, QF, QG, QH, QI, QJ, QK, QL, QM, QN, QO, QP, QQ, QR, QS, QT, QU, QV, QW, QX, QY, QZ, Ja, Jb, Jc, Jd, Je, Jf, Jg, Jh, Ji, Jj, Jk, Jl, Jm, Jn, Jo, Jp, Jq, Jr, Js, Jt, Nat.reduceAdd]
  generalize m.push ⟨1, [.int .i64 h, .slice p gs.length c], none⟩ = m1 at g1 hb hv1 hn1 ⊢
  have e1 : Gt m1 ((m1.push ⟨1, [.int .i64 0], none⟩).push ⟨1, [.int .i64 0, .slice none 0 0], none⟩) := (Mem.gt_push _ _).trans (Mem.gt_push _ _)
  have hn2 : ((m1.push ⟨1, [.int .i64 0], none⟩).push ⟨1, [.int .i64 0, .slice none 0 0], none⟩).next = m1.next + 1 + 1 := rfl
  have hz : IN ((m1.push ⟨1, [.int .i64 0], none⟩).push ⟨1, [.int .i64 0, .slice none 0 0], none⟩) (slTo 1 (m.next + 1)) [0] := by
    rw [← hn1]
    exact IL.of (x := none) (c := 1) (o := 0) ((Mem.gt_push _ _).kept _ (by rw [Mem.push_next]; omega) |>.trans (Mem.rd_push m1 ⟨1, [.int .i64 0], none⟩)) (by decide) rfl
  generalize (m1.push ⟨1, [.int .i64 0], none⟩).push ⟨1, [.int .i64 0, .slice none 0 0], none⟩ = m2 at e1 hz hn2 ⊢
  have e2 : Gt m1 (m2.put (m.next + 1 + 1) (some ⟨1, [.int .i64 h, slTo 1 (m.next + 1)], none⟩)) := Mem.put_gt e1 _ (by omega)
  have hz2 := hz.put (b := m.next + 1 + 1) (fun hh => by have : m.next + 1 = m.next + 1 + 1 := Option.some.inj hh; omega) (some ⟨1, [.int .i64 h, slTo 1 (m.next + 1)], none⟩)
  have ho2 : At (m2.put (m.next + 1 + 1) (some ⟨1, [.int .i64 h, slTo 1 (m.next + 1)], none⟩)) (m.next + 1 + 1) [.int .i64 h, slTo 1 (m.next + 1)] := Mem.rd_put_eq _ _ (by omega)
  have hn3 : (m2.put (m.next + 1 + 1) (some ⟨1, [.int .i64 h, slTo 1 (m.next + 1)], none⟩)).next = m2.next := rfl
  generalize m2.put (m.next + 1 + 1) (some ⟨1, [.int .i64 h, slTo 1 (m.next + 1)], none⟩) = m3 at e2 hz2 ho2 hn3 ⊢
  have e2n := e2.next
  refine inner_sp hlf (by omega) (hv1.mono e2) hl hs fun u0 m4 e4 hu0 hf0 => ?_
  have e4n := e4.next
  have hml := minl_len gs
  have hb4 := (hb.mono e2).mono e4
  try simp (disch := first | omega | with_unfolding_all exact id rfl | with_unfolding_all exact Nat.le_of_ble_eq_true rfl | (simp only [Jd, Je, Jr, Js, Jt, Nat.reduceAdd, allOne, oneCell, Bool.and_self, Jc]; first | done | omega)) only [hu0.ln, ↓Qa, ↓Qb, ↓Qc, Qd, Qe, Qf, Qg, Qh, Qi, Qj, Qk, Ql, Qm, Qn, Qo, Qp, Qq, Qr, Qs, Qt, Qu, Qv, Qw, Qx, Qy, ptrTo, Qz, QA, QB, QC, QD, QE, QF, QG, QH, QI, QJ, QK, QL, QM, QN, QO, QP, QQ, QR, QS, QT, QU, QV, QW, QX, QY, QZ, Ja, Jb, Jc, Jd, Je, Jf, Jg, Jh, Ji, Jj, Jk, Jl, Jm, Jn, Jo, Jp, Jq, Jr, Js, Jt, Nat.reduceAdd]
  refine loop_up (minl gs).length (fun i vs m' => vs = [.int .i64 (i : Int)] ∧ Gt m1 m' ∧ m3.next ≤ m'.next ∧ IN m' u0 (minl gs) ∧ ∃ w, At m' (m.next + 1 + 1) [.int .i64 h, w] ∧ IN m' w (meetR [0] ((minl gs).take i)) ∧ Fsh m.next w) (by omega)
    ⟨rfl, e2.trans e4, e4n, hu0, _, ho2.mono e4, hz2.mono e4, fun b hb => by have : m.next + 1 = b := Option.some.inj hb; omega⟩ ?_
  rintro i vs m5 hi ⟨rfl, e5, e5n, hu5, w, ho5, hw5, hf5⟩ self hself
  have e5m := e5.next
  have hb5 := hb.mono e5
  have hb5' := hb5.lt
  obtain ⟨hwl, hws⟩ := meetR_len (gs := (minl gs).take i)
  try simp (disch := first | omega | with_unfolding_all exact id rfl | with_unfolding_all exact Nat.le_of_ble_eq_true rfl | (simp only [Jd, Je, Jr, Js, Jt, Nat.reduceAdd, allOne, oneCell, Bool.and_self, Jc]; first | done | omega)) only [↓Qa, ↓Qb, ↓Qc, Qd, Qe, Qf, Qg, Qh, Qi, Qj, Qk, Ql, Qm, Qn, Qo, Qp, Qq, Qr, Qs, Qt, Qu, Qv, Qw, Qx, Qy, ptrTo, Qz, QA, QB, QC, QD, QE, QF, QG, QH, QI, QJ, QK, QL, QM, QN, QO, QP, QQ, QR, QS, QT, QU, QV, QW, QX, QY, QZ, Ja, Jb, Jc, Jd, Je, Jf, Jg, Jh, Ji, Jj, Jk, Jl, Jm, Jn, Jo, Jp, Jq, Jr, Js, Jt, Nat.reduceAdd]
  refine oIf_dec (fun h1 => ?_) (fun h1 => ?_)
  · have h2 : i < (minl gs).length := by omega
    have h3 : (minl gs)[i] < 64 := minl_lt (List.getElem_mem h2)
    try simp (disch := first | omega | with_unfolding_all exact id rfl | with_unfolding_all exact Nat.le_of_ble_eq_true rfl | (simp only [Jd, Je, Jr, Js, Jt, Nat.reduceAdd, allOne, oneCell, Bool.and_self, Jc]; first | done | omega)) only [hu5.ia h2, hu5.ld h2, ho5.rd, hw5.ln, ↓Qa, ↓Qb, ↓Qc, Qd, Qe, Qf, Qg, Qh, Qi, Qj, Qk, Ql, Qm, Qn, Qo, Qp, Qq, Qr, Qs, Qt, Qu, Qv, Qw, Qx, Qy, ptrTo, Qz, QA, QB, QC, QD, QE, QF, QG, QH, QI, QJ, QK, QL, QM, QN, QO, QP, QQ, QR, QS, QT, QU, QV, QW, QX, QY, QZ, Ja, Jb, Jc, Jd, Je, Jf, Jg, Jh, Ji, Jj, Jk, Jl, Jm, Jn, Jo, Jp, Jq, Jr, Js, Jt, Nat.reduceAdd]
    have hnext := meetR_take (ms := [0]) h2
    generalize (minl gs)[i] = g at h3 hnext ⊢
    generalize meetR [0] ((minl gs).take i) = ws at hw5 hwl hws hnext ⊢
    refine loop_up ws.length (fun j vs m' => ∃ x, vs = [x, .int .i64 (j : Int)] ∧ Gt m5 m' ∧ GN m5.next m' x (stepL g (ws.take j))) (by omega) ⟨_, rfl, Gt.refl _, GN.nil _ _⟩ ?_
    rintro j vs m6 hj ⟨x, rfl, e6, hx6⟩ self2 hself2
    have e6n := e6.next
    have hw6 := hw5.mono e6
    have hlen6 := stepL_len h3 (ws.take j)
    rw [List.length_take] at hlen6
    try simp (disch := first | omega | with_unfolding_all exact id rfl | with_unfolding_all exact Nat.le_of_ble_eq_true rfl | (simp only [Jd, Je, Jr, Js, Jt, Nat.reduceAdd, allOne, oneCell, Bool.and_self, Jc]; first | done | omega)) only [↓Qa, ↓Qb, ↓Qc, Qd, Qe, Qf, Qg, Qh, Qi, Qj, Qk, Ql, Qm, Qn, Qo, Qp, Qq, Qr, Qs, Qt, Qu, Qv, Qw, Qx, Qy, ptrTo, Qz, QA, QB, QC, QD, QE, QF, QG, QH, QI, QJ, QK, QL, QM, QN, QO, QP, QQ, QR, QS, QT, QU, QV, QW, QX, QY, QZ, Ja, Jb, Jc, Jd, Je, Jf, Jg, Jh, Ji, Jj, Jk, Jl, Jm, Jn, Jo, Jp, Jq, Jr, Js, Jt, Nat.reduceAdd]
    refine oIf_dec (fun h4 => ?_) (fun h4 => ?_)
    · have h5 : j < ws.length := by omega
      have h6 := hws _ (List.getElem_mem h5)
      have htk := stepL_take (g := g) h5
      try simp (disch := first | omega | with_unfolding_all exact id rfl | with_unfolding_all exact Nat.le_of_ble_eq_true rfl | (simp only [Jd, Je, Jr, Js, Jt, Nat.reduceAdd, allOne, oneCell, Bool.and_self, Jc]; first | done | omega)) only [hw6.ia h5, hw6.ld h5, oInt_and (a := ws[j]) (b := g) (by omega) (by omega), ↓Qa, ↓Qb, ↓Qc, Qd, Qe, Qf, Qg, Qh, Qi, Qj, Qk, Ql, Qm, Qn, Qo, Qp, Qq, Qr, Qs, Qt, Qu, Qv, Qw, Qx, Qy, ptrTo, Qz, QA, QB, QC, QD, QE, QF, QG, QH, QI, QJ, QK, QL, QM, QN, QO, QP, QQ, QR, QS, QT, QU, QV, QW, QX, QY, QZ, Ja, Jb, Jc, Jd, Je, Jf, Jg, Jh, Ji, Jj, Jk, Jl, Jm, Jn, Jo, Jp, Jq, Jr, Js, Jt, Nat.reduceAdd]
      refine oIf_ndec (fun h7 => ?_) (fun h7 => ?_)
      · obtain ⟨x2, m7, h8, h9, e7, h10⟩ := GN.snoc (P := Tryz.prog) (t := 22) (L := L) (m0 := m5) ws[j] ael22 (by omega) hx6 (by omega) (by omega) e6 (Nat.le_refl _)
        try simp (disch := first | omega | with_unfolding_all exact id rfl | with_unfolding_all exact Nat.le_of_ble_eq_true rfl | (simp only [Jd, Je, Jr, Js, Jt, Nat.reduceAdd, allOne, oneCell, Bool.and_self, Jc]; first | done | omega)) only [bs22, h8, ↓Qa, ↓Qb, ↓Qc, Qd, Qe, Qf, Qg, Qh, Qi, Qj, Qk, Ql, Qm, Qn, Qo, Qp, Qq, Qr, Qs, Qt, Qu, Qv, Qw, Qx, Qy, ptrTo, Qz, QA, QB, QC, QD, QE, QF, QG, QH, QI, QJ, QK, QL, QM, QN, QO, QP, QQ, QR, QS, QT, QU, QV, QW, QX, QY, QZ, Ja, Jb, Jc, Jd, Je, Jf, Jg, Jh, Ji, Jj, Jk, Jl, Jm, Jn, Jo, Jp, Jq, Jr, Js, Jt, Nat.reduceAdd]
        rw [oInt_add ⟨by omega, by omega⟩]
        refine hself2 h5 _ _ ⟨x2, rfl, e7, ?_⟩
        rw [htk, stepG, if_neg (by omega)]
        exact h9.le e6n
      · have h8 : stepG g ws[j] = (lows 6 g).map fun b => ws[j] ||| b := by rw [stepG, if_pos (by omega)]
        rw [h8] at htk
        generalize ws[j] = mm at h6 htk ⊢
        refine loop_of (fun nn vs m' => ∃ (left : Nat) (x : Value) (done : List Nat), nn = left ∧ left < 64 ∧ vs = [x, .int .i64 (left : Int)] ∧ lows 6 g = done ++ lows 6 left ∧ Gt m5 m' ∧ GN m5.next m' x (stepL g (ws.take j) ++ done.map fun b => mm ||| b)) ?_
          ⟨g, x, [], rfl, h3, rfl, rfl, e6, by simpa using hx6⟩ (by omega)
        rintro left vs m7 ⟨_, x, done, rfl, h9, rfl, h10, e7, hx7⟩ self3 hself3
        have e7n := e7.next
        have hlen7 : done.length ≤ 6 := by
          have h11 := lows_len_all ⟨g, h3⟩
          simp only [h10, List.length_append] at h11
          omega
        try simp (disch := first | omega | with_unfolding_all exact id rfl | with_unfolding_all exact Nat.le_of_ble_eq_true rfl | (simp only [Jd, Je, Jr, Js, Jt, Nat.reduceAdd, allOne, oneCell, Bool.and_self, Jc]; first | done | omega)) only [↓Qa, ↓Qb, ↓Qc, Qd, Qe, Qf, Qg, Qh, Qi, Qj, Qk, Ql, Qm, Qn, Qo, Qp, Qq, Qr, Qs, Qt, Qu, Qv, Qw, Qx, Qy, ptrTo, Qz, QA, QB, QC, QD, QE, QF, QG, QH, QI, QJ, QK, QL, QM, QN, QO, QP, QQ, QR, QS, QT, QU, QV, QW, QX, QY, QZ, Ja, Jb, Jc, Jd, Je, Jf, Jg, Jh, Ji, Jj, Jk, Jl, Jm, Jn, Jo, Jp, Jq, Jr, Js, Jt, Nat.reduceAdd]
        refine oIf_ndec (fun h11 => ?_) (fun h11 => ?_)
        · have h12 : left ≠ 0 := by omega
          obtain ⟨h13, h14, h15⟩ := lows_rec ⟨left, h9⟩ h12
          simp only at h13 h14 h15
          rw [aun_neg ⟨by omega, by omega⟩]
          rw [oOpt_e, and_neg h9 h12, oInt_or (a := mm) (b := lowb left) (by omega) (by omega)]
          obtain ⟨x2, m8, h16, h17, e8, h18⟩ := GN.snoc (P := Tryz.prog) (t := 22) (L := L) (m0 := m5) (mm ||| lowb left) ael22 (by omega) hx7 (by rw [List.length_append, List.length_map]; omega) (by omega) e7 (Nat.le_refl _)
          try simp (disch := first | omega | with_unfolding_all exact id rfl | with_unfolding_all exact Nat.le_of_ble_eq_true rfl | (simp only [Jd, Je, Jr, Js, Jt, Nat.reduceAdd, allOne, oneCell, Bool.and_self, Jc]; first | done | omega)) only [bs22, h16, ↓Qa, ↓Qb, ↓Qc, Qd, Qe, Qf, Qg, Qh, Qi, Qj, Qk, Ql, Qm, Qn, Qo, Qp, Qq, Qr, Qs, Qt, Qu, Qv, Qw, Qx, Qy, ptrTo, Qz, QA, QB, QC, QD, QE, QF, QG, QH, QI, QJ, QK, QL, QM, QN, QO, QP, QQ, QR, QS, QT, QU, QV, QW, QX, QY, QZ, Ja, Jb, Jc, Jd, Je, Jf, Jg, Jh, Ji, Jj, Jk, Jl, Jm, Jn, Jo, Jp, Jq, Jr, Js, Jt, Nat.reduceAdd]
          rw [oInt_sub ⟨by omega, by omega⟩]
          rw [show ((left : Int) - 1) = ((left - 1 : Nat) : Int) by omega, oInt_and (a := left) (b := left - 1) (by omega) (by omega)]
          refine hself3 _ _ _ h14 ⟨_, x2, done ++ [lowb left], rfl, by omega, rfl, ?_, e8, ?_⟩
          · rw [h10, h13]; simp
          · rw [List.map_append, ← List.append_assoc]
            exact h17.le e7n
        · obtain rfl : left = 0 := by omega
          try simp (disch := first | omega | with_unfolding_all exact id rfl | with_unfolding_all exact Nat.le_of_ble_eq_true rfl | (simp only [Jd, Je, Jr, Js, Jt, Nat.reduceAdd, allOne, oneCell, Bool.and_self, Jc]; first | done | omega)) only [↓Qa, ↓Qb, ↓Qc, Qd, Qe, Qf, Qg, Qh, Qi, Qj, Qk, Ql, Qm, Qn, Qo, Qp, Qq, Qr, Qs, Qt, Qu, Qv, Qw, Qx, Qy, ptrTo, Qz, QA, QB, QC, QD, QE, QF, QG, QH, QI, QJ, QK, QL, QM, QN, QO, QP, QQ, QR, QS, QT, QU, QV, QW, QX, QY, QZ, Ja, Jb, Jc, Jd, Je, Jf, Jg, Jh, Ji, Jj, Jk, Jl, Jm, Jn, Jo, Jp, Jq, Jr, Js, Jt, Nat.reduceAdd]
          rw [oInt_add ⟨by omega, by omega⟩]
          refine hself2 h5 _ _ ⟨x, rfl, e7, ?_⟩
          have : lows 6 0 = [] := rfl
          rw [this, List.append_nil] at h10
          rw [htk, h10]
          exact hx7
    · have h5 : j = ws.length := by omega
      subst h5
      rw [List.take_length] at hx6
      have hb6 := hb5.mono e6
      have ho6 := ho5.mono e6
      have hlx := stepL_len h3 ws
      have hxs : ∀ y ∈ stepL g ws, y < 64 := fun y hy => by
        obtain ⟨z, hz, hy⟩ := List.mem_flatMap.1 hy
        exact stepG_lt h3 (hws z hz) hy
      obtain ⟨p2, c2, rfl⟩ := hx6.ex
      try simp (disch := first | omega | with_unfolding_all exact id rfl | with_unfolding_all exact Nat.le_of_ble_eq_true rfl | (simp only [Jd, Je, Jr, Js, Jt, Nat.reduceAdd, allOne, oneCell, Bool.and_self, Jc]; first | done | omega)) only [hb6.rd, bu92, ↓Qa, ↓Qb, ↓Qc, Qd, Qe, Qf, Qg, Qh, Qi, Qj, Qk, Ql, Qm, Qn, Qo, Qp, Qq, Qr, Qs, Qt, Qu, Qv, Qw, Qx, Qy, ptrTo, Qz, QA, QB, QC, QD, QE, QF, QG, QH, QI, QJ, QK, QL, QM, QN, QO, QP, QQ, QR, QS, QT, QU, QV, QW, QX, QY, QZ, Ja, Jb, Jc, Jd, Je, Jf, Jg, Jh, Ji, Jj, Jk, Jl, Jm, Jn, Jo, Jp, Jq, Jr, Js, Jt, Nat.reduceAdd]
      refine inner_sp hlf (by omega) hx6.inn (by omega) hxs fun u7 m7 e7 hu7 hf7 => ?_
      have e7n := e7.next
      have ho7 := ho6.mono e7
      obtain ⟨p3, c3, rfl⟩ := hu7.ex
      try simp (disch := first | omega | with_unfolding_all exact id rfl | with_unfolding_all exact Nat.le_of_ble_eq_true rfl | (simp only [Jd, Je, Jr, Js, Jt, Nat.reduceAdd, allOne, oneCell, Bool.and_self, Jc]; first | done | omega)) only [ho7.rd, ↓Qa, ↓Qb, ↓Qc, Qd, Qe, Qf, Qg, Qh, Qi, Qj, Qk, Ql, Qm, Qn, Qo, Qp, Qq, Qr, Qs, Qt, Qu, Qv, Qw, Qx, Qy, ptrTo, Qz, QA, QB, QC, QD, QE, QF, QG, QH, QI, QJ, QK, QL, QM, QN, QO, QP, QQ, QR, QS, QT, QU, QV, QW, QX, QY, QZ, Ja, Jb, Jc, Jd, Je, Jf, Jg, Jh, Ji, Jj, Jk, Jl, Jm, Jn, Jo, Jp, Jq, Jr, Js, Jt, Nat.reduceAdd]
      rw [oInt_add ⟨by omega, by omega⟩]
      have hnb : bid (.slice p3 (minl (stepL g ws)).length c3) ≠ some (m.next + 1 + 1) := fun hh => by have := hf7 _ hh; omega
      refine hself h2 _ _ ⟨rfl, Mem.put_gt ((e5.trans e6).trans e7) _ (by omega), by rw [Mem.put_next]; omega, ((hu5.mono e6).mono e7).put (fun hh => by have := hf0 _ hh; omega) _, _, Mem.rd_put_eq _ _ (by omega), ?_, hf7.le (by omega)⟩
      rw [hnext]
      exact hu7.put hnb _
  · have : i = (minl gs).length := by omega
    subst this
    rw [List.take_length] at hw5
    try simp (disch := first | omega | with_unfolding_all exact id rfl | with_unfolding_all exact Nat.le_of_ble_eq_true rfl | (simp only [Jd, Je, Jr, Js, Jt, Nat.reduceAdd, allOne, oneCell, Bool.and_self, Jc]; first | done | omega)) only [ho5.rd, ↓Qa, ↓Qb, ↓Qc, Qd, Qe, Qf, Qg, Qh, Qi, Qj, Qk, Ql, Qm, Qn, Qo, Qp, Qq, Qr, Qs, Qt, Qu, Qv, Qw, Qx, Qy, ptrTo, Qz, QA, QB, QC, QD, QE, QF, QG, QH, QI, QJ, QK, QL, QM, QN, QO, QP, QQ, QR, QS, QT, QU, QV, QW, QX, QY, QZ, Ja, Jb, Jc, Jd, Je, Jf, Jg, Jh, Ji, Jj, Jk, Jl, Jm, Jn, Jo, Jp, Jq, Jr, Js, Jt, Nat.reduceAdd]
    exact hk w m5 (g1.trans e5) hw5 hf5
end
end Go.Vit
