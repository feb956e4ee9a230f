/- The law DockPollak: its walk. -/
import Derived.Test.YtnmmjbclidbdbaaDoorW10
import Derived.Test.YtnmmjbclidbdbaaDoorDockProvedAll
set_option linter.unusedSimpArgs false
set_option linter.unusedVariables false
set_option maxRecDepth 20000
namespace Go.Vit
open Go Go.Proofs
attribute [local irreducible] runT loopS
theorem chkT_nat {n : Nat} {w : List Nat} (h1 : 1 ≤ n) (h8 : n ≤ 8) (hl : w.length ≤ n) (hw : ∀ x ∈ w, x ≤ n) : chkD (n : Int) (n : Int) (ci w) = 0 := by
  unfold chkD
  rw [if_pos ⟨by omega, by omega⟩, if_neg (by rw [ci_length]; omega), if_pos]
  intro x hx
  obtain ⟨y, hy, rfl⟩ := List.mem_map.1 hx
  have := hw y hy
  exact ⟨by show (0 : Int) ≤ (y : Int); omega, by show (y : Int) ≤ (n : Int); omega⟩
section
variable {lf n L : Nat} {m : Mem} {k : Value → Mem → Option Unit}
set_option maxHeartbeats 4000000 in
theorem pollak_sp {a0 a1 : Nat} {gl : List Nat} (hlf : 1000000 ≤ lf) (hL : L ≤ m.next) (hT : TabOk mTab m) (h0 : a0 < 256) (h1 : a1 < 256) (hlen : gl.length = 8) (hg : ∀ g ∈ gl, g < 256)
    (hk : ∀ m', Gt m m' → k (.bool true) m' = some ()) : runT (tab lf) (n + 10) 10 [sealV a0 a1 gl] L m k = some () := by
  rw [r10]; dsimp only [S10, iofNat, inegSucc]
  rw [uc_e, un0_e]
  refine carts_sp (n := n + 8) (most := 8) (more := 1) hlf hL h0 h1 hlen hg (by omega) (by omega) (by omega) fun v m1 e1 hv => ?_
  have n1 := e1.next
  have hN := madeN_bd (a0 := a0) (most := 8) (by omega)
  have hwl := madeL_len a1 gl (madeN a0 8) 1
  have hw := madeL_lt (a1 := a1) (gl := gl) (n := madeN a0 8) (more := 1) (by omega)
  generalize madeL a1 gl (madeN a0 8) 1 = w at hv hwl hw ⊢
  generalize madeN a0 8 = a at hN hwl hw ⊢
  obtain ⟨ha1, ha8⟩ := hN
  have hw' : ∀ x ∈ w, x ≤ a := fun x hx => by have := hw x hx; omega
  have hcw := ci_length w
  have hok : chkD (a : Int) (a : Int) (ci w) = 0 := chkT_nat ha1 ha8 hwl hw'
  have htu : tuX (a : Int) (ci w) = turnL a w := by unfold tuX; rw [if_pos hok, nnl_ci]; rfl
  have htl := turnL_count hw' hwl
  have hvI : IL m1 v (ci w) := hv.inn
  have hv1 : IN m1 v w := hv.inn
  try simp (disch := first | omega | with_unfolding_all exact id rfl | with_unfolding_all exact Nat.le_of_ble_eq_true rfl | (simp only [Jd, Je, Jr, Js, Jt, Nat.reduceAdd, allOne, oneCell, Bool.and_self, Jc]; first | done | omega)) only [↓Qa, ↓Qb, Qd, Qe, Qf, Qg, Qh, Qi, Qj, Qk, Ql, Qm, Qn, Qo, Qp, Qq, Qr, Qs, Qt, Qu, Qv, Qw, Qx, Qy, ptrTo, Qz, QA, QB, QC, QD, QE, QF, QG, QH, QI, QJ, QK, QL, QM, QN, QO, QP, QQ, QR, QS, QT, QU, QV, QW, QX, QY, QZ, Ja, Jb, Jc, Jd, Je, Jf, Jg, Jh, Ji, Jj, Jk, Jl, Jm, Jn, Jo, Jp, Jq, Jr, Js, Jt, Nat.reduceAdd]
  refine turns_sp hlf (by omega) hvI (by omega) fun u1 m2 e2 hu1 => ?_
  rw [htu] at hu1
  rw [hok]
  have n2 := e2.next
  have e12 := e1.trans e2
  have hv2 := hv1.mono e2
  try simp (disch := first | omega | with_unfolding_all exact id rfl | with_unfolding_all exact Nat.le_of_ble_eq_true rfl | (simp only [Jd, Je, Jr, Js, Jt, Nat.reduceAdd, allOne, oneCell, Bool.and_self, Jc]; first | done | omega)) only [hu1.ln, hv2.ln, ↓Qa, ↓Qb, Qd, Qe, Qf, Qg, Qh, Qi, Qj, Qk, Ql, Qm, Qn, Qo, Qp, Qq, Qr, Qs, Qt, Qu, Qv, Qw, Qx, Qy, ptrTo, Qz, QA, QB, QC, QD, QE, QF, QG, QH, QI, QJ, QK, QL, QM, QN, QO, QP, QQ, QR, QS, QT, QU, QV, QW, QX, QY, QZ, Ja, Jb, Jc, Jd, Je, Jf, Jg, Jh, Ji, Jj, Jk, Jl, Jm, Jn, Jo, Jp, Jq, Jr, Js, Jt, Nat.reduceAdd]
  rw [join_e]
  try simp (disch := first | omega | with_unfolding_all exact id rfl | with_unfolding_all exact Nat.le_of_ble_eq_true rfl | (simp only [Jd, Je, Jr, Js, Jt, Nat.reduceAdd, allOne, oneCell, Bool.and_self, Jc]; first | done | omega)) only [hu1.ln, hv2.ln, ↓Qa, ↓Qb, Qd, Qe, Qf, Qg, Qh, Qi, Qj, Qk, Ql, Qm, Qn, Qo, Qp, Qq, Qr, Qs, Qt, Qu, Qv, Qw, Qx, Qy, ptrTo, Qz, QA, QB, QC, QD, QE, QF, QG, QH, QI, QJ, QK, QL, QM, QN, QO, QP, QQ, QR, QS, QT, QU, QV, QW, QX, QY, QZ, Ja, Jb, Jc, Jd, Je, Jf, Jg, Jh, Ji, Jj, Jk, Jl, Jm, Jn, Jo, Jp, Jq, Jr, Js, Jt, Nat.reduceAdd]
  rw [oInt_add ⟨by omega, by omega⟩, oInt_sub ⟨by omega, by omega⟩]
  rw [htl]
  rw [show (a : Int) + 1 - (w.length : Int) = ((a + 1 - w.length : Nat) : Int) by omega]
  try simp (disch := first | omega | with_unfolding_all exact id rfl | with_unfolding_all exact Nat.le_of_ble_eq_true rfl | (simp only [Jd, Je, Jr, Js, Jt, Nat.reduceAdd, allOne, oneCell, Bool.and_self, Jc]; first | done | omega)) only [↓Qa, ↓Qb, Qd, Qe, Qf, Qg, Qh, Qi, Qj, Qk, Ql, Qm, Qn, Qo, Qp, Qq, Qr, Qs, Qt, Qu, Qv, Qw, Qx, Qy, ptrTo, Qz, QA, QB, QC, QD, QE, QF, QG, QH, QI, QJ, QK, QL, QM, QN, QO, QP, QQ, QR, QS, QT, QU, QV, QW, QX, QY, QZ, Ja, Jb, Jc, Jd, Je, Jf, Jg, Jh, Ji, Jj, Jk, Jl, Jm, Jn, Jo, Jp, Jq, Jr, Js, Jt, Nat.reduceAdd]
  rw [oInt_add ⟨by omega, by omega⟩, show (a : Int) + 1 = ((a + 1 : Nat) : Int) by omega]
  refine loop_up (a + 1) (fun j vs m' => ∃ u, vs = [u, .int .i64 (j : Int)] ∧ Gt m2 m' ∧ GN m2.next m' u ((List.range j).filter fun s => !circ (a + 1) (fun _ => false) w (a - s))) (by omega) ⟨_, rfl, Gt.refl _, GN.nil _ _⟩ ?_
  rintro j vs m3 hj ⟨u, rfl, e3, hu⟩ self2 hself2
  have n3 := e3.next
  have hlenj : ((List.range j).filter fun s => !circ (a + 1) (fun _ => false) w (a - s)).length ≤ j := by
    have := List.length_filter_le (fun s => !circ (a + 1) (fun _ => false) w (a - s)) (List.range j)
    rwa [List.length_range] at this
  rw [turnI_succ] at hself2
  have hv3 := hv2.mono e3
  try simp (disch := first | omega | with_unfolding_all exact id rfl | with_unfolding_all exact Nat.le_of_ble_eq_true rfl | (simp only [Jd, Je, Jr, Js, Jt, Nat.reduceAdd, allOne, oneCell, Bool.and_self, Jc]; first | done | omega)) only [↓Qa, ↓Qb, Qd, Qe, Qf, Qg, Qh, Qi, Qj, Qk, Ql, Qm, Qn, Qo, Qp, Qq, Qr, Qs, Qt, Qu, Qv, Qw, Qx, Qy, ptrTo, Qz, QA, QB, QC, QD, QE, QF, QG, QH, QI, QJ, QK, QL, QM, QN, QO, QP, QQ, QR, QS, QT, QU, QV, QW, QX, QY, QZ, Ja, Jb, Jc, Jd, Je, Jf, Jg, Jh, Ji, Jj, Jk, Jl, Jm, Jn, Jo, Jp, Jq, Jr, Js, Jt, Nat.reduceAdd]
  refine oIf_dec (fun h2 => ?_) (fun h2 => ?_)
  · have hja : j ≤ a := by omega
    try simp (disch := first | omega | with_unfolding_all exact id rfl | with_unfolding_all exact Nat.le_of_ble_eq_true rfl | (simp only [Jd, Je, Jr, Js, Jt, Nat.reduceAdd, allOne, oneCell, Bool.and_self, Jc]; first | done | omega)) only [hv3.ln, ↓Qa, ↓Qb, Qd, Qe, Qf, Qg, Qh, Qi, Qj, Qk, Ql, Qm, Qn, Qo, Qp, Qq, Qr, Qs, Qt, Qu, Qv, Qw, Qx, Qy, ptrTo, Qz, QA, QB, QC, QD, QE, QF, QG, QH, QI, QJ, QK, QL, QM, QN, QO, QP, QQ, QR, QS, QT, QU, QV, QW, QX, QY, QZ, Ja, Jb, Jc, Jd, Je, Jf, Jg, Jh, Ji, Jj, Jk, Jl, Jm, Jn, Jo, Jp, Jq, Jr, Js, Jt, Nat.reduceAdd]
    refine loop_up w.length (fun q vs m4 => ∃ x, vs = [x, .int .i64 (q : Int)] ∧ Gt m3 m4 ∧ GN m3.next m4 x ((w.take q).map fun p => (p + j) % (a + 1))) (by omega) ⟨_, rfl, Gt.refl _, GN.nil _ _⟩ ?_
    rintro q vs m4 hq ⟨x, rfl, e4, hx⟩ self3 hself3
    have n4 := e4.next
    have hv4 := hv3.mono e4
    try simp (disch := first | omega | with_unfolding_all exact id rfl | with_unfolding_all exact Nat.le_of_ble_eq_true rfl | (simp only [Jd, Je, Jr, Js, Jt, Nat.reduceAdd, allOne, oneCell, Bool.and_self, Jc]; first | done | omega)) only [↓Qa, ↓Qb, Qd, Qe, Qf, Qg, Qh, Qi, Qj, Qk, Ql, Qm, Qn, Qo, Qp, Qq, Qr, Qs, Qt, Qu, Qv, Qw, Qx, Qy, ptrTo, Qz, QA, QB, QC, QD, QE, QF, QG, QH, QI, QJ, QK, QL, QM, QN, QO, QP, QQ, QR, QS, QT, QU, QV, QW, QX, QY, QZ, Ja, Jb, Jc, Jd, Je, Jf, Jg, Jh, Ji, Jj, Jk, Jl, Jm, Jn, Jo, Jp, Jq, Jr, Js, Jt, Nat.reduceAdd]
    refine oIf_dec (fun h3 => ?_) (fun h3 => ?_)
    · have hqw : q < w.length := by omega
      have hwq := hw' _ (List.getElem_mem hqw)
      rw [hv4.ia hqw, oOpt_e, hv4.ld hqw, oOpt_e, oInt_addN (by omega), oInt_add ⟨by omega, by omega⟩, show (a : Int) + 1 = ((a + 1 : Nat) : Int) by omega, oInt_remN (by omega)]
      obtain ⟨u', m5, s1, s2, s3, s4, s5⟩ := GL.snocV (P := Tryd.prog) (L := L) (m0 := m3) (((w[q] + j) % (a + 1) : Nat) : Int) ael22 (by omega) hx (by rw [ci_length, List.length_map, List.length_take]; omega) (by omega) e4 (Nat.le_refl _)
      rw [bs22, oRes_e, s1, oRes_e, oInt_add ⟨by omega, by omega⟩]
      refine hself3 hqw _ _ ⟨u', rfl, s3, ?_⟩
      rw [List.take_add_one, List.getElem?_eq_getElem hqw, Option.toList_some, List.map_append]
      unfold GN
      rw [show ci ((w.take q).map (fun p => (p + j) % (a + 1)) ++ [w[q]].map fun p => (p + j) % (a + 1)) = ci ((w.take q).map fun p => (p + j) % (a + 1)) ++ [(((w[q] + j) % (a + 1) : Nat) : Int)] by simp [ci]]
      exact s2.le n4
    · have hqw : q = w.length := by omega
      subst hqw
      rw [List.take_length] at hx
      have htf := turn_free (a := a) (s := j) (l := w) hja hw'
      have htlen : (w.map fun p => (p + j) % (a + 1)).length = w.length := List.length_map _
      have htle : ∀ p ∈ (w.map fun p => (p + j) % (a + 1)), p ≤ a := fun p hp => by
        obtain ⟨y, _, rfl⟩ := List.mem_map.1 hp
        have := Nat.mod_lt (y + j) (show 0 < a + 1 by omega)
        omega
      generalize (w.map fun p => (p + j) % (a + 1)) = t at hx htf htlen htle
      have hxI : IL m4 x (ci t) := hx.inn
      have hct := ci_length t
      have hcase : ∀ (c : Bool), circ (a + 1) (fun _ => false) w (a - j) = c → ∀ m5, Gt m2 m5 → GN m2.next m5 u ((List.range j).filter fun s => !circ (a + 1) (fun _ => false) w (a - s)) →
          (oIf (.bool (!c)) (oRes (bs Tryd.prog m5 22 1 [(0, .int .i64 (j : Int))]) fun t63 m64 => oRes (aappend Tryd.prog L m64 22 u t63) fun t65 m66 => oInt .add .i64 (.int .i64 (j : Int)) (.int .i64 1) fun t62 => self2 [t65, t62] m66) (oInt .add .i64 (.int .i64 (j : Int)) (.int .i64 1) fun t62 => self2 [u, t62] m5)) = some () := by
        intro c hc m5 g4 hu4
        have n5 := g4.next
        rw [hc] at hself2
        cases c with
        | true =>
          show oIf (.bool false) _ _ = _
          rw [oIf_f, oInt_add ⟨by omega, by omega⟩]
          exact hself2 (by omega) _ _ ⟨u, rfl, g4, by rw [if_pos rfl, List.append_nil]; exact hu4⟩
        | false =>
          show oIf (.bool true) _ _ = _
          obtain ⟨u', m6, s1, s2, s3, s4, s5⟩ := GL.snocV (P := Tryd.prog) (L := L) (m0 := m2) (j : Int) ael22 (by omega) hu4 (by rw [ci_length]; omega) (by omega) g4 (Nat.le_refl _)
          rw [oIf_t, bs22, oRes_e, s1, oRes_e, oInt_add ⟨by omega, by omega⟩]
          refine hself2 (by omega) _ _ ⟨u', rfl, s3, ?_⟩
          rw [if_neg (by decide)]
          unfold GN
          rw [show ci ((List.range j).filter (fun s => !circ (a + 1) (fun _ => false) w (a - s)) ++ [j]) = ci ((List.range j).filter fun s => !circ (a + 1) (fun _ => false) w (a - s)) ++ [(j : Int)] by simp [ci]]
          exact s2.le n5
      refine contains_sp hlf hxI (by omega) ?_
      by_cases hall : ∀ p ∈ t, p < a
      · have hna : (a : Int) ∉ ci t := fun h => by
          have := hall a (mem_ci.1 h); omega
        try simp (disch := first | omega | with_unfolding_all exact id rfl | with_unfolding_all exact Nat.le_of_ble_eq_true rfl | (simp only [Jd, Je, Jr, Js, Jt, Nat.reduceAdd, allOne, oneCell, Bool.and_self, Jc]; first | done | omega)) only [decide_eq_false hna, ↓Qa, ↓Qb, ↓Qc, Qd, Qe, Qf, Qg, Qh, Qi, Qj, Qk, Ql, Qm, Qn, Qo, Qp, Qq, Qr, Qs, Qt, Qu, Qv, Qw, Qx, Qy, ptrTo, Qz, QA, QB, QC, QD, QE, QF, QG, QH, QI, QJ, QK, QL, QM, QN, QO, QP, QQ, QR, QS, QT, QU, QV, QW, QX, QY, QZ, Ja, Jb, Jc, Jd, Je, Jf, Jg, Jh, Ji, Jj, Jk, Jl, Jm, Jn, Jo, Jp, Jq, Jr, Js, Jt, Nat.reduceAdd]
        refine lcome_sp hlf (by omega) ha8 hall (by omega) hx.inn fun u5 m5 e5 hu5 => ?_
        have hpl := parkL_len a t
        rw [show (-(0 + 1) : Int) = -1 from rfl]
        refine contains_sp hlf hu5.il (by omega) ?_
        have hc := hcase (decide (-1 ∈ parkL a t)) (by
          cases hd : circ (a + 1) (fun _ => false) w (a - j) with
          | true =>
            have : (-1 : Int) ∈ parkL a t := Classical.byContradiction fun h => by
              have := htf.2 ⟨hall, h⟩
              rw [hd] at this; cases this
            rw [decide_eq_true this]
          | false => rw [decide_eq_false (htf.1 hd).2]) m5 ((e3.trans e4).trans e5) ((hu.mono e4).mono e5)
        try simp (disch := first | omega | with_unfolding_all exact id rfl | with_unfolding_all exact Nat.le_of_ble_eq_true rfl | (simp only [Jd, Je, Jr, Js, Jt, Nat.reduceAdd, allOne, oneCell, Bool.and_self, Jc]; first | done | omega)) only [↓Qa, ↓Qb, ↓Qc, Qd, Qe, Qf, Qg, Qh, Qi, Qj, Qk, Ql, Qm, Qn, Qo, Qp, Qq, Qr, Qs, Qt, Qu, Qv, Qw, Qx, Qy, ptrTo, Qz, QA, QB, QC, QD, QE, QF, QG, QH, QI, QJ, QK, QL, QM, QN, QO, QP, QQ, QR, QS, QT, QU, QV, QW, QX, QY, QZ, Ja, Jb, Jc, Jd, Je, Jf, Jg, Jh, Ji, Jj, Jk, Jl, Jm, Jn, Jo, Jp, Jq, Jr, Js, Jt, Nat.reduceAdd]
        exact hc
      · have hna : (a : Int) ∈ ci t := Classical.byContradiction fun h => hall fun p hp => by
          have h1 := htle p hp
          rcases Nat.lt_or_eq_of_le h1 with h2 | h2
          · exact h2
          · exact absurd (mem_ci.2 (h2 ▸ hp)) h
        try simp (disch := first | omega | with_unfolding_all exact id rfl | with_unfolding_all exact Nat.le_of_ble_eq_true rfl | (simp only [Jd, Je, Jr, Js, Jt, Nat.reduceAdd, allOne, oneCell, Bool.and_self, Jc]; first | done | omega)) only [decide_eq_true hna, ↓Qa, ↓Qb, ↓Qc, Qd, Qe, Qf, Qg, Qh, Qi, Qj, Qk, Ql, Qm, Qn, Qo, Qp, Qq, Qr, Qs, Qt, Qu, Qv, Qw, Qx, Qy, ptrTo, Qz, QA, QB, QC, QD, QE, QF, QG, QH, QI, QJ, QK, QL, QM, QN, QO, QP, QQ, QR, QS, QT, QU, QV, QW, QX, QY, QZ, Ja, Jb, Jc, Jd, Je, Jf, Jg, Jh, Ji, Jj, Jk, Jl, Jm, Jn, Jo, Jp, Jq, Jr, Js, Jt, Nat.reduceAdd]
        have hc := hcase true (by
          cases hd : circ (a + 1) (fun _ => false) w (a - j) with
          | true => rfl
          | false => exact absurd (htf.1 hd).1 hall) m4 (e3.trans e4) (hu.mono e4)
        exact hc
  · have hja : j = a + 1 := by omega
    subst hja
    have hu' : GN m2.next m3 u (turnL a w) := hu
    refine same_sp hlf (hu1.il.mono e3) hu'.il (by rw [ci_length]; omega) ?_
    rw [decide_eq_true rfl]
    have e13 := e12.trans e3
    try simp (disch := first | omega | with_unfolding_all exact id rfl | with_unfolding_all exact Nat.le_of_ble_eq_true rfl | (simp only [Jd, Je, Jr, Js, Jt, Nat.reduceAdd, allOne, oneCell, Bool.and_self, Jc]; first | done | omega)) only [↓Qa, ↓Qb, Qd, Qe, Qf, Qg, Qh, Qi, Qj, Qk, Ql, Qm, Qn, Qo, Qp, Qq, Qr, Qs, Qt, Qu, Qv, Qw, Qx, Qy, ptrTo, Qz, QA, QB, QC, QD, QE, QF, QG, QH, QI, QJ, QK, QL, QM, QN, QO, QP, QQ, QR, QS, QT, QU, QV, QW, QX, QY, QZ, Ja, Jb, Jc, Jd, Je, Jf, Jg, Jh, Ji, Jj, Jk, Jl, Jm, Jn, Jo, Jp, Jq, Jr, Js, Jt, Nat.reduceAdd]
    repeat (rw [join_e]; try simp (disch := first | omega | with_unfolding_all exact id rfl | with_unfolding_all exact Nat.le_of_ble_eq_true rfl | (simp only [Jd, Je, Jr, Js, Jt, Nat.reduceAdd, allOne, oneCell, Bool.and_self, Jc]; first | done | omega)) only [↓Qa, ↓Qb, Qd, Qe, Qf, Qg, Qh, Qi, Qj, Qk, Ql, Qm, Qn, Qo, Qp, Qq, Qr, Qs, Qt, Qu, Qv, Qw, Qx, Qy, ptrTo, Qz, QA, QB, QC, QD, QE, QF, QG, QH, QI, QJ, QK, QL, QM, QN, QO, QP, QQ, QR, QS, QT, QU, QV, QW, QX, QY, QZ, Ja, Jb, Jc, Jd, Je, Jf, Jg, Jh, Ji, Jj, Jk, Jl, Jm, Jn, Jo, Jp, Jq, Jr, Js, Jt, Nat.reduceAdd])
    rw [r15]
    exact SClosed_sp (cK := runT (tab lf) (n + 9)) (L := L) (hT.mono e13) (hk _ e13)
end
end Go.Vit
