/- Walks: what is renamed, what is sorted. -/
import Derived.Test.YticlkfhmmcepjaaDoorW13B
set_option linter.unusedSimpArgs false
set_option linter.unusedVariables false
set_option maxRecDepth 20000
namespace Go.Vit
open Go Go.Proofs
attribute [local irreducible] runT loopS
/-- The group g with each member renamed: the first h members. -/
def renTo (to : List Nat) (g : Nat) : Nat → Nat
  | 0 => 0
  | h + 1 => renTo to g h ||| ((g >>> h % 2) * 2 ^ (to[h]?).getD 0)
theorem renTo_lt {to : List Nat} {g : Nat} (hto : ∀ x ∈ to, x < 6) : ∀ h, renTo to g h < 64
  | 0 => by simp [renTo]
  | h + 1 => by
    unfold renTo
    refine Nat.or_lt_two_pow (n := 6) (renTo_lt hto h) ?_
    have h1 : g >>> h % 2 < 2 := Nat.mod_lt _ (by omega)
    have h2 : (to[h]?).getD 0 < 6 := by
      by_cases hh : h < to.length
      · rw [List.getElem?_eq_getElem hh]; exact hto _ (List.getElem_mem hh)
      · rw [List.getElem?_eq_none (by omega)]; simp
    have h3 : 2 ^ (to[h]?).getD 0 ≤ 2 ^ 5 := Nat.pow_le_pow_right (by omega) (by omega)
    have h4 : (g >>> h % 2) * 2 ^ (to[h]?).getD 0 ≤ 1 * 2 ^ 5 := Nat.mul_le_mul (by omega) h3
    omega
section
variable {lf n L : Nat} {m : Mem} {k : Value → Mem → Option Unit}
theorem moved_sp {b1 b2 N : Nat} {v w : Value} {gs to : List Nat} (hlf : 1000000 ≤ lf) (hL : L ≤ m.next) (hN : N ≤ 6) (h1 : At m b1 [.int .i64 (N : Int)]) (h2 : At m b2 [w]) (hw : IN m w to) (hto : ∀ x ∈ to, x < 6) (htl : to.length = N)
    (hv : IN m v gs) (hl : gs.length ≤ 64) (hs : ∀ x ∈ gs, x < 64) (hk : ∀ u m', Gt m m' → GN m.next m' u (gs.map fun g => renTo to g N) → k u m' = some ()) :
    runT (tab lf) (n + 1) 60 [v, .pointer (some ⟨b1, 0, none⟩), .pointer (some ⟨b2, 0, none⟩)] L m k = some () := by
  rw [r60]
  dsimp only [S60, iofNat, inegSucc]
  try simp (maxSteps := 4000000) (disch := first | omega | with_unfolding_all exact id rfl | with_unfolding_all exact Nat.le_of_ble_eq_true rfl | (simp only [Jd, Je, Jr, Js, Jt, Nat.reduceAdd, allOne, oneCell, Bool.and_self, Jc]; first | done | omega)) only [hv.ln, ↓Qa, ↓Qb, Qd, Qe, Qf, Qg, Qh, Qi, Qj, Qk, Ql, Qm, Qn, Qo, Qp, Qq, Qr, Qs, Qt, Qu, Qv, Qw, Qx, Qy, ptrTo, Qz, QA, QB, QC, QD, QE, QF, QG, QH, QI, QJ, QK, QL, QM, QN, QO, QP, QQ, QR, QS, QT, QU, QV, QW, QX, QY, QZ, Ja, Jb, Jc, Jd, Je, Jf, Jg, Jh, Ji, Jj, Jk, Jl, Jm, Jn, Jo, Jp, Jq, Jr, Js, Jt, Nat.reduceAdd]
  refine loop_up gs.length (fun i vs m' => ∃ u, vs = [u, .int .i64 (i : Int)] ∧ Gt m m' ∧ GN m.next m' u ((gs.take i).map fun g => renTo to g N)) (by omega) ⟨_, rfl, Gt.refl _, GN.nil _ _⟩ ?_
  rintro i vs m1 hi ⟨u, rfl, e1, hu⟩ self hself
  have hv1 := hv.mono e1
  have h11 := h1.mono e1
  have n1 := e1.next
  try simp (maxSteps := 4000000) (disch := first | omega | with_unfolding_all exact id rfl | with_unfolding_all exact Nat.le_of_ble_eq_true rfl | (simp only [Jd, Je, Jr, Js, Jt, Nat.reduceAdd, allOne, oneCell, Bool.and_self, Jc]; first | done | omega)) only [↓Qa, ↓Qb, Qd, Qe, Qf, Qg, Qh, Qi, Qj, Qk, Ql, Qm, Qn, Qo, Qp, Qq, Qr, Qs, Qt, Qu, Qv, Qw, Qx, Qy, ptrTo, Qz, QA, QB, QC, QD, QE, QF, QG, QH, QI, QJ, QK, QL, QM, QN, QO, QP, QQ, QR, QS, QT, QU, QV, QW, QX, QY, QZ, Ja, Jb, Jc, Jd, Je, Jf, Jg, Jh, Ji, Jj, Jk, Jl, Jm, Jn, Jo, Jp, Jq, Jr, Js, Jt, Nat.reduceAdd]
  refine oIf_dec (fun h3 => ?_) (fun h3 => ?_)
  · have h4 : i < gs.length := by omega
    have h5 := hs _ (List.getElem_mem h4)
    try simp (maxSteps := 4000000) (disch := first | omega | with_unfolding_all exact id rfl | with_unfolding_all exact Nat.le_of_ble_eq_true rfl | (simp only [Jd, Je, Jr, Js, Jt, Nat.reduceAdd, allOne, oneCell, Bool.and_self, Jc]; first | done | omega)) only [hv1.ia h4, hv1.ld h4, h11.rd, ↓Qa, ↓Qb, Qd, Qe, Qf, Qg, Qh, Qi, Qj, Qk, Ql, Qm, Qn, Qo, Qp, Qq, Qr, Qs, Qt, Qu, Qv, Qw, Qx, Qy, ptrTo, Qz, QA, QB, QC, QD, QE, QF, QG, QH, QI, QJ, QK, QL, QM, QN, QO, QP, QQ, QR, QS, QT, QU, QV, QW, QX, QY, QZ, Ja, Jb, Jc, Jd, Je, Jf, Jg, Jh, Ji, Jj, Jk, Jl, Jm, Jn, Jo, Jp, Jq, Jr, Js, Jt, Nat.reduceAdd]
    refine loop_up N (fun h vs m' => vs = [.int .i64 ((renTo to gs[i] h : Nat) : Int), .int .i64 (h : Int)] ∧ m' = m1) (by omega) ⟨rfl, rfl⟩ ?_
    rintro h vs m1 hh ⟨rfl, rfl⟩ self2 hself2
    have h21 := h2.mono e1
    have hw1 := hw.mono e1
    try simp (maxSteps := 4000000) (disch := first | omega | with_unfolding_all exact id rfl | with_unfolding_all exact Nat.le_of_ble_eq_true rfl | (simp only [Jd, Je, Jr, Js, Jt, Nat.reduceAdd, allOne, oneCell, Bool.and_self, Jc]; first | done | omega)) only [↓Qa, ↓Qb, Qd, Qe, Qf, Qg, Qh, Qi, Qj, Qk, Ql, Qm, Qn, Qo, Qp, Qq, Qr, Qs, Qt, Qu, Qv, Qw, Qx, Qy, ptrTo, Qz, QA, QB, QC, QD, QE, QF, QG, QH, QI, QJ, QK, QL, QM, QN, QO, QP, QQ, QR, QS, QT, QU, QV, QW, QX, QY, QZ, Ja, Jb, Jc, Jd, Je, Jf, Jg, Jh, Ji, Jj, Jk, Jl, Jm, Jn, Jo, Jp, Jq, Jr, Js, Jt, Nat.reduceAdd]
    refine oIf_dec (fun h6 => ?_) (fun h6 => ?_)
    · have h7 : h < N := by omega
      have h8 : h < to.length := by omega
      have h9 := hto _ (List.getElem_mem h8)
      try simp (maxSteps := 4000000) (disch := first | omega | with_unfolding_all exact id rfl | with_unfolding_all exact Nat.le_of_ble_eq_true rfl | (simp only [Jd, Je, Jr, Js, Jt, Nat.reduceAdd, allOne, oneCell, Bool.and_self, Jc]; first | done | omega)) only [shr_e _ h (by omega), ↓Qa, ↓Qb, Qd, Qe, Qf, Qg, Qh, Qi, Qj, Qk, Ql, Qm, Qn, Qo, Qp, Qq, Qr, Qs, Qt, Qu, Qv, Qw, Qx, Qy, ptrTo, Qz, QA, QB, QC, QD, QE, QF, QG, QH, QI, QJ, QK, QL, QM, QN, QO, QP, QQ, QR, QS, QT, QU, QV, QW, QX, QY, QZ, Ja, Jb, Jc, Jd, Je, Jf, Jg, Jh, Ji, Jj, Jk, Jl, Jm, Jn, Jo, Jp, Jq, Jr, Js, Jt, Nat.reduceAdd]
      rw [oInt_and1 _ (by have : gs[i] >>> h ≤ gs[i] := (by rw [Nat.shiftRight_eq_div_pow]; exact Nat.div_le_self _ _); omega)]
      try simp (maxSteps := 4000000) (disch := first | omega | with_unfolding_all exact id rfl | with_unfolding_all exact Nat.le_of_ble_eq_true rfl | (simp only [Jd, Je, Jr, Js, Jt, Nat.reduceAdd, allOne, oneCell, Bool.and_self, Jc]; first | done | omega)) only [h21.rd, hw1.ia h8, hw1.ld h8, ↓Qa, ↓Qb, Qd, Qe, Qf, Qg, Qh, Qi, Qj, Qk, Ql, Qm, Qn, Qo, Qp, Qq, Qr, Qs, Qt, Qu, Qv, Qw, Qx, Qy, ptrTo, Qz, QA, QB, QC, QD, QE, QF, QG, QH, QI, QJ, QK, QL, QM, QN, QO, QP, QQ, QR, QS, QT, QU, QV, QW, QX, QY, QZ, Ja, Jb, Jc, Jd, Je, Jf, Jg, Jh, Ji, Jj, Jk, Jl, Jm, Jn, Jo, Jp, Jq, Jr, Js, Jt, Nat.reduceAdd]
      have h10 : gs[i] >>> h % 2 < 2 := Nat.mod_lt _ (by omega)
      have h12 : 2 ^ to[h] ≤ 2 ^ 5 := Nat.pow_le_pow_right (by omega) (by omega)
      have h13 : (gs[i] >>> h % 2) * 2 ^ to[h] ≤ 1 * 2 ^ 5 := Nat.mul_le_mul (by omega) h12
      have h14 : ((gs[i] >>> h % 2 : Nat) : Int) * 2 ^ to[h] = (((gs[i] >>> h % 2) * 2 ^ to[h] : Nat) : Int) := by simp
      have h15 := renTo_lt (g := gs[i]) hto h
      rw [shl_e (by kernel_rfl) (by omega) (by omega) (by rw [h14]; omega), oOpt_e, h14, oInt_or (by omega) (by omega)]
      rw [oInt_add ⟨by omega, by omega⟩]
      refine hself2 h7 _ _ ⟨?_, rfl⟩
      rw [renTo, List.getElem?_eq_getElem h8]
      rfl
    · have h7 : h = N := by omega
      subst h7
      have h15 := renTo_lt (g := gs[i]) hto h
      obtain ⟨u2, m2, h8, h9, h10, h12⟩ := GN.snoc (P := Tryd.prog) (t := 22) (L := L) (m0 := m) (renTo to gs[i] h) ael22 (by omega) hu (by rw [List.length_map, List.length_take]; omega) (by omega) e1 (Nat.le_refl _)
      rw [bs22, oRes_e, h8, oRes_e]
      rw [oInt_add ⟨by omega, by omega⟩]
      refine hself h4 _ _ ⟨u2, rfl, h10, ?_⟩
      rw [List.take_add_one, List.getElem?_eq_getElem h4, Option.toList_some, List.map_append]
      exact h9.le n1
  · have h4 : i = gs.length := by omega
    subst h4
    rw [List.take_length] at hu
    exact hk _ _ e1 hu
theorem sorted_sp {L0 : Nat} {v : Value} {l : List Nat} (hL : L ≤ m.next) (hv : GN L0 m v l) (hl : l.length ≤ 64) (hk : ∀ u m', Gt m m' → GL m.next m' u (isortI (ci l)) → k u m' = some ()) : runT (tab lf) (n + 2) 61 [v] L m k = some () := by
  rw [r61]
  dsimp only [S61, iofNat, inegSucc]
  try simp (maxSteps := 4000000) (disch := first | omega | with_unfolding_all exact id rfl | with_unfolding_all exact Nat.le_of_ble_eq_true rfl | (simp only [Jd, Je, Jr, Js, Jt, Nat.reduceAdd, allOne, oneCell, Bool.and_self, Jc]; first | done | omega)) only [↓Qa, ↓Qb, Qd, Qe, Qf, Qg, Qh, Qi, Qj, Qk, Ql, Qm, Qn, Qo, Qp, Qq, Qr, Qs, Qt, Qu, Qv, Qw, Qx, Qy, ptrTo, Qz, QA, QB, QC, QD, QE, QF, QG, QH, QI, QJ, QK, QL, QM, QN, QO, QP, QQ, QR, QS, QT, QU, QV, QW, QX, QY, QZ, Ja, Jb, Jc, Jd, Je, Jf, Jg, Jh, Ji, Jj, Jk, Jl, Jm, Jn, Jo, Jp, Jq, Jr, Js, Jt, Nat.reduceAdd]
  refine clone_sp hL hv (by omega) fun u m1 e1 hu => ?_
  rw [r43]
  refine sort_sp hu (by omega) e1 (Nat.le_refl _) (by rw [ci_length]; omega) fun m2 e2 h3 h4 h5 => ?_
  exact hk u m2 e2 h3
end
end Go.Vit
