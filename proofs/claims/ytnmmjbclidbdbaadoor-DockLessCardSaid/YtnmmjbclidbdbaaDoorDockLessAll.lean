/- The law DockLess: its walk. -/
import Derived.Test.YtnmmjbclidbdbaaDoorW12
import Derived.Test.YtnmmjbclidbdbaaDoorDockProvedAll
set_option linter.unusedSimpArgs false
set_option linter.unusedVariables false
set_option maxRecDepth 20000
namespace Go.Vit
open Go Go.Proofs
attribute [local irreducible] runT loopS
theorem served_set {n i y : Nat} {w : List Nat} (hw : ∀ x ∈ w, x < n) (hi : i < w.length) (hy : y ≤ w[i]) (h : (-1 : Int) ∉ parkL n w) : (-1 : Int) ∉ parkL n (w.set i y) := by
  have hwi := hw _ (List.getElem_mem hi)
  have hw2 : ∀ x ∈ w.set i y, x < n := fun x hx => by
    rcases List.mem_or_eq_of_mem_set hx with h1 | h1
    · exact hw x h1
    · omega
  rw [served_iff hw] at h
  rw [served_iff hw2]
  intro k h1 h2
  refine Nat.le_trans (cntGe_le_of (by rw [ci_length, ci_length, List.length_set]) fun j hj hj2 => ?_) (h k h1 h2)
  rw [ci_length] at hj hj2
  have e1 : (ci (w.set i y))[j]'(by rw [ci_length]; exact hj) = (((w.set i y)[j]'hj : Nat) : Int) := List.getElem_map _
  have e2 : (ci w)[j]'(by rw [ci_length]; exact hj2) = ((w[j]'hj2 : Nat) : Int) := List.getElem_map _
  rw [e1, e2, List.getElem_set]
  split
  · rename_i hij; subst hij; omega
  · exact Int.le_refl _
theorem served_erase {n i : Nat} {w : List Nat} (hw : ∀ x ∈ w, x < n) (h : (-1 : Int) ∉ parkL n w) : (-1 : Int) ∉ parkL n (w.eraseIdx i) := by
  have hw2 : ∀ x ∈ w.eraseIdx i, x < n := fun x hx => hw x (List.mem_of_mem_eraseIdx hx)
  rw [served_iff hw] at h
  rw [served_iff hw2]
  intro k h1 h2
  refine Nat.le_trans (cntGe_sub ?_) (h k h1 h2)
  unfold ci
  exact (List.eraseIdx_sublist w i).map _
section
variable {lf n L : Nat} {m : Mem} {k : Value → Mem → Option Unit}
set_option maxHeartbeats 4000000 in
theorem less_sp {a0 a1 x0 y0 : Nat} {gl : List Nat} (hlf : 1000000 ≤ lf) (hL : L ≤ m.next) (hT : TabOk mTab m) (h0 : a0 < 256) (h1 : a1 < 256) (hlen : gl.length = 8) (hg : ∀ g ∈ gl, g < 256) (hx0 : x0 < 256) (hy0 : y0 < 256)
    (hk : ∀ m', Gt m m' → k (.bool true) m' = some ()) : runT (tab lf) (n + 10) 14 [sealV a0 a1 gl, .int .u8 (x0 : Int), .int .u8 (y0 : Int)] L m k = some () := by
  rw [r14]; dsimp only [S14, iofNat, inegSucc]
  rw [uc_e, uc_e, uc_e, un0_e]
  refine carts_sp (n := n + 8) (most := 8) (more := 0) hlf hL h0 h1 hlen hg (by omega) (by omega) (by omega) fun v m1 e1 hv => ?_
  have n1 := e1.next
  have hN := madeN_bd (a0 := a0) (most := 8) (by omega)
  have hwl := madeL_len a1 gl (madeN a0 8) 0
  have hw := madeL_lt (a1 := a1) (gl := gl) (n := madeN a0 8) (more := 0) (by omega)
  generalize madeL a1 gl (madeN a0 8) 0 = w at hv hwl hw ⊢
  generalize madeN a0 8 = a at hN hwl hw ⊢
  obtain ⟨ha1, ha8⟩ := hN
  rw [Nat.add_zero] at hw
  have hcw := ci_length w
  have sv : ∀ w' : List Nat, w'.length ≤ a → (∀ x ∈ w', x < a) → chkD (a : Int) ((a : Int) - 1) (ci w') = 0 ∧ svX (a : Int) (ci w') = decide (-1 ∉ parkL a w') := fun w' q1 q2 => by
    have hok := chkD_nat ha1 ha8 q1 q2
    refine ⟨hok, ?_⟩
    unfold svX
    rw [decide_eq_true hok, Bool.true_and, pkX_yes hok]
  obtain ⟨hok, hsv⟩ := sv w hwl hw
  have hvI : IL m1 v (ci w) := hv.inn
  have hpl := parkL_len a w
  try simp (disch := first | omega | with_unfolding_all exact id rfl | with_unfolding_all exact Nat.le_of_ble_eq_true rfl | (simp only [Jd, Je, Jr, Js, Jt, Nat.reduceAdd, allOne, oneCell, Bool.and_self, Jc]; first | done | omega)) only [↓Qa, ↓Qb, Qd, Qe, Qf, Qg, Qh, Qi, Qj, Qk, Ql, Qm, Qn, Qo, Qp, Qq, Qr, Qs, Qt, Qu, Qv, Qw, Qx, Qy, ptrTo, Qz, QA, QB, QC, QD, QE, QF, QG, QH, QI, QJ, QK, QL, QM, QN, QO, QP, QQ, QR, QS, QT, QU, QV, QW, QX, QY, QZ, Ja, Jb, Jc, Jd, Je, Jf, Jg, Jh, Ji, Jj, Jk, Jl, Jm, Jn, Jo, Jp, Jq, Jr, Js, Jt, Nat.reduceAdd]
  refine serves_sp hlf (by omega) (hT.mono e1) hvI (by omega) fun m2 e2 => ?_
  rw [hok, hsv]
  have n2 := e2.next
  have e12 := e1.trans e2
  have hv2 : IN m2 v w := hv.inn.mono e2
  try simp (disch := first | omega | with_unfolding_all exact id rfl | with_unfolding_all exact Nat.le_of_ble_eq_true rfl | (simp only [Jd, Je, Jr, Js, Jt, Nat.reduceAdd, allOne, oneCell, Bool.and_self, Jc]; first | done | omega)) only [↓Qa, ↓Qb, Qd, Qe, Qf, Qg, Qh, Qi, Qj, Qk, Ql, Qm, Qn, Qo, Qp, Qq, Qr, Qs, Qt, Qu, Qv, Qw, Qx, Qy, ptrTo, Qz, QA, QB, QC, QD, QE, QF, QG, QH, QI, QJ, QK, QL, QM, QN, QO, QP, QQ, QR, QS, QT, QU, QV, QW, QX, QY, QZ, Ja, Jb, Jc, Jd, Je, Jf, Jg, Jh, Ji, Jj, Jk, Jl, Jm, Jn, Jo, Jp, Jq, Jr, Js, Jt, Nat.reduceAdd]
  rw [join_e]
  try simp (disch := first | omega | with_unfolding_all exact id rfl | with_unfolding_all exact Nat.le_of_ble_eq_true rfl | (simp only [Jd, Je, Jr, Js, Jt, Nat.reduceAdd, allOne, oneCell, Bool.and_self, Jc]; first | done | omega)) only [↓Qa, ↓Qb, Qd, Qe, Qf, Qg, Qh, Qi, Qj, Qk, Ql, Qm, Qn, Qo, Qp, Qq, Qr, Qs, Qt, Qu, Qv, Qw, Qx, Qy, ptrTo, Qz, QA, QB, QC, QD, QE, QF, QG, QH, QI, QJ, QK, QL, QM, QN, QO, QP, QQ, QR, QS, QT, QU, QV, QW, QX, QY, QZ, Ja, Jb, Jc, Jd, Je, Jf, Jg, Jh, Ji, Jj, Jk, Jl, Jm, Jn, Jo, Jp, Jq, Jr, Js, Jt, Nat.reduceAdd]
  refine lcome_sp hlf (by omega) ha8 hw (by omega) hv2 fun u2 m3 e3 hu2 => ?_
  have n3 := e3.next
  have e13 := e12.trans e3
  have hv3 := hv2.mono e3
  rw [show (-(0 + 1) : Int) = -1 from rfl]
  refine contains_sp hlf hu2.il (by omega) ?_
  rw [decide_not]
  try simp (disch := first | omega | with_unfolding_all exact id rfl | with_unfolding_all exact Nat.le_of_ble_eq_true rfl | (simp only [Jd, Je, Jr, Js, Jt, Nat.reduceAdd, allOne, oneCell, Bool.and_self, Jc]; first | done | omega)) only [neqb, hv3.ln, bne_self_eq_false, ↓Qa, ↓Qb, Qd, Qe, Qf, Qg, Qh, Qi, Qj, Qk, Ql, Qm, Qn, Qo, Qp, Qq, Qr, Qs, Qt, Qu, Qv, Qw, Qx, Qy, ptrTo, Qz, QA, QB, QC, QD, QE, QF, QG, QH, QI, QJ, QK, QL, QM, QN, QO, QP, QQ, QR, QS, QT, QU, QV, QW, QX, QY, QZ, Ja, Jb, Jc, Jd, Je, Jf, Jg, Jh, Ji, Jj, Jk, Jl, Jm, Jn, Jo, Jp, Jq, Jr, Js, Jt, Nat.reduceAdd]
  refine oIf_dec (fun h => ?_) (fun h => ?_)
  · have hw0 : w = [] := List.length_eq_zero_iff.1 (by omega)
    subst hw0
    rw [show decide ((-1 : Int) ∈ parkL a []) = false from rfl]
    try simp (disch := first | omega | with_unfolding_all exact id rfl | with_unfolding_all exact Nat.le_of_ble_eq_true rfl | (simp only [Jd, Je, Jr, Js, Jt, Nat.reduceAdd, allOne, oneCell, Bool.and_self, Jc]; first | done | omega)) only [↓Qa, ↓Qb, Qd, Qe, Qf, Qg, Qh, Qi, Qj, Qk, Ql, Qm, Qn, Qo, Qp, Qq, Qr, Qs, Qt, Qu, Qv, Qw, Qx, Qy, ptrTo, Qz, QA, QB, QC, QD, QE, QF, QG, QH, QI, QJ, QK, QL, QM, QN, QO, QP, QQ, QR, QS, QT, QU, QV, QW, QX, QY, QZ, Ja, Jb, Jc, Jd, Je, Jf, Jg, Jh, Ji, Jj, Jk, Jl, Jm, Jn, Jo, Jp, Jq, Jr, Js, Jt, Nat.reduceAdd]
    repeat (rw [join_e]; try simp (disch := first | omega | with_unfolding_all exact id rfl | with_unfolding_all exact Nat.le_of_ble_eq_true rfl | (simp only [Jd, Je, Jr, Js, Jt, Nat.reduceAdd, allOne, oneCell, Bool.and_self, Jc]; first | done | omega)) only [↓Qa, ↓Qb, Qd, Qe, Qf, Qg, Qh, Qi, Qj, Qk, Ql, Qm, Qn, Qo, Qp, Qq, Qr, Qs, Qt, Qu, Qv, Qw, Qx, Qy, ptrTo, Qz, QA, QB, QC, QD, QE, QF, QG, QH, QI, QJ, QK, QL, QM, QN, QO, QP, QQ, QR, QS, QT, QU, QV, QW, QX, QY, QZ, Ja, Jb, Jc, Jd, Je, Jf, Jg, Jh, Ji, Jj, Jk, Jl, Jm, Jn, Jo, Jp, Jq, Jr, Js, Jt, Nat.reduceAdd])
    rw [r15]
    exact SClosed_sp (cK := runT (tab lf) (n + 9)) (L := L) (hT.mono e13) (hk _ e13)
  · have hw0 : 0 < w.length := by omega
    rw [oCv_nat (by omega)]
    try simp (disch := first | omega | with_unfolding_all exact id rfl | with_unfolding_all exact Nat.le_of_ble_eq_true rfl | (simp only [Jd, Je, Jr, Js, Jt, Nat.reduceAdd, allOne, oneCell, Bool.and_self, Jc]; first | done | omega)) only [hv3.ln, ↓Qa, ↓Qb, Qd, Qe, Qf, Qg, Qh, Qi, Qj, Qk, Ql, Qm, Qn, Qo, Qp, Qq, Qr, Qs, Qt, Qu, Qv, Qw, Qx, Qy, ptrTo, Qz, QA, QB, QC, QD, QE, QF, QG, QH, QI, QJ, QK, QL, QM, QN, QO, QP, QQ, QR, QS, QT, QU, QV, QW, QX, QY, QZ, Ja, Jb, Jc, Jd, Je, Jf, Jg, Jh, Ji, Jj, Jk, Jl, Jm, Jn, Jo, Jp, Jq, Jr, Js, Jt, Nat.reduceAdd]
    rw [oInt_remN hw0]
    have hi := Nat.mod_lt x0 hw0
    generalize x0 % w.length = i at hi ⊢
    have hv3g : GN m.next m3 v w := hv.mono (e2.trans e3)
    refine clone_sp (by omega) hv3g (by omega) fun u4 m4 e4 hu4 => ?_
    have n4 := e4.next
    have hv4 := hv3g.mono e4
    refine clone_sp (by omega) hv4 (by omega) fun u5 m5 e5 hu5 => ?_
    have n5 := e5.next
    have hv5 := hv4.mono e5
    have hu45 := hu4.mono e5
    rw [oInt_add ⟨by omega, by omega⟩]
    have e15 := (e13.trans e4).trans e5
    have hne : w ≠ [] := fun h => by rw [h] at hw0; simp at hw0
    rcases hu5 with ⟨_, h5, _⟩ | ⟨b5, hb5, rfl, hr5, hl5, hn5⟩
    · omega
    · rw [hcw] at hl5 ⊢
      have hb5l := Mem.rd_lt hr5
      rw [Nat.mul_one] at hl5
      refine delete_sp (b := b5) (r := w.length) (N := w.length) (q := i) hlf (by omega) hr5 hl5 (by omega) (Nat.le_refl _) rfl (List.take_of_length_le (by omega)) hi fun m6 cs' hkeep hn6 hr6 hl6 htk => ?_
      have e6 : Gt m4 m6 := ⟨by omega, fun c hc => (hkeep c (by omega)).trans (e5.kept c hc)⟩
      have hu6 : GN m3.next m6 u4 w := hu4.mono e6
      have hv6 : GN m.next m6 v w := hv4.mono e6
      have e16 : Gt m m6 := (e13.trans e4).trans e6
      have hbe : b5 ≥ m4.next := hb5
      have hae : IL m6 (.slice (some ⟨b5, 0, none⟩) (w.length - 1) w.length) (ci (w.eraseIdx i)) := IL.of hr6 (by omega) htk
      have hv6N : IN m6 v w := hv6.inn
      have hwi := hw _ (List.getElem_mem hi)
      rw [oCv_nat (by omega)]
      rw [hv6N.ia hi, oOpt_e, hv6N.ld hi, oOpt_e, oInt_add ⟨by omega, by omega⟩, show ((w[i] : Nat) : Int) + 1 = ((w[i] + 1 : Nat) : Int) by omega, oInt_remN (by omega)]
      have hy := Nat.mod_lt y0 (show 0 < w[i] + 1 by omega)
      generalize hyy : y0 % (w[i] + 1) = y at hy ⊢
      have hu6N : IN m6 u4 w := hu6.inn
      obtain ⟨m7, s7, u7, e7, n7, k7⟩ := GL.set (L := L) (m0 := m3) (y : Int) hu6 (i := i) (by omega) (by omega) (e4.trans e6) (Nat.le_refl _)
      rw [hu6N.ia hi, oOpt_e, s7, oRes_e]
      have hset : (ci w).set i (y : Int) = ci (w.set i y) := by unfold ci; rw [List.map_set]
      rw [hset] at u7
      have e17 : Gt m m7 := e13.trans e7
      have n7' := e17.next
      obtain ⟨hokS, hsvS⟩ := sv (w.set i y) (by rw [List.length_set]; exact hwl) fun x hx => by
        rcases List.mem_or_eq_of_mem_set hx with h1 | h1
        · exact hw x h1
        · omega
      obtain ⟨hokE, hsvE⟩ := sv (w.eraseIdx i) (by have := List.length_eraseIdx_le w i; omega) fun x hx => hw x (List.mem_of_mem_eraseIdx hx)
      have hae7 : IL m7 (.slice (some ⟨b5, 0, none⟩) (w.length - 1) w.length) (ci (w.eraseIdx i)) := hae.keep fun c hc => k7 c fun hb => by
        have := hu4.fr c hb
        have h2 := (Gs.bid_lt hu4 c hb).2
        cases hc
        omega
      refine serves_sp hlf (by omega) (hT.mono e17) u7.il (by rw [ci_length, List.length_set]; omega) fun m8 e8 => ?_
      rw [hokS, hsvS]
      have n8 := e8.next
      have e18 := e17.trans e8
      try simp (disch := first | omega | with_unfolding_all exact id rfl | with_unfolding_all exact Nat.le_of_ble_eq_true rfl | (simp only [Jd, Je, Jr, Js, Jt, Nat.reduceAdd, allOne, oneCell, Bool.and_self, Jc]; first | done | omega)) only [↓Qa, ↓Qb, Qd, Qe, Qf, Qg, Qh, Qi, Qj, Qk, Ql, Qm, Qn, Qo, Qp, Qq, Qr, Qs, Qt, Qu, Qv, Qw, Qx, Qy, ptrTo, Qz, QA, QB, QC, QD, QE, QF, QG, QH, QI, QJ, QK, QL, QM, QN, QO, QP, QQ, QR, QS, QT, QU, QV, QW, QX, QY, QZ, Ja, Jb, Jc, Jd, Je, Jf, Jg, Jh, Ji, Jj, Jk, Jl, Jm, Jn, Jo, Jp, Jq, Jr, Js, Jt, Nat.reduceAdd]
      refine serves_sp hlf (by omega) (hT.mono e18) (hae7.mono e8) (by rw [ci_length]; have := List.length_eraseIdx_le w i; omega) fun m9 e9 => ?_
      rw [hokE, hsvE]
      have n9 := e9.next
      have e19 := e18.trans e9
      by_cases hserv : (-1 : Int) ∈ parkL a w
      · rw [decide_eq_true hserv]
        try simp (disch := first | omega | with_unfolding_all exact id rfl | with_unfolding_all exact Nat.le_of_ble_eq_true rfl | (simp only [Jd, Je, Jr, Js, Jt, Nat.reduceAdd, allOne, oneCell, Bool.and_self, Jc]; first | done | omega)) only [↓Qa, ↓Qb, Qd, Qe, Qf, Qg, Qh, Qi, Qj, Qk, Ql, Qm, Qn, Qo, Qp, Qq, Qr, Qs, Qt, Qu, Qv, Qw, Qx, Qy, ptrTo, Qz, QA, QB, QC, QD, QE, QF, QG, QH, QI, QJ, QK, QL, QM, QN, QO, QP, QQ, QR, QS, QT, QU, QV, QW, QX, QY, QZ, Ja, Jb, Jc, Jd, Je, Jf, Jg, Jh, Ji, Jj, Jk, Jl, Jm, Jn, Jo, Jp, Jq, Jr, Js, Jt, Nat.reduceAdd]
        repeat (rw [join_e]; try simp (disch := first | omega | with_unfolding_all exact id rfl | with_unfolding_all exact Nat.le_of_ble_eq_true rfl | (simp only [Jd, Je, Jr, Js, Jt, Nat.reduceAdd, allOne, oneCell, Bool.and_self, Jc]; first | done | omega)) only [↓Qa, ↓Qb, Qd, Qe, Qf, Qg, Qh, Qi, Qj, Qk, Ql, Qm, Qn, Qo, Qp, Qq, Qr, Qs, Qt, Qu, Qv, Qw, Qx, Qy, ptrTo, Qz, QA, QB, QC, QD, QE, QF, QG, QH, QI, QJ, QK, QL, QM, QN, QO, QP, QQ, QR, QS, QT, QU, QV, QW, QX, QY, QZ, Ja, Jb, Jc, Jd, Je, Jf, Jg, Jh, Ji, Jj, Jk, Jl, Jm, Jn, Jo, Jp, Jq, Jr, Js, Jt, Nat.reduceAdd])
        rw [r15]
        exact SClosed_sp (cK := runT (tab lf) (n + 9)) (L := L) (hT.mono e19) (hk _ e19)
      · rw [decide_eq_false hserv, decide_eq_true (served_set hw hi (by omega) hserv), decide_eq_true (served_erase (i := i) hw hserv)]
        try simp (disch := first | omega | with_unfolding_all exact id rfl | with_unfolding_all exact Nat.le_of_ble_eq_true rfl | (simp only [Jd, Je, Jr, Js, Jt, Nat.reduceAdd, allOne, oneCell, Bool.and_self, Jc]; first | done | omega)) only [↓Qa, ↓Qb, Qd, Qe, Qf, Qg, Qh, Qi, Qj, Qk, Ql, Qm, Qn, Qo, Qp, Qq, Qr, Qs, Qt, Qu, Qv, Qw, Qx, Qy, ptrTo, Qz, QA, QB, QC, QD, QE, QF, QG, QH, QI, QJ, QK, QL, QM, QN, QO, QP, QQ, QR, QS, QT, QU, QV, QW, QX, QY, QZ, Ja, Jb, Jc, Jd, Je, Jf, Jg, Jh, Ji, Jj, Jk, Jl, Jm, Jn, Jo, Jp, Jq, Jr, Js, Jt, Nat.reduceAdd]
        repeat (rw [join_e]; try simp (disch := first | omega | with_unfolding_all exact id rfl | with_unfolding_all exact Nat.le_of_ble_eq_true rfl | (simp only [Jd, Je, Jr, Js, Jt, Nat.reduceAdd, allOne, oneCell, Bool.and_self, Jc]; first | done | omega)) only [↓Qa, ↓Qb, Qd, Qe, Qf, Qg, Qh, Qi, Qj, Qk, Ql, Qm, Qn, Qo, Qp, Qq, Qr, Qs, Qt, Qu, Qv, Qw, Qx, Qy, ptrTo, Qz, QA, QB, QC, QD, QE, QF, QG, QH, QI, QJ, QK, QL, QM, QN, QO, QP, QQ, QR, QS, QT, QU, QV, QW, QX, QY, QZ, Ja, Jb, Jc, Jd, Je, Jf, Jg, Jh, Ji, Jj, Jk, Jl, Jm, Jn, Jo, Jp, Jq, Jr, Js, Jt, Nat.reduceAdd])
        rw [r15]
        exact SClosed_sp (cK := runT (tab lf) (n + 9)) (L := L) (hT.mono e19) (hk _ e19)
end
end Go.Vit
