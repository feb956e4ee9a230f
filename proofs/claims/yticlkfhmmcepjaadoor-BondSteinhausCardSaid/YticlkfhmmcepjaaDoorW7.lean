/- Walks: the reference, on. -/
import Derived.Test.YticlkfhmmcepjaaDoorW6
set_option linter.unusedSimpArgs false
set_option linter.unusedVariables false
namespace Go.Vit
open Go Go.Proofs
attribute [local irreducible] runT loopS
def openB (gs : List Nat) (g : Nat) : Bool := decide (lack gs g = [])
theorem openB_eq (gs : List Nat) (g : Nat) : decide (((lack gs g).length : Int) = 0) = openB gs g := by
  unfold openB
  refine decide_eq_decide.2 ?_
  rw [← List.length_eq_zero_iff]; omega
def noneAbove (P : Nat → Bool) (g o : Nat) : Bool := !(!decide (o = g) && sub g o && P o)
def mostB (P : Nat → Bool) (N g : Nat) : Bool := P g && (List.range N).all (noneAbove P g)
section
variable {lf n L : Nat} {m : Mem} {k : Value → Mem → Option Unit}
theorem rlacks_sp {h : Int} {v : Value} {gs : List Nat} {g : Nat} (hlf : 1000000 ≤ lf) (hL : L ≤ m.next) (hv : IN m v gs) (hl : gs.length < 1000000) (hs : ∀ x ∈ gs, x < 64) (hg : g < 64)
    (hk : ∀ u m', Gt m m' → GN m.next m' u (lack gs g) → k u m' = some ()) : runT (tab lf) (n + 2) 71 [Vit.hg h v, .int .i64 (g : Int)] L m k = some () := by
  rw [r71]
  dsimp only [S71, iofNat, inegSucc]
  obtain ⟨p, c, rfl⟩ := hv.ex
  have g1 := Mem.gt_push m ⟨1, [.int .i64 h, .slice p gs.length c], none⟩
  have hb : At (m.push ⟨1, [.int .i64 h, .slice p gs.length c], none⟩) m.next _ := At.push m [.int .i64 h, .slice p gs.length c]
  have hv1 := hv.mono g1
  try simp (disch := first | omega | with_unfolding_all exact id rfl | with_unfolding_all exact Nat.le_of_ble_eq_true rfl | (simp only [Jd, Je, Jr, Js, Jt, Nat.reduceAdd, allOne, oneCell, Bool.and_self, Jc]; first | done | omega)) only [↓Qa, ↓Qb, ↓Qc, Qd, Qe, Qf, Qg, Qh, Qi, Qj, Qk, Ql, Qm, Qn, Qo, Qp, Qq, Qr, Qs, Qt, Qu, Qv, Qw, Qx, Qy, ptrTo, Qz, QA, QB, QC, QD, QE, QF, QG, QH, QI, QJ, QK, QL, QM, QN, QO, QP, QQ, QR, QS, QT, QU, QV, QW, QX, QY, QZ, Ja, Jb, Jc, Jd, Je, Jf, Jg, Jh, Ji, Jj, Jk, Jl, Jm, Jn, Jo, Jp, Jq, Jr, Js, Jt, Nat.reduceAdd]
  generalize m.push ⟨1, [.int .i64 h, .slice p gs.length c], none⟩ = m1 at g1 hb hv1 ⊢
  have hn1 := g1.next
  refine loop_up gs.length (fun i vs m' => ∃ u, vs = [u, .int .i64 (i : Int)] ∧ Gt m1 m' ∧ GN m1.next m' u (lackTo gs g i)) (by omega) ⟨_, rfl, Gt.refl _, GN.nil _ _⟩ ?_
  rintro i vs m' hi ⟨u, rfl, hg', hu⟩ self hself
  have hv' := hv1.mono hg'
  have hn' := hg'.next
  have hlen := lackTo_len gs g i
  have hb' := hb.mono hg'
  try simp (disch := first | omega | with_unfolding_all exact id rfl | with_unfolding_all exact Nat.le_of_ble_eq_true rfl | (simp only [Jd, Je, Jr, Js, Jt, Nat.reduceAdd, allOne, oneCell, Bool.and_self, Jc]; first | done | omega)) only [hb'.rd, hv'.ln, ↓Qa, ↓Qb, ↓Qc, Qd, Qe, Qf, Qg, Qh, Qi, Qj, Qk, Ql, Qm, Qn, Qo, Qp, Qq, Qr, Qs, Qt, Qu, Qv, Qw, Qx, Qy, ptrTo, Qz, QA, QB, QC, QD, QE, QF, QG, QH, QI, QJ, QK, QL, QM, QN, QO, QP, QQ, QR, QS, QT, QU, QV, QW, QX, QY, QZ, Ja, Jb, Jc, Jd, Je, Jf, Jg, Jh, Ji, Jj, Jk, Jl, Jm, Jn, Jo, Jp, Jq, Jr, Js, Jt, Nat.reduceAdd]
  refine oIf_dec (fun h1 => ?_) (fun h1 => ?_)
  · have h2 : i < gs.length := by omega
    have h3 := hs _ (List.getElem_mem h2)
    try simp (disch := first | omega | with_unfolding_all exact id rfl | with_unfolding_all exact Nat.le_of_ble_eq_true rfl | (simp only [Jd, Je, Jr, Js, Jt, Nat.reduceAdd, allOne, oneCell, Bool.and_self, Jc]; first | done | omega)) only [hb'.rd, hv'.ia h2, hv'.ld h2, oInt_and (a := gs[i]) (b := g) (by omega) (by omega), ↓Qa, ↓Qb, ↓Qc, Qd, Qe, Qf, Qg, Qh, Qi, Qj, Qk, Ql, Qm, Qn, Qo, Qp, Qq, Qr, Qs, Qt, Qu, Qv, Qw, Qx, Qy, ptrTo, Qz, QA, QB, QC, QD, QE, QF, QG, QH, QI, QJ, QK, QL, QM, QN, QO, QP, QQ, QR, QS, QT, QU, QV, QW, QX, QY, QZ, Ja, Jb, Jc, Jd, Je, Jf, Jg, Jh, Ji, Jj, Jk, Jl, Jm, Jn, Jo, Jp, Jq, Jr, Js, Jt, Nat.reduceAdd]
    refine oIf_dec (fun h4 => ?_) (fun h4 => ?_)
    · obtain ⟨u2, m2, h5, h6, h7, h8⟩ := GN.snoc (P := Tryd.prog) (t := 22) (L := L) (m0 := m1) i ael22 (by omega) hu (by omega) (by omega) hg' (Nat.le_refl _)
      try simp (disch := first | omega | with_unfolding_all exact id rfl | with_unfolding_all exact Nat.le_of_ble_eq_true rfl | (simp only [Jd, Je, Jr, Js, Jt, Nat.reduceAdd, allOne, oneCell, Bool.and_self, Jc]; first | done | omega)) only [bs22, h5, ↓Qa, ↓Qb, ↓Qc, Qd, Qe, Qf, Qg, Qh, Qi, Qj, Qk, Ql, Qm, Qn, Qo, Qp, Qq, Qr, Qs, Qt, Qu, Qv, Qw, Qx, Qy, ptrTo, Qz, QA, QB, QC, QD, QE, QF, QG, QH, QI, QJ, QK, QL, QM, QN, QO, QP, QQ, QR, QS, QT, QU, QV, QW, QX, QY, QZ, Ja, Jb, Jc, Jd, Je, Jf, Jg, Jh, Ji, Jj, Jk, Jl, Jm, Jn, Jo, Jp, Jq, Jr, Js, Jt, Nat.reduceAdd]
      rw [oInt_add ⟨by omega, by omega⟩]
      refine hself h2 _ _ ⟨u2, rfl, h7, ?_⟩
      rw [lackTo_succ gs g i h2, if_pos (by omega)]
      exact h6.le hn'
    · try simp (disch := first | omega | with_unfolding_all exact id rfl | with_unfolding_all exact Nat.le_of_ble_eq_true rfl | (simp only [Jd, Je, Jr, Js, Jt, Nat.reduceAdd, allOne, oneCell, Bool.and_self, Jc]; first | done | omega)) only [↓Qa, ↓Qb, ↓Qc, Qd, Qe, Qf, Qg, Qh, Qi, Qj, Qk, Ql, Qm, Qn, Qo, Qp, Qq, Qr, Qs, Qt, Qu, Qv, Qw, Qx, Qy, ptrTo, Qz, QA, QB, QC, QD, QE, QF, QG, QH, QI, QJ, QK, QL, QM, QN, QO, QP, QQ, QR, QS, QT, QU, QV, QW, QX, QY, QZ, Ja, Jb, Jc, Jd, Je, Jf, Jg, Jh, Ji, Jj, Jk, Jl, Jm, Jn, Jo, Jp, Jq, Jr, Js, Jt, Nat.reduceAdd]
      rw [oInt_add ⟨by omega, by omega⟩]
      refine hself h2 _ _ ⟨u, rfl, hg', ?_⟩
      rw [lackTo_succ gs g i h2, if_neg (by omega)]
      exact hu
  · have : i = gs.length := by omega
    subst this
    exact hk _ _ (g1.trans hg') (hu.le hn1)
/-- Smallest. -/
theorem rsmallest_sp {h : Int} {v : Value} {l : List Int} (hlf : 1000000 ≤ lf) (hL : L ≤ m.next) (hv : IL m v l)
    (hk : ∀ u m', Gt m m' → IN m' u (if chk h l = 0 then (List.range (2 ^ h.toNat)).filter (leastB (openB (nn l)) (2 ^ h.toNat)) else []) → k (.tuple ⟨[u, .int .i64 (chk h l)]⟩) m' = some ()) : runT (tab lf) (n + 4) 52 [Vit.hg h v] L m k = some () := by
  rw [r52]
  dsimp only [S52, iofNat, inegSucc]
  obtain ⟨p, c, rfl⟩ := hv.ex
  have g1 := Mem.gt_push m ⟨1, [.int .i64 h, .slice p l.length c], none⟩
  have hb : At (m.push ⟨1, [.int .i64 h, .slice p l.length c], none⟩) m.next _ := At.push m [.int .i64 h, .slice p l.length c]
  have hv1 := hv.mono g1
  try simp (disch := first | omega | with_unfolding_all exact id rfl | with_unfolding_all exact Nat.le_of_ble_eq_true rfl | (simp only [Jd, Je, Jr, Js, Jt, Nat.reduceAdd, allOne, oneCell, Bool.and_self, Jc]; first | done | omega)) only [hb.rd, ↓Qa, ↓Qb, ↓Qc, Qd, Qe, Qf, Qg, Qh, Qi, Qj, Qk, Ql, Qm, Qn, Qo, Qp, Qq, Qr, Qs, Qt, Qu, Qv, Qw, Qx, Qy, ptrTo, Qz, QA, QB, QC, QD, QE, QF, QG, QH, QI, QJ, QK, QL, QM, QN, QO, QP, QQ, QR, QS, QT, QU, QV, QW, QX, QY, QZ, Ja, Jb, Jc, Jd, Je, Jf, Jg, Jh, Ji, Jj, Jk, Jl, Jm, Jn, Jo, Jp, Jq, Jr, Js, Jt, Nat.reduceAdd]
  refine rcheckPlan_sp hlf hv1 fun m2 e2 => ?_
  have hb2 := hb.mono e2
  have hv2 := hv1.mono e2
  have g2 := g1.trans e2
  try simp (disch := first | omega | with_unfolding_all exact id rfl | with_unfolding_all exact Nat.le_of_ble_eq_true rfl | (simp only [Jd, Je, Jr, Js, Jt, Nat.reduceAdd, allOne, oneCell, Bool.and_self, Jc]; first | done | omega)) only [↓Qa, ↓Qb, ↓Qc, Qd, Qe, Qf, Qg, Qh, Qi, Qj, Qk, Ql, Qm, Qn, Qo, Qp, Qq, Qr, Qs, Qt, Qu, Qv, Qw, Qx, Qy, ptrTo, Qz, QA, QB, QC, QD, QE, QF, QG, QH, QI, QJ, QK, QL, QM, QN, QO, QP, QQ, QR, QS, QT, QU, QV, QW, QX, QY, QZ, Ja, Jb, Jc, Jd, Je, Jf, Jg, Jh, Ji, Jj, Jk, Jl, Jm, Jn, Jo, Jp, Jq, Jr, Js, Jt, Nat.reduceAdd]
  refine oIf_ndec (fun h1 => ?_) (fun h1 => ?_)
  · have := hk (.slice none 0 0) m2 g2 (by rw [if_neg h1]; exact IL.nil _)
    exact this
  · obtain ⟨a, rfl, ha1, ha6, hci, hlen, hlt, hlt64⟩ := chk_valid h1
    rw [if_pos h1, Int.toNat_natCast, h1] at hk
    have hp := pow_le64 ha6
    have hin2 : IN m2 (.slice p l.length c) (nn l) := by unfold IN; rw [hci]; exact hv2
    have g2n := g2.next
    refine loop_up (2 ^ a) (fun g vs m' => ∃ u, vs = [u, .int .i64 (g : Int)] ∧ Gt m2 m' ∧ GN m2.next m' u ((List.range g).filter (leastB (openB (nn l)) (2 ^ a)))) (by omega) ⟨_, rfl, Gt.refl _, GN.nil _ _⟩ ?_
    rintro g vs m3 hg ⟨u, rfl, e3, hu3⟩ self hself
    have hb3 := hb2.mono e3
    have hin3 := hin2.mono e3
    have e3n := e3.next
    have hfl := range_filter_len (leastB (openB (nn l)) (2 ^ a)) g
    try simp (disch := first | omega | with_unfolding_all exact id rfl | with_unfolding_all exact Nat.le_of_ble_eq_true rfl | (simp only [Jd, Je, Jr, Js, Jt, Nat.reduceAdd, allOne, oneCell, Bool.and_self, Jc]; first | done | omega)) only [hb3.rd, shl1 ha6, ↓Qa, ↓Qb, ↓Qc, Qd, Qe, Qf, Qg, Qh, Qi, Qj, Qk, Ql, Qm, Qn, Qo, Qp, Qq, Qr, Qs, Qt, Qu, Qv, Qw, Qx, Qy, ptrTo, Qz, QA, QB, QC, QD, QE, QF, QG, QH, QI, QJ, QK, QL, QM, QN, QO, QP, QQ, QR, QS, QT, QU, QV, QW, QX, QY, QZ, Ja, Jb, Jc, Jd, Je, Jf, Jg, Jh, Ji, Jj, Jk, Jl, Jm, Jn, Jo, Jp, Jq, Jr, Js, Jt, Nat.reduceAdd]
    refine oIf_dec (fun h2 => ?_) (fun h2 => ?_)
    · have h3 : g < 2 ^ a := by omega
      try simp (disch := first | omega | with_unfolding_all exact id rfl | with_unfolding_all exact Nat.le_of_ble_eq_true rfl | (simp only [Jd, Je, Jr, Js, Jt, Nat.reduceAdd, allOne, oneCell, Bool.and_self, Jc]; first | done | omega)) only [hb3.rd, ↓Qa, ↓Qb, ↓Qc, Qd, Qe, Qf, Qg, Qh, Qi, Qj, Qk, Ql, Qm, Qn, Qo, Qp, Qq, Qr, Qs, Qt, Qu, Qv, Qw, Qx, Qy, ptrTo, Qz, QA, QB, QC, QD, QE, QF, QG, QH, QI, QJ, QK, QL, QM, QN, QO, QP, QQ, QR, QS, QT, QU, QV, QW, QX, QY, QZ, Ja, Jb, Jc, Jd, Je, Jf, Jg, Jh, Ji, Jj, Jk, Jl, Jm, Jn, Jo, Jp, Jq, Jr, Js, Jt, Nat.reduceAdd]
      refine rlacks_sp hlf (by omega) hin3 (by rw [nn_length]; omega) hlt64 (by omega) fun w4 m4 e4 hw4 => ?_
      try simp (disch := first | omega | with_unfolding_all exact id rfl | with_unfolding_all exact Nat.le_of_ble_eq_true rfl | (simp only [Jd, Je, Jr, Js, Jt, Nat.reduceAdd, allOne, oneCell, Bool.and_self, Jc]; first | done | omega)) only [hw4.ln, ↓Qa, ↓Qb, ↓Qc, Qd, Qe, Qf, Qg, Qh, Qi, Qj, Qk, Ql, Qm, Qn, Qo, Qp, Qq, Qr, Qs, Qt, Qu, Qv, Qw, Qx, Qy, ptrTo, Qz, QA, QB, QC, QD, QE, QF, QG, QH, QI, QJ, QK, QL, QM, QN, QO, QP, QQ, QR, QS, QT, QU, QV, QW, QX, QY, QZ, Ja, Jb, Jc, Jd, Je, Jf, Jg, Jh, Ji, Jj, Jk, Jl, Jm, Jn, Jo, Jp, Jq, Jr, Js, Jt, Nat.reduceAdd]
      rw [show decide (((lack (nn l) g).length : Int) = 0) = openB (nn l) g from openB_eq _ _]
      refine loop_up (2 ^ a) (fun o vs m' => vs = [.bool (openB (nn l) g && (List.range o).all (noneBelow (openB (nn l)) g)), .int .i64 (o : Int)] ∧ Gt m4 m') (by omega) ⟨by simp, Gt.refl _⟩ ?_
      rintro o vs m5 ho ⟨rfl, e5⟩ self2 hself2
      have e35 := (e3.trans e4).trans e5
      have hb5 := (hb3.mono e4).mono e5
      have hin5 := (hin3.mono e4).mono e5
      try simp (disch := first | omega | with_unfolding_all exact id rfl | with_unfolding_all exact Nat.le_of_ble_eq_true rfl | (simp only [Jd, Je, Jr, Js, Jt, Nat.reduceAdd, allOne, oneCell, Bool.and_self, Jc]; first | done | omega)) only [hb5.rd, shl1 ha6, ↓Qa, ↓Qb, ↓Qc, Qd, Qe, Qf, Qg, Qh, Qi, Qj, Qk, Ql, Qm, Qn, Qo, Qp, Qq, Qr, Qs, Qt, Qu, Qv, Qw, Qx, Qy, ptrTo, Qz, QA, QB, QC, QD, QE, QF, QG, QH, QI, QJ, QK, QL, QM, QN, QO, QP, QQ, QR, QS, QT, QU, QV, QW, QX, QY, QZ, Ja, Jb, Jc, Jd, Je, Jf, Jg, Jh, Ji, Jj, Jk, Jl, Jm, Jn, Jo, Jp, Jq, Jr, Js, Jt, Nat.reduceAdd]
      refine oIf_dec (fun h4 => ?_) (fun h4 => ?_)
      · have h5 : o < 2 ^ a := by omega
        have hsucc := range_all_succ (noneBelow (openB (nn l)) g) o
        cases hc : (openB (nn l) g && (List.range o).all (noneBelow (openB (nn l)) g)) with
        | false =>
          try simp (disch := first | omega | with_unfolding_all exact id rfl | with_unfolding_all exact Nat.le_of_ble_eq_true rfl | (simp only [Jd, Je, Jr, Js, Jt, Nat.reduceAdd, allOne, oneCell, Bool.and_self, Jc]; first | done | omega)) only [↓Qa, ↓Qb, ↓Qc, Qd, Qe, Qf, Qg, Qh, Qi, Qj, Qk, Ql, Qm, Qn, Qo, Qp, Qq, Qr, Qs, Qt, Qu, Qv, Qw, Qx, Qy, ptrTo, Qz, QA, QB, QC, QD, QE, QF, QG, QH, QI, QJ, QK, QL, QM, QN, QO, QP, QQ, QR, QS, QT, QU, QV, QW, QX, QY, QZ, Ja, Jb, Jc, Jd, Je, Jf, Jg, Jh, Ji, Jj, Jk, Jl, Jm, Jn, Jo, Jp, Jq, Jr, Js, Jt, Nat.reduceAdd]
          rw [oInt_add ⟨by omega, by omega⟩]
          refine hself2 h5 _ _ ⟨?_, e5⟩
          rw [hsucc, ← Bool.and_assoc, hc]; rfl
        | true =>
          try simp (disch := first | omega | with_unfolding_all exact id rfl | with_unfolding_all exact Nat.le_of_ble_eq_true rfl | (simp only [Jd, Je, Jr, Js, Jt, Nat.reduceAdd, allOne, oneCell, Bool.and_self, Jc]; first | done | omega)) only [↓Qa, ↓Qb, ↓Qc, Qd, Qe, Qf, Qg, Qh, Qi, Qj, Qk, Ql, Qm, Qn, Qo, Qp, Qq, Qr, Qs, Qt, Qu, Qv, Qw, Qx, Qy, ptrTo, Qz, QA, QB, QC, QD, QE, QF, QG, QH, QI, QJ, QK, QL, QM, QN, QO, QP, QQ, QR, QS, QT, QU, QV, QW, QX, QY, QZ, Ja, Jb, Jc, Jd, Je, Jf, Jg, Jh, Ji, Jj, Jk, Jl, Jm, Jn, Jo, Jp, Jq, Jr, Js, Jt, Nat.reduceAdd]
          by_cases h6 : o = g
          · subst h6
            try simp (disch := first | omega | with_unfolding_all exact id rfl | with_unfolding_all exact Nat.le_of_ble_eq_true rfl | (simp only [Jd, Je, Jr, Js, Jt, Nat.reduceAdd, allOne, oneCell, Bool.and_self, Jc]; first | done | omega)) only [↓Qa, ↓Qb, ↓Qc, Qd, Qe, Qf, Qg, Qh, Qi, Qj, Qk, Ql, Qm, Qn, Qo, Qp, Qq, Qr, Qs, Qt, Qu, Qv, Qw, Qx, Qy, ptrTo, Qz, QA, QB, QC, QD, QE, QF, QG, QH, QI, QJ, QK, QL, QM, QN, QO, QP, QQ, QR, QS, QT, QU, QV, QW, QX, QY, QZ, Ja, Jb, Jc, Jd, Je, Jf, Jg, Jh, Ji, Jj, Jk, Jl, Jm, Jn, Jo, Jp, Jq, Jr, Js, Jt, Nat.reduceAdd]
            rw [oInt_add ⟨by omega, by omega⟩]
            refine hself2 h5 _ _ ⟨?_, e5⟩
            rw [hsucc, ← Bool.and_assoc, hc]; simp [noneBelow]
          · have h7 : ¬ ((o : Int) = (g : Int)) := by omega
            try simp (disch := first | omega | with_unfolding_all exact id rfl | with_unfolding_all exact Nat.le_of_ble_eq_true rfl | (simp only [Jd, Je, Jr, Js, Jt, Nat.reduceAdd, allOne, oneCell, Bool.and_self, Jc]; first | done | omega)) only [h7, ↓Qa, ↓Qb, ↓Qc, Qd, Qe, Qf, Qg, Qh, Qi, Qj, Qk, Ql, Qm, Qn, Qo, Qp, Qq, Qr, Qs, Qt, Qu, Qv, Qw, Qx, Qy, ptrTo, Qz, QA, QB, QC, QD, QE, QF, QG, QH, QI, QJ, QK, QL, QM, QN, QO, QP, QQ, QR, QS, QT, QU, QV, QW, QX, QY, QZ, Ja, Jb, Jc, Jd, Je, Jf, Jg, Jh, Ji, Jj, Jk, Jl, Jm, Jn, Jo, Jp, Jq, Jr, Js, Jt, Nat.reduceAdd]
            refine rlies_sp o g (by omega) (by omega) ?_
            cases hs : decide (o &&& g = o) with
            | false =>
              try simp (disch := first | omega | with_unfolding_all exact id rfl | with_unfolding_all exact Nat.le_of_ble_eq_true rfl | (simp only [Jd, Je, Jr, Js, Jt, Nat.reduceAdd, allOne, oneCell, Bool.and_self, Jc]; first | done | omega)) only [↓Qa, ↓Qb, ↓Qc, Qd, Qe, Qf, Qg, Qh, Qi, Qj, Qk, Ql, Qm, Qn, Qo, Qp, Qq, Qr, Qs, Qt, Qu, Qv, Qw, Qx, Qy, ptrTo, Qz, QA, QB, QC, QD, QE, QF, QG, QH, QI, QJ, QK, QL, QM, QN, QO, QP, QQ, QR, QS, QT, QU, QV, QW, QX, QY, QZ, Ja, Jb, Jc, Jd, Je, Jf, Jg, Jh, Ji, Jj, Jk, Jl, Jm, Jn, Jo, Jp, Jq, Jr, Js, Jt, Nat.reduceAdd]
              rw [oInt_add ⟨by omega, by omega⟩]
              refine hself2 h5 _ _ ⟨?_, e5⟩
              rw [hsucc, ← Bool.and_assoc, hc]
              simp only [noneBelow, sub, hs, Bool.and_false, Bool.false_and, Bool.not_false, Bool.and_true]
              rfl
            | true =>
              try simp (disch := first | omega | with_unfolding_all exact id rfl | with_unfolding_all exact Nat.le_of_ble_eq_true rfl | (simp only [Jd, Je, Jr, Js, Jt, Nat.reduceAdd, allOne, oneCell, Bool.and_self, Jc]; first | done | omega)) only [hb5.rd, ↓Qa, ↓Qb, ↓Qc, Qd, Qe, Qf, Qg, Qh, Qi, Qj, Qk, Ql, Qm, Qn, Qo, Qp, Qq, Qr, Qs, Qt, Qu, Qv, Qw, Qx, Qy, ptrTo, Qz, QA, QB, QC, QD, QE, QF, QG, QH, QI, QJ, QK, QL, QM, QN, QO, QP, QQ, QR, QS, QT, QU, QV, QW, QX, QY, QZ, Ja, Jb, Jc, Jd, Je, Jf, Jg, Jh, Ji, Jj, Jk, Jl, Jm, Jn, Jo, Jp, Jq, Jr, Js, Jt, Nat.reduceAdd]
              have e35n := e35.next
              refine rlacks_sp hlf (by omega) hin5 (by rw [nn_length]; omega) hlt64 (by omega) fun w6 m6 e6 hw6 => ?_
              try simp (disch := first | omega | with_unfolding_all exact id rfl | with_unfolding_all exact Nat.le_of_ble_eq_true rfl | (simp only [Jd, Je, Jr, Js, Jt, Nat.reduceAdd, allOne, oneCell, Bool.and_self, Jc]; first | done | omega)) only [hw6.ln, ↓Qa, ↓Qb, ↓Qc, Qd, Qe, Qf, Qg, Qh, Qi, Qj, Qk, Ql, Qm, Qn, Qo, Qp, Qq, Qr, Qs, Qt, Qu, Qv, Qw, Qx, Qy, ptrTo, Qz, QA, QB, QC, QD, QE, QF, QG, QH, QI, QJ, QK, QL, QM, QN, QO, QP, QQ, QR, QS, QT, QU, QV, QW, QX, QY, QZ, Ja, Jb, Jc, Jd, Je, Jf, Jg, Jh, Ji, Jj, Jk, Jl, Jm, Jn, Jo, Jp, Jq, Jr, Js, Jt, Nat.reduceAdd]
              rw [show decide (((lack (nn l) o).length : Int) = 0) = openB (nn l) o from openB_eq _ _]
              cases hm : openB (nn l) o with
              | false =>
                try simp (disch := first | omega | with_unfolding_all exact id rfl | with_unfolding_all exact Nat.le_of_ble_eq_true rfl | (simp only [Jd, Je, Jr, Js, Jt, Nat.reduceAdd, allOne, oneCell, Bool.and_self, Jc]; first | done | omega)) only [↓Qa, ↓Qb, ↓Qc, Qd, Qe, Qf, Qg, Qh, Qi, Qj, Qk, Ql, Qm, Qn, Qo, Qp, Qq, Qr, Qs, Qt, Qu, Qv, Qw, Qx, Qy, ptrTo, Qz, QA, QB, QC, QD, QE, QF, QG, QH, QI, QJ, QK, QL, QM, QN, QO, QP, QQ, QR, QS, QT, QU, QV, QW, QX, QY, QZ, Ja, Jb, Jc, Jd, Je, Jf, Jg, Jh, Ji, Jj, Jk, Jl, Jm, Jn, Jo, Jp, Jq, Jr, Js, Jt, Nat.reduceAdd]
                rw [oInt_add ⟨by omega, by omega⟩]
                refine hself2 h5 _ _ ⟨?_, e5.trans e6⟩
                rw [hsucc, ← Bool.and_assoc, hc]; simp [noneBelow, hm]
              | true =>
                try simp (disch := first | omega | with_unfolding_all exact id rfl | with_unfolding_all exact Nat.le_of_ble_eq_true rfl | (simp only [Jd, Je, Jr, Js, Jt, Nat.reduceAdd, allOne, oneCell, Bool.and_self, Jc]; first | done | omega)) only [↓Qa, ↓Qb, ↓Qc, Qd, Qe, Qf, Qg, Qh, Qi, Qj, Qk, Ql, Qm, Qn, Qo, Qp, Qq, Qr, Qs, Qt, Qu, Qv, Qw, Qx, Qy, ptrTo, Qz, QA, QB, QC, QD, QE, QF, QG, QH, QI, QJ, QK, QL, QM, QN, QO, QP, QQ, QR, QS, QT, QU, QV, QW, QX, QY, QZ, Ja, Jb, Jc, Jd, Je, Jf, Jg, Jh, Ji, Jj, Jk, Jl, Jm, Jn, Jo, Jp, Jq, Jr, Js, Jt, Nat.reduceAdd]
                rw [oInt_add ⟨by omega, by omega⟩]
                refine hself2 h5 _ _ ⟨?_, e5.trans e6⟩
                rw [hsucc, ← Bool.and_assoc, hc]
                simp only [noneBelow, sub, hs, hm, h6, decide_false, Bool.not_false, Bool.and_true, Bool.not_true, Bool.and_false, Bool.true_and]
                rfl
      · have : o = 2 ^ a := by omega
        subst this
        have e35n := e35.next
        have hu5 := (hu3.mono e4).mono e5
        have hfs := range_filter_succ (leastB (openB (nn l)) (2 ^ a)) g
        refine oIf_bool (fun h6 => ?_) (fun h6 => ?_)
        · obtain ⟨u2, m6, h8, h9, e7, h10⟩ := GN.snoc (P := Tryd.prog) (t := 22) (L := L) (m0 := m2) g ael22 (by omega) hu5 (by omega) (by omega) e35 (Nat.le_refl _)
          try simp (disch := first | omega | with_unfolding_all exact id rfl | with_unfolding_all exact Nat.le_of_ble_eq_true rfl | (simp only [Jd, Je, Jr, Js, Jt, Nat.reduceAdd, allOne, oneCell, Bool.and_self, Jc]; first | done | omega)) only [bs22, h8, ↓Qa, ↓Qb, ↓Qc, Qd, Qe, Qf, Qg, Qh, Qi, Qj, Qk, Ql, Qm, Qn, Qo, Qp, Qq, Qr, Qs, Qt, Qu, Qv, Qw, Qx, Qy, ptrTo, Qz, QA, QB, QC, QD, QE, QF, QG, QH, QI, QJ, QK, QL, QM, QN, QO, QP, QQ, QR, QS, QT, QU, QV, QW, QX, QY, QZ, Ja, Jb, Jc, Jd, Je, Jf, Jg, Jh, Ji, Jj, Jk, Jl, Jm, Jn, Jo, Jp, Jq, Jr, Js, Jt, Nat.reduceAdd]
          rw [oInt_add ⟨by omega, by omega⟩]
          refine hself h3 _ _ ⟨u2, rfl, e7, ?_⟩
          rw [hfs, if_pos (show leastB (openB (nn l)) (2 ^ a) g = true from h6)]
          exact h9.le e35n
        · try simp (disch := first | omega | with_unfolding_all exact id rfl | with_unfolding_all exact Nat.le_of_ble_eq_true rfl | (simp only [Jd, Je, Jr, Js, Jt, Nat.reduceAdd, allOne, oneCell, Bool.and_self, Jc]; first | done | omega)) only [↓Qa, ↓Qb, ↓Qc, Qd, Qe, Qf, Qg, Qh, Qi, Qj, Qk, Ql, Qm, Qn, Qo, Qp, Qq, Qr, Qs, Qt, Qu, Qv, Qw, Qx, Qy, ptrTo, Qz, QA, QB, QC, QD, QE, QF, QG, QH, QI, QJ, QK, QL, QM, QN, QO, QP, QQ, QR, QS, QT, QU, QV, QW, QX, QY, QZ, Ja, Jb, Jc, Jd, Je, Jf, Jg, Jh, Ji, Jj, Jk, Jl, Jm, Jn, Jo, Jp, Jq, Jr, Js, Jt, Nat.reduceAdd]
          rw [oInt_add ⟨by omega, by omega⟩]
          refine hself h3 _ _ ⟨u, rfl, e35, ?_⟩
          rw [hfs, if_neg (by rw [show leastB (openB (nn l)) (2 ^ a) g = false from h6]; exact Bool.false_ne_true)]
          exact hu5
    · have : g = 2 ^ a := by omega
      subst this
      exact hk u m3 (g2.trans e3) hu3.inn
/-- The largest that may not open. -/
theorem rbarred_sp {a : Nat} {v : Value} {gs : List Nat} (ha6 : a ≤ 6) (hlf : 1000000 ≤ lf) (hL : L ≤ m.next) (hv : IN m v gs) (hlen : gs.length ≤ 64) (hlt64 : ∀ g ∈ gs, g < 64)
    (hk : ∀ u m', Gt m m' → GN m.next m' u ((List.range (2 ^ a)).filter (mostB (fun g => !mayB gs g) (2 ^ a))) → k u m' = some ()) : runT (tab lf) (n + 4) 65 [Vit.hg a v] L m k = some () := by
  rw [r65]
  dsimp only [S65, iofNat, inegSucc]
  obtain ⟨p, c, rfl⟩ := hv.ex
  have g2 := Mem.gt_push m ⟨1, [.int .i64 (a : Int), .slice p gs.length c], none⟩
  have hb2 : At (m.push ⟨1, [.int .i64 (a : Int), .slice p gs.length c], none⟩) m.next _ := At.push m [.int .i64 (a : Int), .slice p gs.length c]
  have hin2 := hv.mono g2
  try simp (disch := first | omega | with_unfolding_all exact id rfl | with_unfolding_all exact Nat.le_of_ble_eq_true rfl | (simp only [Jd, Je, Jr, Js, Jt, Nat.reduceAdd, allOne, oneCell, Bool.and_self, Jc]; first | done | omega)) only [↓Qa, ↓Qb, ↓Qc, Qd, Qe, Qf, Qg, Qh, Qi, Qj, Qk, Ql, Qm, Qn, Qo, Qp, Qq, Qr, Qs, Qt, Qu, Qv, Qw, Qx, Qy, ptrTo, Qz, QA, QB, QC, QD, QE, QF, QG, QH, QI, QJ, QK, QL, QM, QN, QO, QP, QQ, QR, QS, QT, QU, QV, QW, QX, QY, QZ, Ja, Jb, Jc, Jd, Je, Jf, Jg, Jh, Ji, Jj, Jk, Jl, Jm, Jn, Jo, Jp, Jq, Jr, Js, Jt, Nat.reduceAdd]
  generalize m.push ⟨1, [.int .i64 (a : Int), .slice p gs.length c], none⟩ = m2 at g2 hb2 hin2 ⊢
  have hp := pow_le64 ha6
  have g2n := g2.next
  refine loop_up (2 ^ a) (fun g vs m' => ∃ u, vs = [u, .int .i64 (g : Int)] ∧ Gt m2 m' ∧ GN m2.next m' u ((List.range g).filter (mostB (fun g => !mayB gs g) (2 ^ a)))) (by omega) ⟨_, rfl, Gt.refl _, GN.nil _ _⟩ ?_
  rintro g vs m3 hg ⟨u, rfl, e3, hu3⟩ self hself
  have hb3 := hb2.mono e3
  have hin3 := hin2.mono e3
  have e3n := e3.next
  have hfl := range_filter_len (mostB (fun g => !mayB gs g) (2 ^ a)) g
  try simp (disch := first | omega | with_unfolding_all exact id rfl | with_unfolding_all exact Nat.le_of_ble_eq_true rfl | (simp only [Jd, Je, Jr, Js, Jt, Nat.reduceAdd, allOne, oneCell, Bool.and_self, Jc]; first | done | omega)) only [hb3.rd, shl1 ha6, ↓Qa, ↓Qb, ↓Qc, Qd, Qe, Qf, Qg, Qh, Qi, Qj, Qk, Ql, Qm, Qn, Qo, Qp, Qq, Qr, Qs, Qt, Qu, Qv, Qw, Qx, Qy, ptrTo, Qz, QA, QB, QC, QD, QE, QF, QG, QH, QI, QJ, QK, QL, QM, QN, QO, QP, QQ, QR, QS, QT, QU, QV, QW, QX, QY, QZ, Ja, Jb, Jc, Jd, Je, Jf, Jg, Jh, Ji, Jj, Jk, Jl, Jm, Jn, Jo, Jp, Jq, Jr, Js, Jt, Nat.reduceAdd]
  refine oIf_dec (fun h2 => ?_) (fun h2 => ?_)
  · have h3 : g < 2 ^ a := by omega
    try simp (disch := first | omega | with_unfolding_all exact id rfl | with_unfolding_all exact Nat.le_of_ble_eq_true rfl | (simp only [Jd, Je, Jr, Js, Jt, Nat.reduceAdd, allOne, oneCell, Bool.and_self, Jc]; first | done | omega)) only [hb3.rd, ↓Qa, ↓Qb, ↓Qc, Qd, Qe, Qf, Qg, Qh, Qi, Qj, Qk, Ql, Qm, Qn, Qo, Qp, Qq, Qr, Qs, Qt, Qu, Qv, Qw, Qx, Qy, ptrTo, Qz, QA, QB, QC, QD, QE, QF, QG, QH, QI, QJ, QK, QL, QM, QN, QO, QP, QQ, QR, QS, QT, QU, QV, QW, QX, QY, QZ, Ja, Jb, Jc, Jd, Je, Jf, Jg, Jh, Ji, Jj, Jk, Jl, Jm, Jn, Jo, Jp, Jq, Jr, Js, Jt, Nat.reduceAdd]
    refine rmay_sp hlf hin3 (by omega) hlt64 (by omega) fun m4 e4 => ?_
    try simp (disch := first | omega | with_unfolding_all exact id rfl | with_unfolding_all exact Nat.le_of_ble_eq_true rfl | (simp only [Jd, Je, Jr, Js, Jt, Nat.reduceAdd, allOne, oneCell, Bool.and_self, Jc]; first | done | omega)) only [↓Qa, ↓Qb, ↓Qc, Qd, Qe, Qf, Qg, Qh, Qi, Qj, Qk, Ql, Qm, Qn, Qo, Qp, Qq, Qr, Qs, Qt, Qu, Qv, Qw, Qx, Qy, ptrTo, Qz, QA, QB, QC, QD, QE, QF, QG, QH, QI, QJ, QK, QL, QM, QN, QO, QP, QQ, QR, QS, QT, QU, QV, QW, QX, QY, QZ, Ja, Jb, Jc, Jd, Je, Jf, Jg, Jh, Ji, Jj, Jk, Jl, Jm, Jn, Jo, Jp, Jq, Jr, Js, Jt, Nat.reduceAdd]
    refine loop_up (2 ^ a) (fun o vs m' => vs = [.bool (!mayB gs g && (List.range o).all (noneAbove (fun g => !mayB gs g) g)), .int .i64 (o : Int)] ∧ Gt m4 m') (by omega) ⟨by simp, Gt.refl _⟩ ?_
    rintro o vs m5 ho ⟨rfl, e5⟩ self2 hself2
    have e35 := (e3.trans e4).trans e5
    have hb5 := (hb3.mono e4).mono e5
    have hin5 := (hin3.mono e4).mono e5
    try simp (disch := first | omega | with_unfolding_all exact id rfl | with_unfolding_all exact Nat.le_of_ble_eq_true rfl | (simp only [Jd, Je, Jr, Js, Jt, Nat.reduceAdd, allOne, oneCell, Bool.and_self, Jc]; first | done | omega)) only [hb5.rd, shl1 ha6, ↓Qa, ↓Qb, ↓Qc, Qd, Qe, Qf, Qg, Qh, Qi, Qj, Qk, Ql, Qm, Qn, Qo, Qp, Qq, Qr, Qs, Qt, Qu, Qv, Qw, Qx, Qy, ptrTo, Qz, QA, QB, QC, QD, QE, QF, QG, QH, QI, QJ, QK, QL, QM, QN, QO, QP, QQ, QR, QS, QT, QU, QV, QW, QX, QY, QZ, Ja, Jb, Jc, Jd, Je, Jf, Jg, Jh, Ji, Jj, Jk, Jl, Jm, Jn, Jo, Jp, Jq, Jr, Js, Jt, Nat.reduceAdd]
    refine oIf_dec (fun h4 => ?_) (fun h4 => ?_)
    · have h5 : o < 2 ^ a := by omega
      have hsucc := range_all_succ (noneAbove (fun g => !mayB gs g) g) o
      cases hc : (!mayB gs g && (List.range o).all (noneAbove (fun g => !mayB gs g) g)) with
      | false =>
        try simp (disch := first | omega | with_unfolding_all exact id rfl | with_unfolding_all exact Nat.le_of_ble_eq_true rfl | (simp only [Jd, Je, Jr, Js, Jt, Nat.reduceAdd, allOne, oneCell, Bool.and_self, Jc]; first | done | omega)) only [↓Qa, ↓Qb, ↓Qc, Qd, Qe, Qf, Qg, Qh, Qi, Qj, Qk, Ql, Qm, Qn, Qo, Qp, Qq, Qr, Qs, Qt, Qu, Qv, Qw, Qx, Qy, ptrTo, Qz, QA, QB, QC, QD, QE, QF, QG, QH, QI, QJ, QK, QL, QM, QN, QO, QP, QQ, QR, QS, QT, QU, QV, QW, QX, QY, QZ, Ja, Jb, Jc, Jd, Je, Jf, Jg, Jh, Ji, Jj, Jk, Jl, Jm, Jn, Jo, Jp, Jq, Jr, Js, Jt, Nat.reduceAdd]
        rw [oInt_add ⟨by omega, by omega⟩]
        refine hself2 h5 _ _ ⟨?_, e5⟩
        rw [hsucc, ← Bool.and_assoc, hc]; rfl
      | true =>
        try simp (disch := first | omega | with_unfolding_all exact id rfl | with_unfolding_all exact Nat.le_of_ble_eq_true rfl | (simp only [Jd, Je, Jr, Js, Jt, Nat.reduceAdd, allOne, oneCell, Bool.and_self, Jc]; first | done | omega)) only [↓Qa, ↓Qb, ↓Qc, Qd, Qe, Qf, Qg, Qh, Qi, Qj, Qk, Ql, Qm, Qn, Qo, Qp, Qq, Qr, Qs, Qt, Qu, Qv, Qw, Qx, Qy, ptrTo, Qz, QA, QB, QC, QD, QE, QF, QG, QH, QI, QJ, QK, QL, QM, QN, QO, QP, QQ, QR, QS, QT, QU, QV, QW, QX, QY, QZ, Ja, Jb, Jc, Jd, Je, Jf, Jg, Jh, Ji, Jj, Jk, Jl, Jm, Jn, Jo, Jp, Jq, Jr, Js, Jt, Nat.reduceAdd]
        by_cases h6 : o = g
        · subst h6
          try simp (disch := first | omega | with_unfolding_all exact id rfl | with_unfolding_all exact Nat.le_of_ble_eq_true rfl | (simp only [Jd, Je, Jr, Js, Jt, Nat.reduceAdd, allOne, oneCell, Bool.and_self, Jc]; first | done | omega)) only [↓Qa, ↓Qb, ↓Qc, Qd, Qe, Qf, Qg, Qh, Qi, Qj, Qk, Ql, Qm, Qn, Qo, Qp, Qq, Qr, Qs, Qt, Qu, Qv, Qw, Qx, Qy, ptrTo, Qz, QA, QB, QC, QD, QE, QF, QG, QH, QI, QJ, QK, QL, QM, QN, QO, QP, QQ, QR, QS, QT, QU, QV, QW, QX, QY, QZ, Ja, Jb, Jc, Jd, Je, Jf, Jg, Jh, Ji, Jj, Jk, Jl, Jm, Jn, Jo, Jp, Jq, Jr, Js, Jt, Nat.reduceAdd]
          rw [oInt_add ⟨by omega, by omega⟩]
          refine hself2 h5 _ _ ⟨?_, e5⟩
          rw [hsucc, ← Bool.and_assoc, hc]; simp [noneAbove]
        · have h7 : ¬ ((o : Int) = (g : Int)) := by omega
          try simp (disch := first | omega | with_unfolding_all exact id rfl | with_unfolding_all exact Nat.le_of_ble_eq_true rfl | (simp only [Jd, Je, Jr, Js, Jt, Nat.reduceAdd, allOne, oneCell, Bool.and_self, Jc]; first | done | omega)) only [h7, ↓Qa, ↓Qb, ↓Qc, Qd, Qe, Qf, Qg, Qh, Qi, Qj, Qk, Ql, Qm, Qn, Qo, Qp, Qq, Qr, Qs, Qt, Qu, Qv, Qw, Qx, Qy, ptrTo, Qz, QA, QB, QC, QD, QE, QF, QG, QH, QI, QJ, QK, QL, QM, QN, QO, QP, QQ, QR, QS, QT, QU, QV, QW, QX, QY, QZ, Ja, Jb, Jc, Jd, Je, Jf, Jg, Jh, Ji, Jj, Jk, Jl, Jm, Jn, Jo, Jp, Jq, Jr, Js, Jt, Nat.reduceAdd]
          refine rlies_sp g o (by omega) (by omega) ?_
          cases hs : decide (g &&& o = g) with
          | false =>
            try simp (disch := first | omega | with_unfolding_all exact id rfl | with_unfolding_all exact Nat.le_of_ble_eq_true rfl | (simp only [Jd, Je, Jr, Js, Jt, Nat.reduceAdd, allOne, oneCell, Bool.and_self, Jc]; first | done | omega)) only [↓Qa, ↓Qb, ↓Qc, Qd, Qe, Qf, Qg, Qh, Qi, Qj, Qk, Ql, Qm, Qn, Qo, Qp, Qq, Qr, Qs, Qt, Qu, Qv, Qw, Qx, Qy, ptrTo, Qz, QA, QB, QC, QD, QE, QF, QG, QH, QI, QJ, QK, QL, QM, QN, QO, QP, QQ, QR, QS, QT, QU, QV, QW, QX, QY, QZ, Ja, Jb, Jc, Jd, Je, Jf, Jg, Jh, Ji, Jj, Jk, Jl, Jm, Jn, Jo, Jp, Jq, Jr, Js, Jt, Nat.reduceAdd]
            rw [oInt_add ⟨by omega, by omega⟩]
            refine hself2 h5 _ _ ⟨?_, e5⟩
            rw [hsucc, ← Bool.and_assoc, hc]
            simp only [noneAbove, sub, hs, Bool.and_false, Bool.false_and, Bool.not_false, Bool.and_true]
            rfl
          | true =>
            try simp (disch := first | omega | with_unfolding_all exact id rfl | with_unfolding_all exact Nat.le_of_ble_eq_true rfl | (simp only [Jd, Je, Jr, Js, Jt, Nat.reduceAdd, allOne, oneCell, Bool.and_self, Jc]; first | done | omega)) only [hb5.rd, ↓Qa, ↓Qb, ↓Qc, Qd, Qe, Qf, Qg, Qh, Qi, Qj, Qk, Ql, Qm, Qn, Qo, Qp, Qq, Qr, Qs, Qt, Qu, Qv, Qw, Qx, Qy, ptrTo, Qz, QA, QB, QC, QD, QE, QF, QG, QH, QI, QJ, QK, QL, QM, QN, QO, QP, QQ, QR, QS, QT, QU, QV, QW, QX, QY, QZ, Ja, Jb, Jc, Jd, Je, Jf, Jg, Jh, Ji, Jj, Jk, Jl, Jm, Jn, Jo, Jp, Jq, Jr, Js, Jt, Nat.reduceAdd]
            refine rmay_sp hlf hin5 (by omega) hlt64 (by omega) fun m6 e6 => ?_
            try simp (disch := first | omega | with_unfolding_all exact id rfl | with_unfolding_all exact Nat.le_of_ble_eq_true rfl | (simp only [Jd, Je, Jr, Js, Jt, Nat.reduceAdd, allOne, oneCell, Bool.and_self, Jc]; first | done | omega)) only [↓Qa, ↓Qb, ↓Qc, Qd, Qe, Qf, Qg, Qh, Qi, Qj, Qk, Ql, Qm, Qn, Qo, Qp, Qq, Qr, Qs, Qt, Qu, Qv, Qw, Qx, Qy, ptrTo, Qz, QA, QB, QC, QD, QE, QF, QG, QH, QI, QJ, QK, QL, QM, QN, QO, QP, QQ, QR, QS, QT, QU, QV, QW, QX, QY, QZ, Ja, Jb, Jc, Jd, Je, Jf, Jg, Jh, Ji, Jj, Jk, Jl, Jm, Jn, Jo, Jp, Jq, Jr, Js, Jt, Nat.reduceAdd]
            cases hm : (!mayB gs o) with
            | false =>
              try simp (disch := first | omega | with_unfolding_all exact id rfl | with_unfolding_all exact Nat.le_of_ble_eq_true rfl | (simp only [Jd, Je, Jr, Js, Jt, Nat.reduceAdd, allOne, oneCell, Bool.and_self, Jc]; first | done | omega)) only [↓Qa, ↓Qb, ↓Qc, Qd, Qe, Qf, Qg, Qh, Qi, Qj, Qk, Ql, Qm, Qn, Qo, Qp, Qq, Qr, Qs, Qt, Qu, Qv, Qw, Qx, Qy, ptrTo, Qz, QA, QB, QC, QD, QE, QF, QG, QH, QI, QJ, QK, QL, QM, QN, QO, QP, QQ, QR, QS, QT, QU, QV, QW, QX, QY, QZ, Ja, Jb, Jc, Jd, Je, Jf, Jg, Jh, Ji, Jj, Jk, Jl, Jm, Jn, Jo, Jp, Jq, Jr, Js, Jt, Nat.reduceAdd]
              rw [oInt_add ⟨by omega, by omega⟩]
              refine hself2 h5 _ _ ⟨?_, e5.trans e6⟩
              rw [hsucc, ← Bool.and_assoc, hc]; simp [noneAbove, hm]
            | true =>
              try simp (disch := first | omega | with_unfolding_all exact id rfl | with_unfolding_all exact Nat.le_of_ble_eq_true rfl | (simp only [Jd, Je, Jr, Js, Jt, Nat.reduceAdd, allOne, oneCell, Bool.and_self, Jc]; first | done | omega)) only [↓Qa, ↓Qb, ↓Qc, Qd, Qe, Qf, Qg, Qh, Qi, Qj, Qk, Ql, Qm, Qn, Qo, Qp, Qq, Qr, Qs, Qt, Qu, Qv, Qw, Qx, Qy, ptrTo, Qz, QA, QB, QC, QD, QE, QF, QG, QH, QI, QJ, QK, QL, QM, QN, QO, QP, QQ, QR, QS, QT, QU, QV, QW, QX, QY, QZ, Ja, Jb, Jc, Jd, Je, Jf, Jg, Jh, Ji, Jj, Jk, Jl, Jm, Jn, Jo, Jp, Jq, Jr, Js, Jt, Nat.reduceAdd]
              rw [oInt_add ⟨by omega, by omega⟩]
              refine hself2 h5 _ _ ⟨?_, e5.trans e6⟩
              rw [hsucc, ← Bool.and_assoc, hc]
              simp only [noneAbove, sub, hs, hm, h6, decide_false, Bool.not_false, Bool.and_true, Bool.not_true, Bool.and_false, Bool.true_and]
              rfl
    · have : o = 2 ^ a := by omega
      subst this
      have e35n := e35.next
      have hu5 := (hu3.mono e4).mono e5
      have hfs := range_filter_succ (mostB (fun g => !mayB gs g) (2 ^ a)) g
      refine oIf_bool (fun h6 => ?_) (fun h6 => ?_)
      · obtain ⟨u2, m6, h8, h9, e7, h10⟩ := GN.snoc (P := Tryd.prog) (t := 22) (L := L) (m0 := m2) g ael22 (by omega) hu5 (by omega) (by omega) e35 (Nat.le_refl _)
        try simp (disch := first | omega | with_unfolding_all exact id rfl | with_unfolding_all exact Nat.le_of_ble_eq_true rfl | (simp only [Jd, Je, Jr, Js, Jt, Nat.reduceAdd, allOne, oneCell, Bool.and_self, Jc]; first | done | omega)) only [bs22, h8, ↓Qa, ↓Qb, ↓Qc, Qd, Qe, Qf, Qg, Qh, Qi, Qj, Qk, Ql, Qm, Qn, Qo, Qp, Qq, Qr, Qs, Qt, Qu, Qv, Qw, Qx, Qy, ptrTo, Qz, QA, QB, QC, QD, QE, QF, QG, QH, QI, QJ, QK, QL, QM, QN, QO, QP, QQ, QR, QS, QT, QU, QV, QW, QX, QY, QZ, Ja, Jb, Jc, Jd, Je, Jf, Jg, Jh, Ji, Jj, Jk, Jl, Jm, Jn, Jo, Jp, Jq, Jr, Js, Jt, Nat.reduceAdd]
        rw [oInt_add ⟨by omega, by omega⟩]
        refine hself h3 _ _ ⟨u2, rfl, e7, ?_⟩
        rw [hfs, if_pos (show mostB (fun g => !mayB gs g) (2 ^ a) g = true from h6)]
        exact h9.le e35n
      · try simp (disch := first | omega | with_unfolding_all exact id rfl | with_unfolding_all exact Nat.le_of_ble_eq_true rfl | (simp only [Jd, Je, Jr, Js, Jt, Nat.reduceAdd, allOne, oneCell, Bool.and_self, Jc]; first | done | omega)) only [↓Qa, ↓Qb, ↓Qc, Qd, Qe, Qf, Qg, Qh, Qi, Qj, Qk, Ql, Qm, Qn, Qo, Qp, Qq, Qr, Qs, Qt, Qu, Qv, Qw, Qx, Qy, ptrTo, Qz, QA, QB, QC, QD, QE, QF, QG, QH, QI, QJ, QK, QL, QM, QN, QO, QP, QQ, QR, QS, QT, QU, QV, QW, QX, QY, QZ, Ja, Jb, Jc, Jd, Je, Jf, Jg, Jh, Ji, Jj, Jk, Jl, Jm, Jn, Jo, Jp, Jq, Jr, Js, Jt, Nat.reduceAdd]
        rw [oInt_add ⟨by omega, by omega⟩]
        refine hself h3 _ _ ⟨u, rfl, e35, ?_⟩
        rw [hfs, if_neg (by rw [show mostB (fun g => !mayB gs g) (2 ^ a) g = false from h6]; exact Bool.false_ne_true)]
        exact hu5
  · have : g = 2 ^ a := by omega
    subst this
    exact hk u m3 (g2.trans e3) (hu3.le g2n)
end
end Go.Vit
