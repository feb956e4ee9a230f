/- The law BondMade: its walk. -/
import Derived.Test.YticlkfhmmcepjaaDoorBondPlansAll
import Derived.Test.YticlkfhmmcepjaaDoorW18
set_option linter.unusedSimpArgs false
set_option linter.unusedVariables false
set_option maxRecDepth 20000
namespace Go.Vit
open Go Go.Proofs
attribute [local irreducible] runT loopS
/-- A new box with a pair. -/
def boxed (m : Mem) (h : Int) (s : Value) : Mem := (m.push ⟨1, [.int .i64 0, .slice none 0 0], none⟩).put m.next (some ⟨1, [.int .i64 h, s], none⟩)
theorem boxed_gt (m : Mem) (h : Int) (s : Value) : Gt m (boxed m h s) := Mem.put_gt (Mem.gt_push _ _) _ (Nat.le_refl _)
theorem boxed_at (m : Mem) (h : Int) (s : Value) : At (boxed m h s) m.next [.int .i64 h, s] := Mem.rd_put_eq _ _ (by rw [Mem.push_next]; omega)
theorem boxed_next (m : Mem) (h : Int) (s : Value) : (boxed m h s).next = m.next + 1 := rfl
theorem boxed_fold (m : Mem) (h : Int) (s : Value) : (m.push ⟨1, [.int .i64 0, .slice none 0 0], none⟩).put m.next (some ⟨1, [.int .i64 h, s], none⟩) = boxed m h s := rfl
section
variable {lf n L : Nat} {m : Mem} {k : Value → Mem → Option Unit}
theorem mades_sp {h h2 : Int} {v w : Value} {l l2 : List Int} (hlf : 1000000 ≤ lf) (hT : TabOk mTab m) (hL : L ≤ m.next) (hv : IL m v l) (hw : IL m w l2)
    (hk : ∀ m', Gt m m' → k (.bool true) m' = some ()) : runT (tab lf) (n + 10) 3 [Vit.hg h v, Vit.hg h2 w] L m k = some () := by
  rw [r3]
  dsimp only [S3, iofNat, inegSucc]
  obtain ⟨p, c, rfl⟩ := hv.ex
  obtain ⟨q, c2, rfl⟩ := hw.ex
  try simp (maxSteps := 4000000) (disch := first | omega | with_unfolding_all exact id rfl | with_unfolding_all exact Nat.le_of_ble_eq_true rfl | (simp only [Jd, Je, Jr, Js, Jt, Nat.reduceAdd, allOne, oneCell, Bool.and_self, Jc]; first | done | omega)) only [↓Qa, ↓Qb, Qd, Qe, Qf, Qg, Qh, Qi, Qj, Qk, Ql, Qm, Qn, Qo, Qp, Qq, Qr, Qs, Qt, Qu, Qv, Qw, Qx, Qy, ptrTo, Qz, QA, QB, QC, QD, QE, QF, QG, QH, QI, QJ, QK, QL, QM, QN, QO, QP, QQ, QR, QS, QT, QU, QV, QW, QX, QY, QZ, Ja, Jb, Jc, Jd, Je, Jf, Jg, Jh, Ji, Jj, Jk, Jl, Jm, Jn, Jo, Jp, Jq, Jr, Js, Jt, Nat.reduceAdd]
  have g1 : Gt m ((m.push ⟨1, [.int .i64 h, .slice p l.length c], none⟩).push ⟨1, [.int .i64 h2, .slice q l2.length c2], none⟩) := (Mem.gt_push _ _).trans (Mem.gt_push _ _)
  have hb1 : At ((m.push ⟨1, [.int .i64 h, .slice p l.length c], none⟩).push ⟨1, [.int .i64 h2, .slice q l2.length c2], none⟩) (m.next + 1) [.int .i64 h2, .slice q l2.length c2] := Mem.rd_push (m.push ⟨1, [.int .i64 h, .slice p l.length c], none⟩) _
  have ha1 : At ((m.push ⟨1, [.int .i64 h, .slice p l.length c], none⟩).push ⟨1, [.int .i64 h2, .slice q l2.length c2], none⟩) m.next [.int .i64 h, .slice p l.length c] := (At.push m [.int .i64 h, .slice p l.length c]).mono (Mem.gt_push _ _)
  have g1n : ((m.push ⟨1, [.int .i64 h, .slice p l.length c], none⟩).push ⟨1, [.int .i64 h2, .slice q l2.length c2], none⟩).next = m.next + 1 + 1 := rfl
  generalize (m.push ⟨1, [.int .i64 h, .slice p l.length c], none⟩).push ⟨1, [.int .i64 h2, .slice q l2.length c2], none⟩ = m1 at g1 hb1 ha1 g1n ⊢
  have hv1 := hv.mono g1
  have hw1 := hw.mono g1
  try simp (maxSteps := 4000000) (disch := first | omega | with_unfolding_all exact id rfl | with_unfolding_all exact Nat.le_of_ble_eq_true rfl | (simp only [Jd, Je, Jr, Js, Jt, Nat.reduceAdd, allOne, oneCell, Bool.and_self, Jc]; first | done | omega)) only [ha1.rd, ↓Qa, ↓Qb, Qd, Qe, Qf, Qg, Qh, Qi, Qj, Qk, Ql, Qm, Qn, Qo, Qp, Qq, Qr, Qs, Qt, Qu, Qv, Qw, Qx, Qy, ptrTo, Qz, QA, QB, QC, QD, QE, QF, QG, QH, QI, QJ, QK, QL, QM, QN, QO, QP, QQ, QR, QS, QT, QU, QV, QW, QX, QY, QZ, Ja, Jb, Jc, Jd, Je, Jf, Jg, Jh, Ji, Jj, Jk, Jl, Jm, Jn, Jo, Jp, Jq, Jr, Js, Jt, Nat.reduceAdd]
  refine large_sp hv1 ?_
  rw [join_e]
  have fin : ∀ m', Gt m m' → runT (tab lf) (n + 9) 15 [] L m' (fun v m' => k v m') = some () := fun m' g => works_sp (hT.mono g) (hk _ g)
  by_cases hl1 : l.length > 200
  · try simp (maxSteps := 4000000) (disch := first | omega | with_unfolding_all exact id rfl | with_unfolding_all exact Nat.le_of_ble_eq_true rfl | (simp only [Jd, Je, Jr, Js, Jt, Nat.reduceAdd, allOne, oneCell, Bool.and_self, Jc]; first | done | omega)) only [decide_eq_true hl1, ↓Qa, ↓Qb, Qd, Qe, Qf, Qg, Qh, Qi, Qj, Qk, Ql, Qm, Qn, Qo, Qp, Qq, Qr, Qs, Qt, Qu, Qv, Qw, Qx, Qy, ptrTo, Qz, QA, QB, QC, QD, QE, QF, QG, QH, QI, QJ, QK, QL, QM, QN, QO, QP, QQ, QR, QS, QT, QU, QV, QW, QX, QY, QZ, Ja, Jb, Jc, Jd, Je, Jf, Jg, Jh, Ji, Jj, Jk, Jl, Jm, Jn, Jo, Jp, Jq, Jr, Js, Jt, Nat.reduceAdd]
    exact fin _ g1
  · try simp (maxSteps := 4000000) (disch := first | omega | with_unfolding_all exact id rfl | with_unfolding_all exact Nat.le_of_ble_eq_true rfl | (simp only [Jd, Je, Jr, Js, Jt, Nat.reduceAdd, allOne, oneCell, Bool.and_self, Jc]; first | done | omega)) only [decide_eq_false hl1, hb1.rd, ↓Qa, ↓Qb, Qd, Qe, Qf, Qg, Qh, Qi, Qj, Qk, Ql, Qm, Qn, Qo, Qp, Qq, Qr, Qs, Qt, Qu, Qv, Qw, Qx, Qy, ptrTo, Qz, QA, QB, QC, QD, QE, QF, QG, QH, QI, QJ, QK, QL, QM, QN, QO, QP, QQ, QR, QS, QT, QU, QV, QW, QX, QY, QZ, Ja, Jb, Jc, Jd, Je, Jf, Jg, Jh, Ji, Jj, Jk, Jl, Jm, Jn, Jo, Jp, Jq, Jr, Js, Jt, Nat.reduceAdd]
    refine large_sp hw1 ?_
    by_cases hl2 : l2.length > 200
    · try simp (maxSteps := 4000000) (disch := first | omega | with_unfolding_all exact id rfl | with_unfolding_all exact Nat.le_of_ble_eq_true rfl | (simp only [Jd, Je, Jr, Js, Jt, Nat.reduceAdd, allOne, oneCell, Bool.and_self, Jc]; first | done | omega)) only [decide_eq_true hl2, ↓Qa, ↓Qb, Qd, Qe, Qf, Qg, Qh, Qi, Qj, Qk, Ql, Qm, Qn, Qo, Qp, Qq, Qr, Qs, Qt, Qu, Qv, Qw, Qx, Qy, ptrTo, Qz, QA, QB, QC, QD, QE, QF, QG, QH, QI, QJ, QK, QL, QM, QN, QO, QP, QQ, QR, QS, QT, QU, QV, QW, QX, QY, QZ, Ja, Jb, Jc, Jd, Je, Jf, Jg, Jh, Ji, Jj, Jk, Jl, Jm, Jn, Jo, Jp, Jq, Jr, Js, Jt, Nat.reduceAdd]
      exact fin _ g1
    · try simp (maxSteps := 4000000) (disch := first | omega | with_unfolding_all exact id rfl | with_unfolding_all exact Nat.le_of_ble_eq_true rfl | (simp only [Jd, Je, Jr, Js, Jt, Nat.reduceAdd, allOne, oneCell, Bool.and_self, Jc]; first | done | omega)) only [decide_eq_false hl2, ha1.rd, hb1.rd, ↓Qa, ↓Qb, Qd, Qe, Qf, Qg, Qh, Qi, Qj, Qk, Ql, Qm, Qn, Qo, Qp, Qq, Qr, Qs, Qt, Qu, Qv, Qw, Qx, Qy, ptrTo, Qz, QA, QB, QC, QD, QE, QF, QG, QH, QI, QJ, QK, QL, QM, QN, QO, QP, QQ, QR, QS, QT, QU, QV, QW, QX, QY, QZ, Ja, Jb, Jc, Jd, Je, Jf, Jg, Jh, Ji, Jj, Jk, Jl, Jm, Jn, Jo, Jp, Jq, Jr, Js, Jt, Nat.reduceAdd]
      have e2 : Gt m1 ((((m1.push ⟨1, [.int .i64 0, .slice none 0 0], none⟩).push ⟨1, [.int .i64 0, .slice none 0 0], none⟩).put m1.next (some ⟨1, [.int .i64 h, .slice p l.length c], none⟩)).put (m1.next + 1) (some ⟨1, [.int .i64 h2, .slice q l2.length c2], none⟩)) :=
        Mem.put_gt (Mem.put_gt ((Mem.gt_push _ _).trans (Mem.gt_push _ _)) _ (Nat.le_refl _)) _ (by omega)
      have hp2 : At ((((m1.push ⟨1, [.int .i64 0, .slice none 0 0], none⟩).push ⟨1, [.int .i64 0, .slice none 0 0], none⟩).put m1.next (some ⟨1, [.int .i64 h, .slice p l.length c], none⟩)).put (m1.next + 1) (some ⟨1, [.int .i64 h2, .slice q l2.length c2], none⟩)) (m1.next + 1) [.int .i64 h2, .slice q l2.length c2] := Mem.rd_put_eq _ _ (by show _ < m1.next + 1 + 1; omega)
      have hr2 : At ((((m1.push ⟨1, [.int .i64 0, .slice none 0 0], none⟩).push ⟨1, [.int .i64 0, .slice none 0 0], none⟩).put m1.next (some ⟨1, [.int .i64 h, .slice p l.length c], none⟩)).put (m1.next + 1) (some ⟨1, [.int .i64 h2, .slice q l2.length c2], none⟩)) m1.next [.int .i64 h, .slice p l.length c] := (Mem.rd_put _ _ _ _ (by omega)).trans (Mem.rd_put_eq _ _ (by show _ < m1.next + 1 + 1; omega))
      generalize (((m1.push ⟨1, [.int .i64 0, .slice none 0 0], none⟩).push ⟨1, [.int .i64 0, .slice none 0 0], none⟩).put m1.next (some ⟨1, [.int .i64 h, .slice p l.length c], none⟩)).put (m1.next + 1) (some ⟨1, [.int .i64 h2, .slice q l2.length c2], none⟩) = m2 at e2 hp2 hr2 ⊢
      have e2n := e2.next
      replace ha1 := ha1.mono e2; replace hb1 := hb1.mono e2; replace hv1 := hv1.mono e2; replace hw1 := hw1.mono e2
      have G2 := g1.trans e2
      refine make1_sp hlf (by omega) hv1 fun u3 m3 e3 hu3 => ?_
      obtain ⟨q3, n3, d3, rfl⟩ : ∃ q n d, u3 = .slice q n d := by obtain ⟨a, b, h⟩ := hu3.ex; exact ⟨a, _, b, h⟩
      have e3n := e3.next
      have G3 := G2.trans e3
      replace ha1 := ha1.mono e3; replace hb1 := hb1.mono e3; replace hv1 := hv1.mono e3; replace hw1 := hw1.mono e3; replace hp2 := hp2.mono e3; replace hr2 := hr2.mono e3
      try simp (maxSteps := 4000000) (disch := first | omega | with_unfolding_all exact id rfl | with_unfolding_all exact Nat.le_of_ble_eq_true rfl | (simp only [Jd, Je, Jr, Js, Jt, Nat.reduceAdd, allOne, oneCell, Bool.and_self, Jc]; first | done | omega)) only [hr2.rd, ha1.rd, hb1.rd, hp2.rd, ↓Qa, ↓Qb, Qd, Qe, Qf, Qg, Qh, Qi, Qj, Qk, Ql, Qm, Qn, Qo, Qp, Qq, Qr, Qs, Qt, Qu, Qv, Qw, Qx, Qy, ptrTo, Qz, QA, QB, QC, QD, QE, QF, QG, QH, QI, QJ, QK, QL, QM, QN, QO, QP, QQ, QR, QS, QT, QU, QV, QW, QX, QY, QZ, Ja, Jb, Jc, Jd, Je, Jf, Jg, Jh, Ji, Jj, Jk, Jl, Jm, Jn, Jo, Jp, Jq, Jr, Js, Jt, Nat.reduceAdd]
      rw [boxed_fold]
      have e4 := boxed_gt m3 (if chk h l = 0 then h else 0) (.slice q3 n3 d3)
      have hA := boxed_at m3 (if chk h l = 0 then h else 0) (.slice q3 n3 d3)
      have e4n := e4.next
      have hAl := hA.lt
      generalize boxed m3 (if chk h l = 0 then h else 0) (.slice q3 n3 d3) = m4 at e4 hA e4n hAl ⊢
      have G4 := G3.trans e4
      replace ha1 := ha1.mono e4; replace hb1 := hb1.mono e4; replace hv1 := hv1.mono e4; replace hw1 := hw1.mono e4; replace hp2 := hp2.mono e4; replace hr2 := hr2.mono e4; replace hu3 := hu3.mono e4
      try simp (maxSteps := 4000000) (disch := first | omega | with_unfolding_all exact id rfl | with_unfolding_all exact Nat.le_of_ble_eq_true rfl | (simp only [Jd, Je, Jr, Js, Jt, Nat.reduceAdd, allOne, oneCell, Bool.and_self, Jc]; first | done | omega)) only [hr2.rd, ↓Qa, ↓Qb, Qd, Qe, Qf, Qg, Qh, Qi, Qj, Qk, Ql, Qm, Qn, Qo, Qp, Qq, Qr, Qs, Qt, Qu, Qv, Qw, Qx, Qy, ptrTo, Qz, QA, QB, QC, QD, QE, QF, QG, QH, QI, QJ, QK, QL, QM, QN, QO, QP, QQ, QR, QS, QT, QU, QV, QW, QX, QY, QZ, Ja, Jb, Jc, Jd, Je, Jf, Jg, Jh, Ji, Jj, Jk, Jl, Jm, Jn, Jo, Jp, Jq, Jr, Js, Jt, Nat.reduceAdd]
      refine rmake1_sp hlf (by omega) hv1 fun u5 m5 e5 hu5 => ?_
      obtain ⟨q5, n5, d5, rfl⟩ : ∃ q n d, u5 = .slice q n d := by obtain ⟨a, b, h⟩ := hu5.ex; exact ⟨a, _, b, h⟩
      have e5n := e5.next
      have G5 := G4.trans e5
      replace ha1 := ha1.mono e5; replace hb1 := hb1.mono e5; replace hv1 := hv1.mono e5; replace hw1 := hw1.mono e5; replace hp2 := hp2.mono e5; replace hr2 := hr2.mono e5; replace hu3 := hu3.mono e5; replace hA := hA.mono e5
      try simp (maxSteps := 4000000) (disch := first | omega | with_unfolding_all exact id rfl | with_unfolding_all exact Nat.le_of_ble_eq_true rfl | (simp only [Jd, Je, Jr, Js, Jt, Nat.reduceAdd, allOne, oneCell, Bool.and_self, Jc]; first | done | omega)) only [hr2.rd, ha1.rd, hb1.rd, hp2.rd, hA.rd, ↓Qa, ↓Qb, Qd, Qe, Qf, Qg, Qh, Qi, Qj, Qk, Ql, Qm, Qn, Qo, Qp, Qq, Qr, Qs, Qt, Qu, Qv, Qw, Qx, Qy, ptrTo, Qz, QA, QB, QC, QD, QE, QF, QG, QH, QI, QJ, QK, QL, QM, QN, QO, QP, QQ, QR, QS, QT, QU, QV, QW, QX, QY, QZ, Ja, Jb, Jc, Jd, Je, Jf, Jg, Jh, Ji, Jj, Jk, Jl, Jm, Jn, Jo, Jp, Jq, Jr, Js, Jt, Nat.reduceAdd]
      rw [boxed_fold]
      have e6 := boxed_gt m5 (if chk h l = 0 then h else 0) (.slice q5 n5 d5)
      have hB := boxed_at m5 (if chk h l = 0 then h else 0) (.slice q5 n5 d5)
      have e6n := e6.next
      have hBl := hB.lt
      generalize boxed m5 (if chk h l = 0 then h else 0) (.slice q5 n5 d5) = m6 at e6 hB e6n hBl ⊢
      have G6 := G5.trans e6
      replace ha1 := ha1.mono e6; replace hb1 := hb1.mono e6; replace hv1 := hv1.mono e6; replace hw1 := hw1.mono e6; replace hp2 := hp2.mono e6; replace hr2 := hr2.mono e6; replace hu3 := hu3.mono e6; replace hA := hA.mono e6; replace hu5 := hu5.mono e6
      try simp (maxSteps := 4000000) (disch := first | omega | with_unfolding_all exact id rfl | with_unfolding_all exact Nat.le_of_ble_eq_true rfl | (simp only [Jd, Je, Jr, Js, Jt, Nat.reduceAdd, allOne, oneCell, Bool.and_self, Jc]; first | done | omega)) only [ha1.rd, hb1.rd, ↓Qa, ↓Qb, Qd, Qe, Qf, Qg, Qh, Qi, Qj, Qk, Ql, Qm, Qn, Qo, Qp, Qq, Qr, Qs, Qt, Qu, Qv, Qw, Qx, Qy, ptrTo, Qz, QA, QB, QC, QD, QE, QF, QG, QH, QI, QJ, QK, QL, QM, QN, QO, QP, QQ, QR, QS, QT, QU, QV, QW, QX, QY, QZ, Ja, Jb, Jc, Jd, Je, Jf, Jg, Jh, Ji, Jj, Jk, Jl, Jm, Jn, Jo, Jp, Jq, Jr, Js, Jt, Nat.reduceAdd]
      refine fits1_sp hlf (by omega) hv1 hw1 fun m7 e7 => ?_
      have e7n := e7.next
      have G7 := G6.trans e7
      replace ha1 := ha1.mono e7; replace hb1 := hb1.mono e7; replace hv1 := hv1.mono e7; replace hw1 := hw1.mono e7; replace hp2 := hp2.mono e7; replace hr2 := hr2.mono e7; replace hu3 := hu3.mono e7; replace hA := hA.mono e7; replace hu5 := hu5.mono e7; replace hB := hB.mono e7
      try simp (maxSteps := 4000000) (disch := first | omega | with_unfolding_all exact id rfl | with_unfolding_all exact Nat.le_of_ble_eq_true rfl | (simp only [Jd, Je, Jr, Js, Jt, Nat.reduceAdd, allOne, oneCell, Bool.and_self, Jc]; first | done | omega)) only [hp2.rd, hr2.rd, ↓Qa, ↓Qb, Qd, Qe, Qf, Qg, Qh, Qi, Qj, Qk, Ql, Qm, Qn, Qo, Qp, Qq, Qr, Qs, Qt, Qu, Qv, Qw, Qx, Qy, ptrTo, Qz, QA, QB, QC, QD, QE, QF, QG, QH, QI, QJ, QK, QL, QM, QN, QO, QP, QQ, QR, QS, QT, QU, QV, QW, QX, QY, QZ, Ja, Jb, Jc, Jd, Je, Jf, Jg, Jh, Ji, Jj, Jk, Jl, Jm, Jn, Jo, Jp, Jq, Jr, Js, Jt, Nat.reduceAdd]
      refine rfits1_sp hlf (by omega) hv1 hw1 fun m8 e8 => ?_
      have e8n := e8.next
      have G8 := G7.trans e8
      replace ha1 := ha1.mono e8; replace hb1 := hb1.mono e8; replace hv1 := hv1.mono e8; replace hw1 := hw1.mono e8; replace hp2 := hp2.mono e8; replace hr2 := hr2.mono e8; replace hu3 := hu3.mono e8; replace hA := hA.mono e8; replace hu5 := hu5.mono e8; replace hB := hB.mono e8
      try simp (maxSteps := 4000000) (disch := first | omega | with_unfolding_all exact id rfl | with_unfolding_all exact Nat.le_of_ble_eq_true rfl | (simp only [Jd, Je, Jr, Js, Jt, Nat.reduceAdd, allOne, oneCell, Bool.and_self, Jc]; first | done | omega)) only [hb1.rd, ↓Qa, ↓Qb, Qd, Qe, Qf, Qg, Qh, Qi, Qj, Qk, Ql, Qm, Qn, Qo, Qp, Qq, Qr, Qs, Qt, Qu, Qv, Qw, Qx, Qy, ptrTo, Qz, QA, QB, QC, QD, QE, QF, QG, QH, QI, QJ, QK, QL, QM, QN, QO, QP, QQ, QR, QS, QT, QU, QV, QW, QX, QY, QZ, Ja, Jb, Jc, Jd, Je, Jf, Jg, Jh, Ji, Jj, Jk, Jl, Jm, Jn, Jo, Jp, Jq, Jr, Js, Jt, Nat.reduceAdd]
      refine thin1_sp hlf (by omega) hw1 fun u9 m9 e9 hu9 => ?_
      obtain ⟨q9, n9, d9, rfl⟩ : ∃ q n d, u9 = .slice q n d := by obtain ⟨a, b, h⟩ := hu9.ex; exact ⟨a, _, b, h⟩
      have e9n := e9.next
      have G9 := G8.trans e9
      replace ha1 := ha1.mono e9; replace hb1 := hb1.mono e9; replace hv1 := hv1.mono e9; replace hw1 := hw1.mono e9; replace hp2 := hp2.mono e9; replace hr2 := hr2.mono e9; replace hu3 := hu3.mono e9; replace hA := hA.mono e9; replace hu5 := hu5.mono e9; replace hB := hB.mono e9
      try simp (maxSteps := 4000000) (disch := first | omega | with_unfolding_all exact id rfl | with_unfolding_all exact Nat.le_of_ble_eq_true rfl | (simp only [Jd, Je, Jr, Js, Jt, Nat.reduceAdd, allOne, oneCell, Bool.and_self, Jc]; first | done | omega)) only [hr2.rd, ha1.rd, hb1.rd, hp2.rd, hA.rd, hB.rd, ↓Qa, ↓Qb, Qd, Qe, Qf, Qg, Qh, Qi, Qj, Qk, Ql, Qm, Qn, Qo, Qp, Qq, Qr, Qs, Qt, Qu, Qv, Qw, Qx, Qy, ptrTo, Qz, QA, QB, QC, QD, QE, QF, QG, QH, QI, QJ, QK, QL, QM, QN, QO, QP, QQ, QR, QS, QT, QU, QV, QW, QX, QY, QZ, Ja, Jb, Jc, Jd, Je, Jf, Jg, Jh, Ji, Jj, Jk, Jl, Jm, Jn, Jo, Jp, Jq, Jr, Js, Jt, Nat.reduceAdd]
      rw [boxed_fold]
      have e10 := boxed_gt m9 (if chk h2 l2 = 0 then h2 else 0) (.slice q9 n9 d9)
      have hC := boxed_at m9 (if chk h2 l2 = 0 then h2 else 0) (.slice q9 n9 d9)
      have e10n := e10.next
      have hCl := hC.lt
      generalize boxed m9 (if chk h2 l2 = 0 then h2 else 0) (.slice q9 n9 d9) = m10 at e10 hC e10n hCl ⊢
      have G10 := G9.trans e10
      replace ha1 := ha1.mono e10; replace hb1 := hb1.mono e10; replace hv1 := hv1.mono e10; replace hw1 := hw1.mono e10; replace hp2 := hp2.mono e10; replace hr2 := hr2.mono e10; replace hu3 := hu3.mono e10; replace hA := hA.mono e10; replace hu5 := hu5.mono e10; replace hB := hB.mono e10; replace hu9 := hu9.mono e10
      try simp (maxSteps := 4000000) (disch := first | omega | with_unfolding_all exact id rfl | with_unfolding_all exact Nat.le_of_ble_eq_true rfl | (simp only [Jd, Je, Jr, Js, Jt, Nat.reduceAdd, allOne, oneCell, Bool.and_self, Jc]; first | done | omega)) only [hp2.rd, ↓Qa, ↓Qb, Qd, Qe, Qf, Qg, Qh, Qi, Qj, Qk, Ql, Qm, Qn, Qo, Qp, Qq, Qr, Qs, Qt, Qu, Qv, Qw, Qx, Qy, ptrTo, Qz, QA, QB, QC, QD, QE, QF, QG, QH, QI, QJ, QK, QL, QM, QN, QO, QP, QQ, QR, QS, QT, QU, QV, QW, QX, QY, QZ, Ja, Jb, Jc, Jd, Je, Jf, Jg, Jh, Ji, Jj, Jk, Jl, Jm, Jn, Jo, Jp, Jq, Jr, Js, Jt, Nat.reduceAdd]
      refine rthin1_sp hlf (by omega) hw1 fun u11 m11 e11 hu11 => ?_
      obtain ⟨q11, n11, d11, rfl⟩ : ∃ q n d, u11 = .slice q n d := by obtain ⟨a, b, h⟩ := hu11.ex; exact ⟨a, _, b, h⟩
      have e11n := e11.next
      have G11 := G10.trans e11
      replace ha1 := ha1.mono e11; replace hb1 := hb1.mono e11; replace hv1 := hv1.mono e11; replace hw1 := hw1.mono e11; replace hp2 := hp2.mono e11; replace hr2 := hr2.mono e11; replace hu3 := hu3.mono e11; replace hA := hA.mono e11; replace hu5 := hu5.mono e11; replace hB := hB.mono e11; replace hC := hC.mono e11; replace hu9 := hu9.mono e11
      try simp (maxSteps := 4000000) (disch := first | omega | with_unfolding_all exact id rfl | with_unfolding_all exact Nat.le_of_ble_eq_true rfl | (simp only [Jd, Je, Jr, Js, Jt, Nat.reduceAdd, allOne, oneCell, Bool.and_self, Jc]; first | done | omega)) only [hr2.rd, ha1.rd, hb1.rd, hp2.rd, hA.rd, hB.rd, hC.rd, ↓Qa, ↓Qb, Qd, Qe, Qf, Qg, Qh, Qi, Qj, Qk, Ql, Qm, Qn, Qo, Qp, Qq, Qr, Qs, Qt, Qu, Qv, Qw, Qx, Qy, ptrTo, Qz, QA, QB, QC, QD, QE, QF, QG, QH, QI, QJ, QK, QL, QM, QN, QO, QP, QQ, QR, QS, QT, QU, QV, QW, QX, QY, QZ, Ja, Jb, Jc, Jd, Je, Jf, Jg, Jh, Ji, Jj, Jk, Jl, Jm, Jn, Jo, Jp, Jq, Jr, Js, Jt, Nat.reduceAdd]
      rw [boxed_fold]
      have e12 := boxed_gt m11 (if chk h2 l2 = 0 then h2 else 0) (.slice q11 n11 d11)
      have hD := boxed_at m11 (if chk h2 l2 = 0 then h2 else 0) (.slice q11 n11 d11)
      have e12n := e12.next
      have hDl := hD.lt
      generalize boxed m11 (if chk h2 l2 = 0 then h2 else 0) (.slice q11 n11 d11) = m12 at e12 hD e12n hDl ⊢
      have G12 := G11.trans e12
      replace hu3 := hu3.mono e12; replace hA := hA.mono e12; replace hu5 := hu5.mono e12; replace hB := hB.mono e12; replace hC := hC.mono e12; replace hu9 := hu9.mono e12; replace hu11 := hu11.mono e12
      have hq1 := smallX_len h l
      have hq2 := leastX_len h2 l2
      try simp (maxSteps := 4000000) (disch := first | omega | with_unfolding_all exact id rfl | with_unfolding_all exact Nat.le_of_ble_eq_true rfl | (simp only [Jd, Je, Jr, Js, Jt, Nat.reduceAdd, allOne, oneCell, Bool.and_self, Jc]; first | done | omega)) only [hA.rd, hB.rd, ↓Qa, ↓Qb, Qd, Qe, Qf, Qg, Qh, Qi, Qj, Qk, Ql, Qm, Qn, Qo, Qp, Qq, Qr, Qs, Qt, Qu, Qv, Qw, Qx, Qy, ptrTo, Qz, QA, QB, QC, QD, QE, QF, QG, QH, QI, QJ, QK, QL, QM, QN, QO, QP, QQ, QR, QS, QT, QU, QV, QW, QX, QY, QZ, Ja, Jb, Jc, Jd, Je, Jf, Jg, Jh, Ji, Jj, Jk, Jl, Jm, Jn, Jo, Jp, Jq, Jr, Js, Jt, Nat.reduceAdd]
      refine same_sp hlf hu3 hu5 (by rw [ci_length]; omega) ?_
      try simp (maxSteps := 4000000) (disch := first | omega | with_unfolding_all exact id rfl | with_unfolding_all exact Nat.le_of_ble_eq_true rfl | (simp only [Jd, Je, Jr, Js, Jt, Nat.reduceAdd, allOne, oneCell, Bool.and_self, Jc]; first | done | omega)) only [↓Qa, ↓Qb, Qd, Qe, Qf, Qg, Qh, Qi, Qj, Qk, Ql, Qm, Qn, Qo, Qp, Qq, Qr, Qs, Qt, Qu, Qv, Qw, Qx, Qy, ptrTo, Qz, QA, QB, QC, QD, QE, QF, QG, QH, QI, QJ, QK, QL, QM, QN, QO, QP, QQ, QR, QS, QT, QU, QV, QW, QX, QY, QZ, Ja, Jb, Jc, Jd, Je, Jf, Jg, Jh, Ji, Jj, Jk, Jl, Jm, Jn, Jo, Jp, Jq, Jr, Js, Jt, Nat.reduceAdd]
      repeat (rw [join_e]; try simp (maxSteps := 4000000) (disch := first | omega | with_unfolding_all exact id rfl | with_unfolding_all exact Nat.le_of_ble_eq_true rfl | (simp only [Jd, Je, Jr, Js, Jt, Nat.reduceAdd, allOne, oneCell, Bool.and_self, Jc]; first | done | omega)) only [hC.rd, hD.rd, ↓Qa, ↓Qb, Qd, Qe, Qf, Qg, Qh, Qi, Qj, Qk, Ql, Qm, Qn, Qo, Qp, Qq, Qr, Qs, Qt, Qu, Qv, Qw, Qx, Qy, ptrTo, Qz, QA, QB, QC, QD, QE, QF, QG, QH, QI, QJ, QK, QL, QM, QN, QO, QP, QQ, QR, QS, QT, QU, QV, QW, QX, QY, QZ, Ja, Jb, Jc, Jd, Je, Jf, Jg, Jh, Ji, Jj, Jk, Jl, Jm, Jn, Jo, Jp, Jq, Jr, Js, Jt, Nat.reduceAdd])
      refine same_sp hlf hu9 hu11 (by rw [ci_length]; omega) ?_
      try simp (maxSteps := 4000000) (disch := first | omega | with_unfolding_all exact id rfl | with_unfolding_all exact Nat.le_of_ble_eq_true rfl | (simp only [Jd, Je, Jr, Js, Jt, Nat.reduceAdd, allOne, oneCell, Bool.and_self, Jc]; first | done | omega)) only [↓Qa, ↓Qb, Qd, Qe, Qf, Qg, Qh, Qi, Qj, Qk, Ql, Qm, Qn, Qo, Qp, Qq, Qr, Qs, Qt, Qu, Qv, Qw, Qx, Qy, ptrTo, Qz, QA, QB, QC, QD, QE, QF, QG, QH, QI, QJ, QK, QL, QM, QN, QO, QP, QQ, QR, QS, QT, QU, QV, QW, QX, QY, QZ, Ja, Jb, Jc, Jd, Je, Jf, Jg, Jh, Ji, Jj, Jk, Jl, Jm, Jn, Jo, Jp, Jq, Jr, Js, Jt, Nat.reduceAdd]
      repeat (rw [join_e]; try simp (maxSteps := 4000000) (disch := first | omega | with_unfolding_all exact id rfl | with_unfolding_all exact Nat.le_of_ble_eq_true rfl | (simp only [Jd, Je, Jr, Js, Jt, Nat.reduceAdd, allOne, oneCell, Bool.and_self, Jc]; first | done | omega)) only [↓Qa, ↓Qb, Qd, Qe, Qf, Qg, Qh, Qi, Qj, Qk, Ql, Qm, Qn, Qo, Qp, Qq, Qr, Qs, Qt, Qu, Qv, Qw, Qx, Qy, ptrTo, Qz, QA, QB, QC, QD, QE, QF, QG, QH, QI, QJ, QK, QL, QM, QN, QO, QP, QQ, QR, QS, QT, QU, QV, QW, QX, QY, QZ, Ja, Jb, Jc, Jd, Je, Jf, Jg, Jh, Ji, Jj, Jk, Jl, Jm, Jn, Jo, Jp, Jq, Jr, Js, Jt, Nat.reduceAdd])
      refine works_sp (hT.mono G12) ?_
      try simp (maxSteps := 4000000) (disch := first | omega | with_unfolding_all exact id rfl | with_unfolding_all exact Nat.le_of_ble_eq_true rfl | (simp only [Jd, Je, Jr, Js, Jt, Nat.reduceAdd, allOne, oneCell, Bool.and_self, Jc]; first | done | omega)) only [↓Qa, ↓Qb, Qd, Qe, Qf, Qg, Qh, Qi, Qj, Qk, Ql, Qm, Qn, Qo, Qp, Qq, Qr, Qs, Qt, Qu, Qv, Qw, Qx, Qy, ptrTo, Qz, QA, QB, QC, QD, QE, QF, QG, QH, QI, QJ, QK, QL, QM, QN, QO, QP, QQ, QR, QS, QT, QU, QV, QW, QX, QY, QZ, Ja, Jb, Jc, Jd, Je, Jf, Jg, Jh, Ji, Jj, Jk, Jl, Jm, Jn, Jo, Jp, Jq, Jr, Js, Jt, Nat.reduceAdd]
      repeat (rw [join_e]; try simp (maxSteps := 4000000) (disch := first | omega | with_unfolding_all exact id rfl | with_unfolding_all exact Nat.le_of_ble_eq_true rfl | (simp only [Jd, Je, Jr, Js, Jt, Nat.reduceAdd, allOne, oneCell, Bool.and_self, Jc]; first | done | omega)) only [↓Qa, ↓Qb, Qd, Qe, Qf, Qg, Qh, Qi, Qj, Qk, Ql, Qm, Qn, Qo, Qp, Qq, Qr, Qs, Qt, Qu, Qv, Qw, Qx, Qy, ptrTo, Qz, QA, QB, QC, QD, QE, QF, QG, QH, QI, QJ, QK, QL, QM, QN, QO, QP, QQ, QR, QS, QT, QU, QV, QW, QX, QY, QZ, Ja, Jb, Jc, Jd, Je, Jf, Jg, Jh, Ji, Jj, Jk, Jl, Jm, Jn, Jo, Jp, Jq, Jr, Js, Jt, Nat.reduceAdd])
      exact hk _ G12
end
end Go.Vit
