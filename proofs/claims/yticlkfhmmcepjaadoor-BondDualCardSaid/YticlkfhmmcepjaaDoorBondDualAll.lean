/- The law BondDual: its walk. -/
import Derived.Test.YticlkfhmmcepjaaDoorBondMadeAll
import Derived.Test.YticlkfhmmcepjaaDoorBondMoreAll
import Derived.Test.YticlkfhmmcepjaaDoorW13B
import Derived.Test.YticlkfhmmcepjaaDoorP5
set_option linter.unusedSimpArgs false
set_option linter.unusedVariables false
set_option maxRecDepth 20000
namespace Go.Vit
open Go Go.Proofs
attribute [local irreducible] runT loopS
theorem smallX_hit {a : Nat} {l : List Nat} (h1 : 1 ≤ a) (h6 : a ≤ 6) (hl : l.length ≤ 64) (hg : ∀ g ∈ l, g < 2 ^ a) : smallX (a : Int) (ci l) = hitl l := by
  unfold smallX; rw [if_pos (chk_ci h1 h6 hl hg), nn_ci]
theorem leastX_min {a : Nat} {l : List Nat} (h1 : 1 ≤ a) (h6 : a ≤ 6) (hl : l.length ≤ 64) (hg : ∀ g ∈ l, g < 2 ^ a) : leastX (a : Int) (ci l) = minl l := by
  unfold leastX; rw [if_pos (chk_ci h1 h6 hl hg), nn_ci]
section
variable {lf n L : Nat} {m : Mem} {k : Value → Mem → Option Unit}
theorem dualF {gs : List Nat} {g : Nat} {m0 : Mem} {b : Nat} (hs : ∀ x ∈ gs, x < 64) (hg : g < 64) (hb : At m0 b [.int .i64 (g : Int)]) : FnN (runT (tab lf) (n + 2)) (.func (.func 42) #[] ⟨[.pointer (some ⟨b, 0, none⟩)]⟩) L m0 gs fun o => !decide (o = g) && sub o g := by
  intro m2 x k2 e2 hx hk2
  have hb2 : m2.rd b = _ := hb.mono e2
  rw [oCallV_e, r42]
  dsimp only [S42, iofNat, inegSucc]
  try simp (disch := first | omega | with_unfolding_all exact id rfl | with_unfolding_all exact Nat.le_of_ble_eq_true rfl | (simp only [Jd, Je, Jr, Js, Jt, Nat.reduceAdd, allOne, oneCell, Bool.and_self, Jc]; first | done | omega)) only [hb2, ↓Qa, ↓Qb, ↓Qc, Qd, Qe, Qf, Qg, Qh, Qi, Qj, Qk, Ql, Qm, Qn, Qo, Qp, Qq, Qr, Qs, Qt, Qu, Qv, Qw, Qx, Qy, ptrTo, Qz, QA, QB, QC, QD, QE, QF, QG, QH, QI, QJ, QK, QL, QM, QN, QO, QP, QQ, QR, QS, QT, QU, QV, QW, QX, QY, QZ, Ja, Jb, Jc, Jd, Je, Jf, Jg, Jh, Ji, Jj, Jk, Jl, Jm, Jn, Jo, Jp, Jq, Jr, Js, Jt, Nat.reduceAdd]
  have h0 : decide ((x : Int) = (g : Int)) = decide (x = g) := decide_eq_decide.2 (by omega)
  rw [h0]
  by_cases h : x = g
  · have := hk2 m2 (Gt.refl _)
    try simp (disch := first | omega | with_unfolding_all exact id rfl | with_unfolding_all exact Nat.le_of_ble_eq_true rfl | (simp only [Jd, Je, Jr, Js, Jt, Nat.reduceAdd, allOne, oneCell, Bool.and_self, Jc]; first | done | omega)) only [h, ↓Qa, ↓Qb, ↓Qc, Qd, Qe, Qf, Qg, Qh, Qi, Qj, Qk, Ql, Qm, Qn, Qo, Qp, Qq, Qr, Qs, Qt, Qu, Qv, Qw, Qx, Qy, ptrTo, Qz, QA, QB, QC, QD, QE, QF, QG, QH, QI, QJ, QK, QL, QM, QN, QO, QP, QQ, QR, QS, QT, QU, QV, QW, QX, QY, QZ, Ja, Jb, Jc, Jd, Je, Jf, Jg, Jh, Ji, Jj, Jk, Jl, Jm, Jn, Jo, Jp, Jq, Jr, Js, Jt, Nat.reduceAdd]
    simp only [h, decide_true, Bool.not_true, Bool.false_and] at this
    exact this
  · have h3 := hs x hx
    have f3 : decide (((x &&& g : Nat) : Int) = (x : Int)) = sub x g := by unfold sub; exact decide_eq_decide.2 (by omega)
    try simp (disch := first | omega | with_unfolding_all exact id rfl | with_unfolding_all exact Nat.le_of_ble_eq_true rfl | (simp only [Jd, Je, Jr, Js, Jt, Nat.reduceAdd, allOne, oneCell, Bool.and_self, Jc]; first | done | omega)) only [h, hb2, oInt_and (a := x) (b := g) (by omega) (by omega), f3, ↓Qa, ↓Qb, ↓Qc, Qd, Qe, Qf, Qg, Qh, Qi, Qj, Qk, Ql, Qm, Qn, Qo, Qp, Qq, Qr, Qs, Qt, Qu, Qv, Qw, Qx, Qy, ptrTo, Qz, QA, QB, QC, QD, QE, QF, QG, QH, QI, QJ, QK, QL, QM, QN, QO, QP, QQ, QR, QS, QT, QU, QV, QW, QX, QY, QZ, Ja, Jb, Jc, Jd, Je, Jf, Jg, Jh, Ji, Jj, Jk, Jl, Jm, Jn, Jo, Jp, Jq, Jr, Js, Jt, Nat.reduceAdd]
    have := hk2 m2 (Gt.refl _)
    simp only [h, decide_false, Bool.not_false, Bool.true_and] at this
    exact this
set_option maxHeartbeats 4000000 in
theorem dual_sp {a0 a1 : Nat} {gl : List Nat} (hlf : 1000000 ≤ lf) (hT : TabOk mTab m) (hL : L ≤ m.next) (h0 : a0 < 256) (h1 : a1 < 256) (hlen : gl.length = 8) (hg : ∀ g ∈ gl, g < 256)
    (hk : ∀ m', Gt m m' → k (.bool true) m' = some ()) : runT (tab lf) (n + 9) 8 [sealV a0 a1 gl] L m k = some () := by
  rw [r8]
  dsimp only [S8, iofNat, inegSucc]
  have hcl : (Value.int .u8 (a0 : Int) :: .int .u8 (a1 : Int) :: gl.map fun (g : Nat) => .int .u8 (g : Int)).length = 10 := by simp [hlen]
  have hsv : sealV a0 a1 gl = .agg ⟨.int .u8 (a0 : Int) :: .int .u8 (a1 : Int) :: gl.map fun (g : Nat) => .int .u8 (g : Int)⟩ := rfl
  have g1 := Mem.gt_push m ⟨1, .int .u8 (a0 : Int) :: .int .u8 (a1 : Int) :: gl.map (fun (g : Nat) => .int .u8 (g : Int)), none⟩
  simp only [↓uc_e, ↓un0_e, hsv, abox_e, cells_agg, oRes_e, ptrTo, ldN_u, Mem.rd_push, rdn_all hcl, oOpt_e]
  rw [← hsv]
  generalize m.push ⟨1, .int .u8 (a0 : Int) :: .int .u8 (a1 : Int) :: gl.map (fun (g : Nat) => .int .u8 (g : Int)), none⟩ = m1 at g1 ⊢
  have g1n := g1.next
  refine made_sp (most := 6) hlf (by omega) h0 h1 hlen hg (.inr rfl) fun u m2 e2 hu => ?_
  have hnlt : ∀ g ∈ madeL a0 a1 gl 6, g < 2 ^ (1 + a0 % 6) := fun g h => madeL_lt h
  have hll := madeL_len a0 a1 6 gl
  have hN1 : 1 ≤ 1 + a0 % 6 := by omega
  have hN6 : 1 + a0 % 6 ≤ 6 := by have := Nat.mod_lt a0 (show 0 < 6 by omega); omega
  generalize madeL a0 a1 gl 6 = l at hu hnlt hll ⊢
  generalize 1 + a0 % 6 = N at hN1 hN6 hnlt ⊢
  have hp := pow_le64 hN6
  have hl64 : l.length ≤ 64 := by omega
  have hlt64 : ∀ x ∈ l, x < 64 := fun x hx => by have := hnlt x hx; omega
  have hv := hu.inn
  clear hu
  obtain ⟨pu, cu, rfl⟩ := hv.ex
  have hck := chk_ci hN1 hN6 hl64 hnlt
  have len2 : (hitl l).length ≤ 64 := minl_len _
  have hlt1 : ∀ g ∈ hitl l, g < 2 ^ N := fun g hg => hitl_lt hN6 hnlt hg
  have hck1 := chk_ci hN1 hN6 len2 hlt1
  have hSm := smallX_hit hN1 hN6 hl64 hnlt
  have hLe := leastX_min hN1 hN6 hl64 hnlt
  have hSm1 := smallX_hit hN1 hN6 len2 hlt1
  have hLe1 := leastX_min hN1 hN6 len2 hlt1
  rw [hitl_hitl hlt64] at hSm1
  rw [minl_hitl] at hLe1
  have len3 : (minl l).length ≤ 64 := minl_len _
  have G2 := g1.trans e2
  have n2 := G2.next
  try simp (maxSteps := 4000000) (disch := first | omega | with_unfolding_all exact id rfl | with_unfolding_all exact Nat.le_of_ble_eq_true rfl | (simp only [Jd, Je, Jr, Js, Jt, Nat.reduceAdd, allOne, oneCell, Bool.and_self, Jc]; first | done | omega)) only [↓Qa, ↓Qb, Qd, Qe, Qf, Qg, Qh, Qi, Qj, Qk, Ql, Qm, Qn, Qo, Qp, Qq, Qr, Qs, Qt, Qu, Qv, Qw, Qx, Qy, ptrTo, Qz, QA, QB, QC, QD, QE, QF, QG, QH, QI, QJ, QK, QL, QM, QN, QO, QP, QQ, QR, QS, QT, QU, QV, QW, QX, QY, QZ, Ja, Jb, Jc, Jd, Je, Jf, Jg, Jh, Ji, Jj, Jk, Jl, Jm, Jn, Jo, Jp, Jq, Jr, Js, Jt, Nat.reduceAdd]
  refine rule_sp (l := ci l) (by omega) hv fun m3 e3 => ?_
  have E3 := e3
  have n3 := E3.next
  try simp (maxSteps := 4000000) (disch := first | omega | with_unfolding_all exact id rfl | with_unfolding_all exact Nat.le_of_ble_eq_true rfl | (simp only [Jd, Je, Jr, Js, Jt, Nat.reduceAdd, allOne, oneCell, Bool.and_self, Jc]; first | done | omega)) only [↓Qa, ↓Qb, Qd, Qe, Qf, Qg, Qh, Qi, Qj, Qk, Ql, Qm, Qn, Qo, Qp, Qq, Qr, Qs, Qt, Qu, Qv, Qw, Qx, Qy, ptrTo, Qz, QA, QB, QC, QD, QE, QF, QG, QH, QI, QJ, QK, QL, QM, QN, QO, QP, QQ, QR, QS, QT, QU, QV, QW, QX, QY, QZ, Ja, Jb, Jc, Jd, Je, Jf, Jg, Jh, Ji, Jj, Jk, Jl, Jm, Jn, Jo, Jp, Jq, Jr, Js, Jt, Nat.reduceAdd]
  rw [boxed_fold]
  have e4 := boxed_gt m3 (N : Int) (.slice pu l.length cu)
  have hr := boxed_at m3 (N : Int) (.slice pu l.length cu)
  have hrl := hr.lt
  generalize boxed m3 (N : Int) (.slice pu l.length cu) = m4 at e4 hr hrl ⊢
  have E4 := E3.trans e4
  have n4 := E4.next
  try simp (maxSteps := 4000000) (disch := first | omega | with_unfolding_all exact id rfl | with_unfolding_all exact Nat.le_of_ble_eq_true rfl | (simp only [Jd, Je, Jr, Js, Jt, Nat.reduceAdd, allOne, oneCell, Bool.and_self, Jc]; first | done | omega)) only [hr.rd, ↓Qa, ↓Qb, Qd, Qe, Qf, Qg, Qh, Qi, Qj, Qk, Ql, Qm, Qn, Qo, Qp, Qq, Qr, Qs, Qt, Qu, Qv, Qw, Qx, Qy, ptrTo, Qz, QA, QB, QC, QD, QE, QF, QG, QH, QI, QJ, QK, QL, QM, QN, QO, QP, QQ, QR, QS, QT, QU, QV, QW, QX, QY, QZ, Ja, Jb, Jc, Jd, Je, Jf, Jg, Jh, Ji, Jj, Jk, Jl, Jm, Jn, Jo, Jp, Jq, Jr, Js, Jt, Nat.reduceAdd]
  refine make1_sp (l := ci l) hlf (by omega) (hv.mono E4) fun u5 m5 e5 hu5 => ?_
  have E5 := E4.trans e5
  have n5 := E5.next
  have e5n := e5.next
  rw [hck, if_pos rfl]
  rw [hSm] at hu5
  obtain ⟨q5, d5, rfl⟩ := hu5.ex
  have hr5 := hr.mono e5
  try simp (maxSteps := 4000000) (disch := first | omega | with_unfolding_all exact id rfl | with_unfolding_all exact Nat.le_of_ble_eq_true rfl | (simp only [Jd, Je, Jr, Js, Jt, Nat.reduceAdd, allOne, oneCell, Bool.and_self, Jc]; first | done | omega)) only [Vit.hg, hr5.rd, ↓Qa, ↓Qb, Qd, Qe, Qf, Qg, Qh, Qi, Qj, Qk, Ql, Qm, Qn, Qo, Qp, Qq, Qr, Qs, Qt, Qu, Qv, Qw, Qx, Qy, ptrTo, Qz, QA, QB, QC, QD, QE, QF, QG, QH, QI, QJ, QK, QL, QM, QN, QO, QP, QQ, QR, QS, QT, QU, QV, QW, QX, QY, QZ, Ja, Jb, Jc, Jd, Je, Jf, Jg, Jh, Ji, Jj, Jk, Jl, Jm, Jn, Jo, Jp, Jq, Jr, Js, Jt, Nat.reduceAdd]
  rw [boxed_fold]
  have e6 := boxed_gt m5 (N : Int) (.slice q5 (hitl l).length d5)
  have hq := boxed_at m5 (N : Int) (.slice q5 (hitl l).length d5)
  have hql := hq.lt
  generalize boxed m5 (N : Int) (.slice q5 (hitl l).length d5) = m6 at e6 hq hql ⊢
  have E6 := E5.trans e6
  have n6 := E6.next
  have hr6 := hr5.mono e6
  try simp (maxSteps := 4000000) (disch := first | omega | with_unfolding_all exact id rfl | with_unfolding_all exact Nat.le_of_ble_eq_true rfl | (simp only [Jd, Je, Jr, Js, Jt, Nat.reduceAdd, allOne, oneCell, Bool.and_self, Jc]; first | done | omega)) only [hr6.rd, ↓Qa, ↓Qb, Qd, Qe, Qf, Qg, Qh, Qi, Qj, Qk, Ql, Qm, Qn, Qo, Qp, Qq, Qr, Qs, Qt, Qu, Qv, Qw, Qx, Qy, ptrTo, Qz, QA, QB, QC, QD, QE, QF, QG, QH, QI, QJ, QK, QL, QM, QN, QO, QP, QQ, QR, QS, QT, QU, QV, QW, QX, QY, QZ, Ja, Jb, Jc, Jd, Je, Jf, Jg, Jh, Ji, Jj, Jk, Jl, Jm, Jn, Jo, Jp, Jq, Jr, Js, Jt, Nat.reduceAdd]
  refine least1_sp (l := ci l) hlf (by omega) (hv.mono E6) fun u7 m7 e7 hu7 => ?_
  have E7 := E6.trans e7
  have n7 := E7.next
  have e7n := e7.next
  rw [hck]
  rw [hLe] at hu7
  have hq7 := hq.mono e7
  have hl2' : decide (((hitl l).length : Int) > 64) = false := decide_eq_false (by omega)
  try simp (maxSteps := 4000000) (disch := first | omega | with_unfolding_all exact id rfl | with_unfolding_all exact Nat.le_of_ble_eq_true rfl | (simp only [Jd, Je, Jr, Js, Jt, Nat.reduceAdd, allOne, oneCell, Bool.and_self, Jc]; first | done | omega)) only [↓Qa, ↓Qb, Qd, Qe, Qf, Qg, Qh, Qi, Qj, Qk, Ql, Qm, Qn, Qo, Qp, Qq, Qr, Qs, Qt, Qu, Qv, Qw, Qx, Qy, ptrTo, Qz, QA, QB, QC, QD, QE, QF, QG, QH, QI, QJ, QK, QL, QM, QN, QO, QP, QQ, QR, QS, QT, QU, QV, QW, QX, QY, QZ, Ja, Jb, Jc, Jd, Je, Jf, Jg, Jh, Ji, Jj, Jk, Jl, Jm, Jn, Jo, Jp, Jq, Jr, Js, Jt, Nat.reduceAdd]
  repeat (rw [join_e]; try simp (maxSteps := 4000000) (disch := first | omega | with_unfolding_all exact id rfl | with_unfolding_all exact Nat.le_of_ble_eq_true rfl | (simp only [Jd, Je, Jr, Js, Jt, Nat.reduceAdd, allOne, oneCell, Bool.and_self, Jc]; first | done | omega)) only [hq7.rd, hl2', ln_e, ↓Qa, ↓Qb, Qd, Qe, Qf, Qg, Qh, Qi, Qj, Qk, Ql, Qm, Qn, Qo, Qp, Qq, Qr, Qs, Qt, Qu, Qv, Qw, Qx, Qy, ptrTo, Qz, QA, QB, QC, QD, QE, QF, QG, QH, QI, QJ, QK, QL, QM, QN, QO, QP, QQ, QR, QS, QT, QU, QV, QW, QX, QY, QZ, Ja, Jb, Jc, Jd, Je, Jf, Jg, Jh, Ji, Jj, Jk, Jl, Jm, Jn, Jo, Jp, Jq, Jr, Js, Jt, Nat.reduceAdd])
  refine small1_sp (l := ci (hitl l)) hlf (by omega) (hu5.mono (e6.trans e7)) fun u8 m8 e8 hu8 => ?_
  have E8 := E7.trans e8
  have n8 := E8.next
  have e8n := e8.next
  rw [hck1]
  rw [hSm1] at hu8
  have hq8 := hq7.mono e8
  try simp (maxSteps := 4000000) (disch := first | omega | with_unfolding_all exact id rfl | with_unfolding_all exact Nat.le_of_ble_eq_true rfl | (simp only [Jd, Je, Jr, Js, Jt, Nat.reduceAdd, allOne, oneCell, Bool.and_self, Jc]; first | done | omega)) only [hq8.rd, ↓Qa, ↓Qb, Qd, Qe, Qf, Qg, Qh, Qi, Qj, Qk, Ql, Qm, Qn, Qo, Qp, Qq, Qr, Qs, Qt, Qu, Qv, Qw, Qx, Qy, ptrTo, Qz, QA, QB, QC, QD, QE, QF, QG, QH, QI, QJ, QK, QL, QM, QN, QO, QP, QQ, QR, QS, QT, QU, QV, QW, QX, QY, QZ, Ja, Jb, Jc, Jd, Je, Jf, Jg, Jh, Ji, Jj, Jk, Jl, Jm, Jn, Jo, Jp, Jq, Jr, Js, Jt, Nat.reduceAdd]
  -- the least groups of the rule that the locks are
  have hpa := hu5.mono ((e6.trans e7).trans e8)
  refine rule_sp (l := ci (hitl l)) (by omega) hpa fun m9 e9 => ?_
  have E9 := E8.trans e9
  have n9 := E9.next
  have e9n := e9.next
  have hq9 := hq8.mono e9
  try simp (maxSteps := 4000000) (disch := first | omega | with_unfolding_all exact id rfl | with_unfolding_all exact Nat.le_of_ble_eq_true rfl | (simp only [Jd, Je, Jr, Js, Jt, Nat.reduceAdd, allOne, oneCell, Bool.and_self, Jc]; first | done | omega)) only [↓Qa, ↓Qb, Qd, Qe, Qf, Qg, Qh, Qi, Qj, Qk, Ql, Qm, Qn, Qo, Qp, Qq, Qr, Qs, Qt, Qu, Qv, Qw, Qx, Qy, ptrTo, Qz, QA, QB, QC, QD, QE, QF, QG, QH, QI, QJ, QK, QL, QM, QN, QO, QP, QQ, QR, QS, QT, QU, QV, QW, QX, QY, QZ, Ja, Jb, Jc, Jd, Je, Jf, Jg, Jh, Ji, Jj, Jk, Jl, Jm, Jn, Jo, Jp, Jq, Jr, Js, Jt, Nat.reduceAdd]
  refine least1_sp (l := ci (hitl l)) hlf (by omega) (hpa.mono e9) fun u10 m10 e10 hu10 => ?_
  have E10 := E9.trans e10
  have n10 := E10.next
  have e10n := e10.next
  rw [hck1]
  rw [hLe1] at hu10
  have hq10 := hq9.mono e10
  try simp (maxSteps := 4000000) (disch := first | omega | with_unfolding_all exact id rfl | with_unfolding_all exact Nat.le_of_ble_eq_true rfl | (simp only [Jd, Je, Jr, Js, Jt, Nat.reduceAdd, allOne, oneCell, Bool.and_self, Jc]; first | done | omega)) only [hq10.rd, ↓Qa, ↓Qb, Qd, Qe, Qf, Qg, Qh, Qi, Qj, Qk, Ql, Qm, Qn, Qo, Qp, Qq, Qr, Qs, Qt, Qu, Qv, Qw, Qx, Qy, ptrTo, Qz, QA, QB, QC, QD, QE, QF, QG, QH, QI, QJ, QK, QL, QM, QN, QO, QP, QQ, QR, QS, QT, QU, QV, QW, QX, QY, QZ, Ja, Jb, Jc, Jd, Je, Jf, Jg, Jh, Ji, Jj, Jk, Jl, Jm, Jn, Jo, Jp, Jq, Jr, Js, Jt, Nat.reduceAdd]
  refine rule_sp (l := ci (hitl l)) (by omega) (hpa.mono (e9.trans e10)) fun m11 e11 => ?_
  have E11 := E10.trans e11
  have n11 := E11.next
  have e11n := e11.next
  have hq11 := hq10.mono e11
  try simp (maxSteps := 4000000) (disch := first | omega | with_unfolding_all exact id rfl | with_unfolding_all exact Nat.le_of_ble_eq_true rfl | (simp only [Jd, Je, Jr, Js, Jt, Nat.reduceAdd, allOne, oneCell, Bool.and_self, Jc]; first | done | omega)) only [↓Qa, ↓Qb, Qd, Qe, Qf, Qg, Qh, Qi, Qj, Qk, Ql, Qm, Qn, Qo, Qp, Qq, Qr, Qs, Qt, Qu, Qv, Qw, Qx, Qy, ptrTo, Qz, QA, QB, QC, QD, QE, QF, QG, QH, QI, QJ, QK, QL, QM, QN, QO, QP, QQ, QR, QS, QT, QU, QV, QW, QX, QY, QZ, Ja, Jb, Jc, Jd, Je, Jf, Jg, Jh, Ji, Jj, Jk, Jl, Jm, Jn, Jo, Jp, Jq, Jr, Js, Jt, Nat.reduceAdd]
  refine make1_sp (l := ci (hitl l)) hlf (by omega) (hpa.mono ((e9.trans e10).trans e11)) fun u12 m12 e12 hu12 => ?_
  have E12 := E11.trans e12
  have n12 := E12.next
  have e12n := e12.next
  have hq12 := hq11.mono e12
  rw [hck1, if_pos rfl]
  rw [hSm1] at hu12
  obtain ⟨q12, d12, rfl⟩ := hu12.ex
  try simp (maxSteps := 4000000) (disch := first | omega | with_unfolding_all exact id rfl | with_unfolding_all exact Nat.le_of_ble_eq_true rfl | (simp only [Jd, Je, Jr, Js, Jt, Nat.reduceAdd, allOne, oneCell, Bool.and_self, Jc]; first | done | omega)) only [Vit.hg, hq12.rd, ↓Qa, ↓Qb, Qd, Qe, Qf, Qg, Qh, Qi, Qj, Qk, Ql, Qm, Qn, Qo, Qp, Qq, Qr, Qs, Qt, Qu, Qv, Qw, Qx, Qy, ptrTo, Qz, QA, QB, QC, QD, QE, QF, QG, QH, QI, QJ, QK, QL, QM, QN, QO, QP, QQ, QR, QS, QT, QU, QV, QW, QX, QY, QZ, Ja, Jb, Jc, Jd, Je, Jf, Jg, Jh, Ji, Jj, Jk, Jl, Jm, Jn, Jo, Jp, Jq, Jr, Js, Jt, Nat.reduceAdd]
  rw [boxed_fold]
  have e13 := boxed_gt m12 (N : Int) (.slice q12 (minl l).length d12)
  have hb := boxed_at m12 (N : Int) (.slice q12 (minl l).length d12)
  have hbl := hb.lt
  generalize boxed m12 (N : Int) (.slice q12 (minl l).length d12) = m13 at e13 hb hbl ⊢
  have E13 := E12.trans e13
  have n13 := E13.next
  have e13n := e13.next
  have hq13 := hq12.mono e13
  have F13 : Gt m8 m13 := (((e9.trans e10).trans e11).trans e12).trans e13
  have hu7' : IN m13 u7 (minl l) := hu7.mono (e8.trans F13)
  have hu8' : IN m13 u8 (minl l) := hu8.mono F13
  have hu10' : IN m13 u10 (hitl l) := hu10.mono ((e11.trans e12).trans e13)
  have hu12' : IN m13 _ (minl l) := hu12.mono e13
  have hu5' : IN m13 _ (hitl l) := hpa.mono F13
  repeat (rw [join_e]; try simp (maxSteps := 4000000) (disch := first | omega | with_unfolding_all exact id rfl | with_unfolding_all exact Nat.le_of_ble_eq_true rfl | (simp only [Jd, Je, Jr, Js, Jt, Nat.reduceAdd, allOne, oneCell, Bool.and_self, Jc]; first | done | omega)) only [hq13.rd, hb.rd, ↓Qa, ↓Qb, Qd, Qe, Qf, Qg, Qh, Qi, Qj, Qk, Ql, Qm, Qn, Qo, Qp, Qq, Qr, Qs, Qt, Qu, Qv, Qw, Qx, Qy, ptrTo, Qz, QA, QB, QC, QD, QE, QF, QG, QH, QI, QJ, QK, QL, QM, QN, QO, QP, QQ, QR, QS, QT, QU, QV, QW, QX, QY, QZ, Ja, Jb, Jc, Jd, Je, Jf, Jg, Jh, Ji, Jj, Jk, Jl, Jm, Jn, Jo, Jp, Jq, Jr, Js, Jt, Nat.reduceAdd])
  refine same_sp hlf hu8' hu7' (by rw [ci_length]; omega) ?_
  try simp (maxSteps := 4000000) (disch := first | omega | with_unfolding_all exact id rfl | with_unfolding_all exact Nat.le_of_ble_eq_true rfl | (simp only [Jd, Je, Jr, Js, Jt, Nat.reduceAdd, allOne, oneCell, Bool.and_self, Jc]; first | done | omega)) only [↓Qa, ↓Qb, Qd, Qe, Qf, Qg, Qh, Qi, Qj, Qk, Ql, Qm, Qn, Qo, Qp, Qq, Qr, Qs, Qt, Qu, Qv, Qw, Qx, Qy, ptrTo, Qz, QA, QB, QC, QD, QE, QF, QG, QH, QI, QJ, QK, QL, QM, QN, QO, QP, QQ, QR, QS, QT, QU, QV, QW, QX, QY, QZ, Ja, Jb, Jc, Jd, Je, Jf, Jg, Jh, Ji, Jj, Jk, Jl, Jm, Jn, Jo, Jp, Jq, Jr, Js, Jt, Nat.reduceAdd]
  repeat (rw [join_e]; try simp (maxSteps := 4000000) (disch := first | omega | with_unfolding_all exact id rfl | with_unfolding_all exact Nat.le_of_ble_eq_true rfl | (simp only [Jd, Je, Jr, Js, Jt, Nat.reduceAdd, allOne, oneCell, Bool.and_self, Jc]; first | done | omega)) only [hq13.rd, hb.rd, ↓Qa, ↓Qb, Qd, Qe, Qf, Qg, Qh, Qi, Qj, Qk, Ql, Qm, Qn, Qo, Qp, Qq, Qr, Qs, Qt, Qu, Qv, Qw, Qx, Qy, ptrTo, Qz, QA, QB, QC, QD, QE, QF, QG, QH, QI, QJ, QK, QL, QM, QN, QO, QP, QQ, QR, QS, QT, QU, QV, QW, QX, QY, QZ, Ja, Jb, Jc, Jd, Je, Jf, Jg, Jh, Ji, Jj, Jk, Jl, Jm, Jn, Jo, Jp, Jq, Jr, Js, Jt, Nat.reduceAdd])
  refine same_sp hlf hu10' hu5' (by rw [ci_length]; omega) ?_
  try simp (maxSteps := 4000000) (disch := first | omega | with_unfolding_all exact id rfl | with_unfolding_all exact Nat.le_of_ble_eq_true rfl | (simp only [Jd, Je, Jr, Js, Jt, Nat.reduceAdd, allOne, oneCell, Bool.and_self, Jc]; first | done | omega)) only [↓Qa, ↓Qb, Qd, Qe, Qf, Qg, Qh, Qi, Qj, Qk, Ql, Qm, Qn, Qo, Qp, Qq, Qr, Qs, Qt, Qu, Qv, Qw, Qx, Qy, ptrTo, Qz, QA, QB, QC, QD, QE, QF, QG, QH, QI, QJ, QK, QL, QM, QN, QO, QP, QQ, QR, QS, QT, QU, QV, QW, QX, QY, QZ, Ja, Jb, Jc, Jd, Je, Jf, Jg, Jh, Ji, Jj, Jk, Jl, Jm, Jn, Jo, Jp, Jq, Jr, Js, Jt, Nat.reduceAdd]
  repeat (rw [join_e]; try simp (maxSteps := 4000000) (disch := first | omega | with_unfolding_all exact id rfl | with_unfolding_all exact Nat.le_of_ble_eq_true rfl | (simp only [Jd, Je, Jr, Js, Jt, Nat.reduceAdd, allOne, oneCell, Bool.and_self, Jc]; first | done | omega)) only [hq13.rd, hb.rd, ↓Qa, ↓Qb, Qd, Qe, Qf, Qg, Qh, Qi, Qj, Qk, Ql, Qm, Qn, Qo, Qp, Qq, Qr, Qs, Qt, Qu, Qv, Qw, Qx, Qy, ptrTo, Qz, QA, QB, QC, QD, QE, QF, QG, QH, QI, QJ, QK, QL, QM, QN, QO, QP, QQ, QR, QS, QT, QU, QV, QW, QX, QY, QZ, Ja, Jb, Jc, Jd, Je, Jf, Jg, Jh, Ji, Jj, Jk, Jl, Jm, Jn, Jo, Jp, Jq, Jr, Js, Jt, Nat.reduceAdd])
  refine same_sp hlf hu12' hu7' (by rw [ci_length]; omega) ?_
  try simp (maxSteps := 4000000) (disch := first | omega | with_unfolding_all exact id rfl | with_unfolding_all exact Nat.le_of_ble_eq_true rfl | (simp only [Jd, Je, Jr, Js, Jt, Nat.reduceAdd, allOne, oneCell, Bool.and_self, Jc]; first | done | omega)) only [↓Qa, ↓Qb, Qd, Qe, Qf, Qg, Qh, Qi, Qj, Qk, Ql, Qm, Qn, Qo, Qp, Qq, Qr, Qs, Qt, Qu, Qv, Qw, Qx, Qy, ptrTo, Qz, QA, QB, QC, QD, QE, QF, QG, QH, QI, QJ, QK, QL, QM, QN, QO, QP, QQ, QR, QS, QT, QU, QV, QW, QX, QY, QZ, Ja, Jb, Jc, Jd, Je, Jf, Jg, Jh, Ji, Jj, Jk, Jl, Jm, Jn, Jo, Jp, Jq, Jr, Js, Jt, Nat.reduceAdd]
  repeat (rw [join_e]; try simp (maxSteps := 4000000) (disch := first | omega | with_unfolding_all exact id rfl | with_unfolding_all exact Nat.le_of_ble_eq_true rfl | (simp only [Jd, Je, Jr, Js, Jt, Nat.reduceAdd, allOne, oneCell, Bool.and_self, Jc]; first | done | omega)) only [hq13.rd, hb.rd, ↓Qa, ↓Qb, Qd, Qe, Qf, Qg, Qh, Qi, Qj, Qk, Ql, Qm, Qn, Qo, Qp, Qq, Qr, Qs, Qt, Qu, Qv, Qw, Qx, Qy, ptrTo, Qz, QA, QB, QC, QD, QE, QF, QG, QH, QI, QJ, QK, QL, QM, QN, QO, QP, QQ, QR, QS, QT, QU, QV, QW, QX, QY, QZ, Ja, Jb, Jc, Jd, Je, Jf, Jg, Jh, Ji, Jj, Jk, Jl, Jm, Jn, Jo, Jp, Jq, Jr, Js, Jt, Nat.reduceAdd])
  have hv13 := hv.mono E13
  refine plan_sp (l := ci l) (by omega) hv13 fun m14 e14 => ?_
  have E14 := E13.trans e14
  have n14 := E14.next
  try simp (maxSteps := 4000000) (disch := first | omega | with_unfolding_all exact id rfl | with_unfolding_all exact Nat.le_of_ble_eq_true rfl | (simp only [Jd, Je, Jr, Js, Jt, Nat.reduceAdd, allOne, oneCell, Bool.and_self, Jc]; first | done | omega)) only [↓Qa, ↓Qb, Qd, Qe, Qf, Qg, Qh, Qi, Qj, Qk, Ql, Qm, Qn, Qo, Qp, Qq, Qr, Qs, Qt, Qu, Qv, Qw, Qx, Qy, ptrTo, Qz, QA, QB, QC, QD, QE, QF, QG, QH, QI, QJ, QK, QL, QM, QN, QO, QP, QQ, QR, QS, QT, QU, QV, QW, QX, QY, QZ, Ja, Jb, Jc, Jd, Je, Jf, Jg, Jh, Ji, Jj, Jk, Jl, Jm, Jn, Jo, Jp, Jq, Jr, Js, Jt, Nat.reduceAdd]
  rw [boxed_fold]
  have e15 := boxed_gt m14 (N : Int) (.slice pu l.length cu)
  have hc := boxed_at m14 (N : Int) (.slice pu l.length cu)
  have hcl2 := hc.lt
  generalize boxed m14 (N : Int) (.slice pu l.length cu) = m15 at e15 hc hcl2 ⊢
  have E15 := E14.trans e15
  have n15 := E15.next
  try simp (maxSteps := 4000000) (disch := first | omega | with_unfolding_all exact id rfl | with_unfolding_all exact Nat.le_of_ble_eq_true rfl | (simp only [Jd, Je, Jr, Js, Jt, Nat.reduceAdd, allOne, oneCell, Bool.and_self, Jc]; first | done | omega)) only [hc.rd, ↓Qa, ↓Qb, Qd, Qe, Qf, Qg, Qh, Qi, Qj, Qk, Ql, Qm, Qn, Qo, Qp, Qq, Qr, Qs, Qt, Qu, Qv, Qw, Qx, Qy, ptrTo, Qz, QA, QB, QC, QD, QE, QF, QG, QH, QI, QJ, QK, QL, QM, QN, QO, QP, QQ, QR, QS, QT, QU, QV, QW, QX, QY, QZ, Ja, Jb, Jc, Jd, Je, Jf, Jg, Jh, Ji, Jj, Jk, Jl, Jm, Jn, Jo, Jp, Jq, Jr, Js, Jt, Nat.reduceAdd]
  refine thin1_sp (l := ci l) hlf (by omega) (hv.mono E15) fun u16 m16 e16 hu16 => ?_
  have E16 := E15.trans e16
  have n16 := E16.next
  have e16n := e16.next
  have hc16 := hc.mono e16
  rw [hck, if_pos rfl]
  rw [hLe] at hu16
  obtain ⟨q16, d16, rfl⟩ := hu16.ex
  try simp (maxSteps := 4000000) (disch := first | omega | with_unfolding_all exact id rfl | with_unfolding_all exact Nat.le_of_ble_eq_true rfl | (simp only [Jd, Je, Jr, Js, Jt, Nat.reduceAdd, allOne, oneCell, Bool.and_self, Jc]; first | done | omega)) only [Vit.hg, hc16.rd, ↓Qa, ↓Qb, Qd, Qe, Qf, Qg, Qh, Qi, Qj, Qk, Ql, Qm, Qn, Qo, Qp, Qq, Qr, Qs, Qt, Qu, Qv, Qw, Qx, Qy, ptrTo, Qz, QA, QB, QC, QD, QE, QF, QG, QH, QI, QJ, QK, QL, QM, QN, QO, QP, QQ, QR, QS, QT, QU, QV, QW, QX, QY, QZ, Ja, Jb, Jc, Jd, Je, Jf, Jg, Jh, Ji, Jj, Jk, Jl, Jm, Jn, Jo, Jp, Jq, Jr, Js, Jt, Nat.reduceAdd]
  rw [boxed_fold]
  have e17 := boxed_gt m16 (N : Int) (.slice q16 (minl l).length d16)
  have ht := boxed_at m16 (N : Int) (.slice q16 (minl l).length d16)
  have htl := ht.lt
  generalize boxed m16 (N : Int) (.slice q16 (minl l).length d16) = m17 at e17 ht htl ⊢
  have E17 := E16.trans e17
  have n17 := E17.next
  have e17n := e17.next
  have hc17 := hc16.mono e17
  try simp (maxSteps := 4000000) (disch := first | omega | with_unfolding_all exact id rfl | with_unfolding_all exact Nat.le_of_ble_eq_true rfl | (simp only [Jd, Je, Jr, Js, Jt, Nat.reduceAdd, allOne, oneCell, Bool.and_self, Jc]; first | done | omega)) only [hc17.rd, ↓Qa, ↓Qb, Qd, Qe, Qf, Qg, Qh, Qi, Qj, Qk, Ql, Qm, Qn, Qo, Qp, Qq, Qr, Qs, Qt, Qu, Qv, Qw, Qx, Qy, ptrTo, Qz, QA, QB, QC, QD, QE, QF, QG, QH, QI, QJ, QK, QL, QM, QN, QO, QP, QQ, QR, QS, QT, QU, QV, QW, QX, QY, QZ, Ja, Jb, Jc, Jd, Je, Jf, Jg, Jh, Ji, Jj, Jk, Jl, Jm, Jn, Jo, Jp, Jq, Jr, Js, Jt, Nat.reduceAdd]
  refine small1_sp (l := ci l) hlf (by omega) (hv.mono E17) fun u18 m18 e18 hu18 => ?_
  have E18 := E17.trans e18
  have n18 := E18.next
  have e18n := e18.next
  rw [hck]
  rw [hSm] at hu18
  obtain ⟨q18, d18, rfl⟩ := hu18.ex
  have ht18 := ht.mono e18
  try simp (maxSteps := 4000000) (disch := first | omega | with_unfolding_all exact id rfl | with_unfolding_all exact Nat.le_of_ble_eq_true rfl | (simp only [Jd, Je, Jr, Js, Jt, Nat.reduceAdd, allOne, oneCell, Bool.and_self, Jc]; first | done | omega)) only [↓Qa, ↓Qb, Qd, Qe, Qf, Qg, Qh, Qi, Qj, Qk, Ql, Qm, Qn, Qo, Qp, Qq, Qr, Qs, Qt, Qu, Qv, Qw, Qx, Qy, ptrTo, Qz, QA, QB, QC, QD, QE, QF, QG, QH, QI, QJ, QK, QL, QM, QN, QO, QP, QQ, QR, QS, QT, QU, QV, QW, QX, QY, QZ, Ja, Jb, Jc, Jd, Je, Jf, Jg, Jh, Ji, Jj, Jk, Jl, Jm, Jn, Jo, Jp, Jq, Jr, Js, Jt, Nat.reduceAdd]
  repeat (rw [join_e]; try simp (maxSteps := 4000000) (disch := first | omega | with_unfolding_all exact id rfl | with_unfolding_all exact Nat.le_of_ble_eq_true rfl | (simp only [Jd, Je, Jr, Js, Jt, Nat.reduceAdd, allOne, oneCell, Bool.and_self, Jc]; first | done | omega)) only [ht18.rd, hl2', ln_e, ↓Qa, ↓Qb, Qd, Qe, Qf, Qg, Qh, Qi, Qj, Qk, Ql, Qm, Qn, Qo, Qp, Qq, Qr, Qs, Qt, Qu, Qv, Qw, Qx, Qy, ptrTo, Qz, QA, QB, QC, QD, QE, QF, QG, QH, QI, QJ, QK, QL, QM, QN, QO, QP, QQ, QR, QS, QT, QU, QV, QW, QX, QY, QZ, Ja, Jb, Jc, Jd, Je, Jf, Jg, Jh, Ji, Jj, Jk, Jl, Jm, Jn, Jo, Jp, Jq, Jr, Js, Jt, Nat.reduceAdd])
  refine rule_sp (l := ci (hitl l)) (by omega) hu18 fun m19 e19 => ?_
  have E19 := E18.trans e19
  have n19 := E19.next
  have e19n := e19.next
  have ht19 := ht18.mono e19
  try simp (maxSteps := 4000000) (disch := first | omega | with_unfolding_all exact id rfl | with_unfolding_all exact Nat.le_of_ble_eq_true rfl | (simp only [Jd, Je, Jr, Js, Jt, Nat.reduceAdd, allOne, oneCell, Bool.and_self, Jc]; first | done | omega)) only [↓Qa, ↓Qb, Qd, Qe, Qf, Qg, Qh, Qi, Qj, Qk, Ql, Qm, Qn, Qo, Qp, Qq, Qr, Qs, Qt, Qu, Qv, Qw, Qx, Qy, ptrTo, Qz, QA, QB, QC, QD, QE, QF, QG, QH, QI, QJ, QK, QL, QM, QN, QO, QP, QQ, QR, QS, QT, QU, QV, QW, QX, QY, QZ, Ja, Jb, Jc, Jd, Je, Jf, Jg, Jh, Ji, Jj, Jk, Jl, Jm, Jn, Jo, Jp, Jq, Jr, Js, Jt, Nat.reduceAdd]
  refine make1_sp (l := ci (hitl l)) hlf (by omega) (hu18.mono e19) fun u20 m20 e20 hu20 => ?_
  have E20 := E19.trans e20
  have n20 := E20.next
  have e20n := e20.next
  have ht20 := ht19.mono e20
  rw [hck1, if_pos rfl]
  rw [hSm1] at hu20
  obtain ⟨q20, d20, rfl⟩ := hu20.ex
  try simp (maxSteps := 4000000) (disch := first | omega | with_unfolding_all exact id rfl | with_unfolding_all exact Nat.le_of_ble_eq_true rfl | (simp only [Jd, Je, Jr, Js, Jt, Nat.reduceAdd, allOne, oneCell, Bool.and_self, Jc]; first | done | omega)) only [Vit.hg, ht20.rd, ↓Qa, ↓Qb, Qd, Qe, Qf, Qg, Qh, Qi, Qj, Qk, Ql, Qm, Qn, Qo, Qp, Qq, Qr, Qs, Qt, Qu, Qv, Qw, Qx, Qy, ptrTo, Qz, QA, QB, QC, QD, QE, QF, QG, QH, QI, QJ, QK, QL, QM, QN, QO, QP, QQ, QR, QS, QT, QU, QV, QW, QX, QY, QZ, Ja, Jb, Jc, Jd, Je, Jf, Jg, Jh, Ji, Jj, Jk, Jl, Jm, Jn, Jo, Jp, Jq, Jr, Js, Jt, Nat.reduceAdd]
  rw [boxed_fold]
  have e21 := boxed_gt m20 (N : Int) (.slice q20 (minl l).length d20)
  have hd := boxed_at m20 (N : Int) (.slice q20 (minl l).length d20)
  have hdl := hd.lt
  generalize boxed m20 (N : Int) (.slice q20 (minl l).length d20) = m21 at e21 hd hdl ⊢
  have E21 := E20.trans e21
  have n21 := E21.next
  have e21n := e21.next
  have ht21 := ht20.mono e21
  have G21 := G2.trans E21
  have hthin : IN m21 _ (minl l) := hu16.mono ((((e17.trans e18).trans e19).trans e20).trans e21)
  repeat (rw [join_e]; try simp (maxSteps := 4000000) (disch := first | omega | with_unfolding_all exact id rfl | with_unfolding_all exact Nat.le_of_ble_eq_true rfl | (simp only [Jd, Je, Jr, Js, Jt, Nat.reduceAdd, allOne, oneCell, Bool.and_self, Jc]; first | done | omega)) only [hd.rd, ht21.rd, ↓Qa, ↓Qb, Qd, Qe, Qf, Qg, Qh, Qi, Qj, Qk, Ql, Qm, Qn, Qo, Qp, Qq, Qr, Qs, Qt, Qu, Qv, Qw, Qx, Qy, ptrTo, Qz, QA, QB, QC, QD, QE, QF, QG, QH, QI, QJ, QK, QL, QM, QN, QO, QP, QQ, QR, QS, QT, QU, QV, QW, QX, QY, QZ, Ja, Jb, Jc, Jd, Je, Jf, Jg, Jh, Ji, Jj, Jk, Jl, Jm, Jn, Jo, Jp, Jq, Jr, Js, Jt, Nat.reduceAdd])
  refine same_sp hlf (hu20.mono e21) hthin (by rw [ci_length]; omega) ?_
  try simp (maxSteps := 4000000) (disch := first | omega | with_unfolding_all exact id rfl | with_unfolding_all exact Nat.le_of_ble_eq_true rfl | (simp only [Jd, Je, Jr, Js, Jt, Nat.reduceAdd, allOne, oneCell, Bool.and_self, Jc]; first | done | omega)) only [↓Qa, ↓Qb, Qd, Qe, Qf, Qg, Qh, Qi, Qj, Qk, Ql, Qm, Qn, Qo, Qp, Qq, Qr, Qs, Qt, Qu, Qv, Qw, Qx, Qy, ptrTo, Qz, QA, QB, QC, QD, QE, QF, QG, QH, QI, QJ, QK, QL, QM, QN, QO, QP, QQ, QR, QS, QT, QU, QV, QW, QX, QY, QZ, Ja, Jb, Jc, Jd, Je, Jf, Jg, Jh, Ji, Jj, Jk, Jl, Jm, Jn, Jo, Jp, Jq, Jr, Js, Jt, Nat.reduceAdd]
  repeat (rw [join_e]; try simp (maxSteps := 4000000) (disch := first | omega | with_unfolding_all exact id rfl | with_unfolding_all exact Nat.le_of_ble_eq_true rfl | (simp only [Jd, Je, Jr, Js, Jt, Nat.reduceAdd, allOne, oneCell, Bool.and_self, Jc]; first | done | omega)) only [ln_e, ↓Qa, ↓Qb, Qd, Qe, Qf, Qg, Qh, Qi, Qj, Qk, Ql, Qm, Qn, Qo, Qp, Qq, Qr, Qs, Qt, Qu, Qv, Qw, Qx, Qy, ptrTo, Qz, QA, QB, QC, QD, QE, QF, QG, QH, QI, QJ, QK, QL, QM, QN, QO, QP, QQ, QR, QS, QT, QU, QV, QW, QX, QY, QZ, Ja, Jb, Jc, Jd, Je, Jf, Jg, Jh, Ji, Jj, Jk, Jl, Jm, Jn, Jo, Jp, Jq, Jr, Js, Jt, Nat.reduceAdd])
  have hv21 := hv.mono E21
  clear hq hq7 hq8 hq9 hq10 hq11 hq12 hq13 hb hc hc16 hc17 hd ht ht18 ht19 ht20 hu7 hu8 hu10 hu12 hu7' hu8' hu10' hu12' hu5' hu18 hu20 hr hr5 hr6
  refine loop_up l.length (fun i vs m' => ∃ u, vs = [u, .int .i64 (i : Int)] ∧ Gt m21 m' ∧ GN m21.next m' u ((l.take i).filter (keepG l))) (by omega) ⟨_, rfl, Gt.refl _, GN.nil _ _⟩ ?_
  rintro i vs m22 hi ⟨w, rfl, e22, hw⟩ self hself
  have hv22 := hv21.mono e22
  have n22 := e22.next
  have hlen2 := filter_take_len l (keepG l) i
  try simp (maxSteps := 4000000) (disch := first | omega | with_unfolding_all exact id rfl | with_unfolding_all exact Nat.le_of_ble_eq_true rfl | (simp only [Jd, Je, Jr, Js, Jt, Nat.reduceAdd, allOne, oneCell, Bool.and_self, Jc]; first | done | omega)) only [↓Qa, ↓Qb, Qd, Qe, Qf, Qg, Qh, Qi, Qj, Qk, Ql, Qm, Qn, Qo, Qp, Qq, Qr, Qs, Qt, Qu, Qv, Qw, Qx, Qy, ptrTo, Qz, QA, QB, QC, QD, QE, QF, QG, QH, QI, QJ, QK, QL, QM, QN, QO, QP, QQ, QR, QS, QT, QU, QV, QW, QX, QY, QZ, Ja, Jb, Jc, Jd, Je, Jf, Jg, Jh, Ji, Jj, Jk, Jl, Jm, Jn, Jo, Jp, Jq, Jr, Js, Jt, Nat.reduceAdd]
  refine oIf_dec (fun h3 => ?_) (fun h3 => ?_)
  · have h4 : i < l.length := by omega
    have h5 := hlt64 _ (List.getElem_mem h4)
    try simp (maxSteps := 4000000) (disch := first | omega | with_unfolding_all exact id rfl | with_unfolding_all exact Nat.le_of_ble_eq_true rfl | (simp only [Jd, Je, Jr, Js, Jt, Nat.reduceAdd, allOne, oneCell, Bool.and_self, Jc]; first | done | omega)) only [hv22.ia h4, hv22.ld h4, ↓Qa, ↓Qb, Qd, Qe, Qf, Qg, Qh, Qi, Qj, Qk, Ql, Qm, Qn, Qo, Qp, Qq, Qr, Qs, Qt, Qu, Qv, Qw, Qx, Qy, ptrTo, Qz, QA, QB, QC, QD, QE, QF, QG, QH, QI, QJ, QK, QL, QM, QN, QO, QP, QQ, QR, QS, QT, QU, QV, QW, QX, QY, QZ, Ja, Jb, Jc, Jd, Je, Jf, Jg, Jh, Ji, Jj, Jk, Jl, Jm, Jn, Jo, Jp, Jq, Jr, Js, Jt, Nat.reduceAdd]
    have e23 : Gt m22 ((m22.push ⟨1, [.int .i64 0], none⟩).put m22.next (some ⟨1, [.int .i64 (l[i] : Int)], none⟩)) := Mem.put_gt (Mem.gt_push _ _) _ (Nat.le_refl _)
    have hz : At ((m22.push ⟨1, [.int .i64 0], none⟩).put m22.next (some ⟨1, [.int .i64 (l[i] : Int)], none⟩)) m22.next [.int .i64 (l[i] : Int)] := Mem.rd_put_eq _ _ (by rw [Mem.push_next]; omega)
    generalize (m22.push ⟨1, [.int .i64 0], none⟩).put m22.next (some ⟨1, [.int .i64 (l[i] : Int)], none⟩) = m23 at e23 hz ⊢
    refine containsFuncN_sp hlf (hv22.mono e23) (by omega) (dualF hlt64 h5 hz) fun m24 e24 => ?_
    have hz4 := hz.mono e24
    have e25 := (e22.trans e23).trans e24
    have hw4 := (hw.mono e23).mono e24
    have n23 := e23.next
    have n24 := e24.next
    try simp (maxSteps := 4000000) (disch := first | omega | with_unfolding_all exact id rfl | with_unfolding_all exact Nat.le_of_ble_eq_true rfl | (simp only [Jd, Je, Jr, Js, Jt, Nat.reduceAdd, allOne, oneCell, Bool.and_self, Jc]; first | done | omega)) only [↓Qa, ↓Qb, Qd, Qe, Qf, Qg, Qh, Qi, Qj, Qk, Ql, Qm, Qn, Qo, Qp, Qq, Qr, Qs, Qt, Qu, Qv, Qw, Qx, Qy, ptrTo, Qz, QA, QB, QC, QD, QE, QF, QG, QH, QI, QJ, QK, QL, QM, QN, QO, QP, QQ, QR, QS, QT, QU, QV, QW, QX, QY, QZ, Ja, Jb, Jc, Jd, Je, Jf, Jg, Jh, Ji, Jj, Jk, Jl, Jm, Jn, Jo, Jp, Jq, Jr, Js, Jt, Nat.reduceAdd]
    refine oIf_bool (fun h6 => ?_) (fun h6 => ?_)
    · try simp (maxSteps := 4000000) (disch := first | omega | with_unfolding_all exact id rfl | with_unfolding_all exact Nat.le_of_ble_eq_true rfl | (simp only [Jd, Je, Jr, Js, Jt, Nat.reduceAdd, allOne, oneCell, Bool.and_self, Jc]; first | done | omega)) only [hz4.rd, ↓Qa, ↓Qb, Qd, Qe, Qf, Qg, Qh, Qi, Qj, Qk, Ql, Qm, Qn, Qo, Qp, Qq, Qr, Qs, Qt, Qu, Qv, Qw, Qx, Qy, ptrTo, Qz, QA, QB, QC, QD, QE, QF, QG, QH, QI, QJ, QK, QL, QM, QN, QO, QP, QQ, QR, QS, QT, QU, QV, QW, QX, QY, QZ, Ja, Jb, Jc, Jd, Je, Jf, Jg, Jh, Ji, Jj, Jk, Jl, Jm, Jn, Jo, Jp, Jq, Jr, Js, Jt, Nat.reduceAdd]
      obtain ⟨u2, m26, h7, h8, h9, h10⟩ := GN.snoc (P := Tryd.prog) (t := 22) (L := L) (m0 := m21) l[i] ael22 (by omega) hw4 (by omega) (by omega) e25 (Nat.le_refl _)
      try simp (maxSteps := 4000000) (disch := first | omega | with_unfolding_all exact id rfl | with_unfolding_all exact Nat.le_of_ble_eq_true rfl | (simp only [Jd, Je, Jr, Js, Jt, Nat.reduceAdd, allOne, oneCell, Bool.and_self, Jc]; first | done | omega)) only [bs22, h7, ↓Qa, ↓Qb, Qd, Qe, Qf, Qg, Qh, Qi, Qj, Qk, Ql, Qm, Qn, Qo, Qp, Qq, Qr, Qs, Qt, Qu, Qv, Qw, Qx, Qy, ptrTo, Qz, QA, QB, QC, QD, QE, QF, QG, QH, QI, QJ, QK, QL, QM, QN, QO, QP, QQ, QR, QS, QT, QU, QV, QW, QX, QY, QZ, Ja, Jb, Jc, Jd, Je, Jf, Jg, Jh, Ji, Jj, Jk, Jl, Jm, Jn, Jo, Jp, Jq, Jr, Js, Jt, Nat.reduceAdd]
      rw [oInt_add ⟨by omega, by omega⟩]
      refine hself h4 _ _ ⟨u2, rfl, h9, ?_⟩
      rw [take_filter_succ l _ h4, if_pos (show keepG l l[i] = true from h6)]
      exact h8.le (by omega)
    · try simp (maxSteps := 4000000) (disch := first | omega | with_unfolding_all exact id rfl | with_unfolding_all exact Nat.le_of_ble_eq_true rfl | (simp only [Jd, Je, Jr, Js, Jt, Nat.reduceAdd, allOne, oneCell, Bool.and_self, Jc]; first | done | omega)) only [↓Qa, ↓Qb, Qd, Qe, Qf, Qg, Qh, Qi, Qj, Qk, Ql, Qm, Qn, Qo, Qp, Qq, Qr, Qs, Qt, Qu, Qv, Qw, Qx, Qy, ptrTo, Qz, QA, QB, QC, QD, QE, QF, QG, QH, QI, QJ, QK, QL, QM, QN, QO, QP, QQ, QR, QS, QT, QU, QV, QW, QX, QY, QZ, Ja, Jb, Jc, Jd, Je, Jf, Jg, Jh, Ji, Jj, Jk, Jl, Jm, Jn, Jo, Jp, Jq, Jr, Js, Jt, Nat.reduceAdd]
      rw [oInt_add ⟨by omega, by omega⟩]
      refine hself h4 _ _ ⟨w, rfl, e25, ?_⟩
      rw [take_filter_succ l _ h4, if_neg (show ¬ keepG l l[i] = true by rw [show keepG l l[i] = false from h6]; exact Bool.false_ne_true)]
      exact hw4
  · have : i = l.length := by omega
    subst this
    rw [List.take_length] at hw
    have hfl := List.length_filter_le (keepG l) l
    rw [r43]
    refine sort_sp hw (L := L) (by omega) e22 (Nat.le_refl _) (by rw [ci_length]; omega) fun m23 e23 hu23 _ _ => ?_
    have ht23 := ht21.mono e23
    try simp (maxSteps := 4000000) (disch := first | omega | with_unfolding_all exact id rfl | with_unfolding_all exact Nat.le_of_ble_eq_true rfl | (simp only [Jd, Je, Jr, Js, Jt, Nat.reduceAdd, allOne, oneCell, Bool.and_self, Jc]; first | done | omega)) only [ht23.rd, ↓Qa, ↓Qb, Qd, Qe, Qf, Qg, Qh, Qi, Qj, Qk, Ql, Qm, Qn, Qo, Qp, Qq, Qr, Qs, Qt, Qu, Qv, Qw, Qx, Qy, ptrTo, Qz, QA, QB, QC, QD, QE, QF, QG, QH, QI, QJ, QK, QL, QM, QN, QO, QP, QQ, QR, QS, QT, QU, QV, QW, QX, QY, QZ, Ja, Jb, Jc, Jd, Je, Jf, Jg, Jh, Ji, Jj, Jk, Jl, Jm, Jn, Jo, Jp, Jq, Jr, Js, Jt, Nat.reduceAdd]
    refine compact_sp hlf hu23 (by omega) e23 (Nat.le_refl _) (by rw [isortI_length, ci_length]; omega) fun u24 m24 e24 hu24 hf24 => ?_
    have ht24 := ht21.mono e24
    rw [squeeze_isort (n := 64) (fun x hx => hlt64 x (List.mem_filter.1 hx).1)] at hu24
    replace hu24 : IN m24 u24 (minl l) := hu24
    try simp (maxSteps := 4000000) (disch := first | omega | with_unfolding_all exact id rfl | with_unfolding_all exact Nat.le_of_ble_eq_true rfl | (simp only [Jd, Je, Jr, Js, Jt, Nat.reduceAdd, allOne, oneCell, Bool.and_self, Jc]; first | done | omega)) only [ht23.rd, ht24.rd, ↓Qa, ↓Qb, Qd, Qe, Qf, Qg, Qh, Qi, Qj, Qk, Ql, Qm, Qn, Qo, Qp, Qq, Qr, Qs, Qt, Qu, Qv, Qw, Qx, Qy, ptrTo, Qz, QA, QB, QC, QD, QE, QF, QG, QH, QI, QJ, QK, QL, QM, QN, QO, QP, QQ, QR, QS, QT, QU, QV, QW, QX, QY, QZ, Ja, Jb, Jc, Jd, Je, Jf, Jg, Jh, Ji, Jj, Jk, Jl, Jm, Jn, Jo, Jp, Jq, Jr, Js, Jt, Nat.reduceAdd]
    refine same_sp hlf (hthin.mono e24) hu24 (by rw [ci_length]; omega) ?_
    try simp (maxSteps := 4000000) (disch := first | omega | with_unfolding_all exact id rfl | with_unfolding_all exact Nat.le_of_ble_eq_true rfl | (simp only [Jd, Je, Jr, Js, Jt, Nat.reduceAdd, allOne, oneCell, Bool.and_self, Jc]; first | done | omega)) only [↓Qa, ↓Qb, Qd, Qe, Qf, Qg, Qh, Qi, Qj, Qk, Ql, Qm, Qn, Qo, Qp, Qq, Qr, Qs, Qt, Qu, Qv, Qw, Qx, Qy, ptrTo, Qz, QA, QB, QC, QD, QE, QF, QG, QH, QI, QJ, QK, QL, QM, QN, QO, QP, QQ, QR, QS, QT, QU, QV, QW, QX, QY, QZ, Ja, Jb, Jc, Jd, Je, Jf, Jg, Jh, Ji, Jj, Jk, Jl, Jm, Jn, Jo, Jp, Jq, Jr, Js, Jt, Nat.reduceAdd]
    repeat (rw [join_e]; try simp (maxSteps := 4000000) (disch := first | omega | with_unfolding_all exact id rfl | with_unfolding_all exact Nat.le_of_ble_eq_true rfl | (simp only [Jd, Je, Jr, Js, Jt, Nat.reduceAdd, allOne, oneCell, Bool.and_self, Jc]; first | done | omega)) only [↓Qa, ↓Qb, Qd, Qe, Qf, Qg, Qh, Qi, Qj, Qk, Ql, Qm, Qn, Qo, Qp, Qq, Qr, Qs, Qt, Qu, Qv, Qw, Qx, Qy, ptrTo, Qz, QA, QB, QC, QD, QE, QF, QG, QH, QI, QJ, QK, QL, QM, QN, QO, QP, QQ, QR, QS, QT, QU, QV, QW, QX, QY, QZ, Ja, Jb, Jc, Jd, Je, Jf, Jg, Jh, Ji, Jj, Jk, Jl, Jm, Jn, Jo, Jp, Jq, Jr, Js, Jt, Nat.reduceAdd])
    refine works_sp (hT.mono (G21.trans e24)) ?_
    try simp (maxSteps := 4000000) (disch := first | omega | with_unfolding_all exact id rfl | with_unfolding_all exact Nat.le_of_ble_eq_true rfl | (simp only [Jd, Je, Jr, Js, Jt, Nat.reduceAdd, allOne, oneCell, Bool.and_self, Jc]; first | done | omega)) only [↓Qa, ↓Qb, Qd, Qe, Qf, Qg, Qh, Qi, Qj, Qk, Ql, Qm, Qn, Qo, Qp, Qq, Qr, Qs, Qt, Qu, Qv, Qw, Qx, Qy, ptrTo, Qz, QA, QB, QC, QD, QE, QF, QG, QH, QI, QJ, QK, QL, QM, QN, QO, QP, QQ, QR, QS, QT, QU, QV, QW, QX, QY, QZ, Ja, Jb, Jc, Jd, Je, Jf, Jg, Jh, Ji, Jj, Jk, Jl, Jm, Jn, Jo, Jp, Jq, Jr, Js, Jt, Nat.reduceAdd]
    repeat (rw [join_e]; try simp (maxSteps := 4000000) (disch := first | omega | with_unfolding_all exact id rfl | with_unfolding_all exact Nat.le_of_ble_eq_true rfl | (simp only [Jd, Je, Jr, Js, Jt, Nat.reduceAdd, allOne, oneCell, Bool.and_self, Jc]; first | done | omega)) only [↓Qa, ↓Qb, Qd, Qe, Qf, Qg, Qh, Qi, Qj, Qk, Ql, Qm, Qn, Qo, Qp, Qq, Qr, Qs, Qt, Qu, Qv, Qw, Qx, Qy, ptrTo, Qz, QA, QB, QC, QD, QE, QF, QG, QH, QI, QJ, QK, QL, QM, QN, QO, QP, QQ, QR, QS, QT, QU, QV, QW, QX, QY, QZ, Ja, Jb, Jc, Jd, Je, Jf, Jg, Jh, Ji, Jj, Jk, Jl, Jm, Jn, Jo, Jp, Jq, Jr, Js, Jt, Nat.reduceAdd])
    exact hk _ (G21.trans e24)
end
end Go.Vit
