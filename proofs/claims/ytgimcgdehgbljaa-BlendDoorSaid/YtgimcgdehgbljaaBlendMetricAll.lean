/- The law BlendMetric: its walk. -/
import Derived.Test.YtgimcgdehgbljaaWA
import Derived.Test.YtgimcgdehgbljaaWorks
import Derived.Test.YtgimcgdehgbljaaCoreD
set_option linter.unusedSimpArgs false
set_option linter.unusedVariables false
set_option maxRecDepth 20000
namespace Go.Vit
open Go Go.Proofs
attribute [local irreducible] runT loopS
theorem rdn_all {s : Nat} {cs : List Value} {n : Nat} (h : cs.length = n) : rdn (some ⟨s, cs, none⟩) 0 n = some (.agg ⟨cs⟩) := by
  rw [rdn_e _ _ _ _ (by omega), List.drop_zero, List.take_of_length_le (by omega)]
theorem beql4 (a b : Bool) : abin Try.prog .eql 4 (.bool a) (.bool b) = some (.bool (decide (a = b))) := by cases a <;> cases b <;> kernel_rfl
theorem min2 (a b : Nat) : abuiltin Try.prog .min #[3, 3] [.int .i64 (a : Int), .int .i64 (b : Int)] = some (.int .i64 ((min a b : Nat) : Int)) := by
  show aleast true .i64 (a : Int) [.int .i64 (b : Int)] = _
  by_cases h : (b : Int) < (a : Int)
  · simp only [aleast, ilt_eq, decide_eq_true h, mkI_e]
    rw [Nat.min_eq_right (by omega)]
  · simp only [aleast, ilt_eq, decide_eq_false h, mkI_e]
    rw [Nat.min_eq_left (by omega)]
abbrev bytes (l : List Nat) : Value := .agg ⟨l.map fun (g : Nat) => .int .u8 (g : Int)⟩
section
variable {lf n L : Nat} {m : Mem} {k : Value → Mem → Option Unit}
theorem works_sp (hT : TabOk mTab m) (hk : k (.bool true) m = some ()) : runT (tab lf) (n + 1) 15 [] L m k = some () := by
  rw [r15]
  exact SClosed_sp hT hk
set_option maxHeartbeats 4000000 in
theorem metric_sp {x0 x1 : Nat} {l1 l2 l3 : List Nat} (hlf : 1000000 ≤ lf) (hT : TabOk mTab m) (hL : L ≤ m.next) (h0 : x0 < 256) (h1 : x1 < 256) (hl1 : l1.length = 10) (hg1 : ∀ g ∈ l1, g < 256) (hl2 : l2.length = 10) (hg2 : ∀ g ∈ l2, g < 256) (hl3 : l3.length = 10) (hg3 : ∀ g ∈ l3, g < 256)
    (hk : ∀ m', Gt m m' → k (.bool true) m' = some ()) : runT (tab lf) (n + 5) 10 [.int .u8 (x0 : Int), .int .u8 (x1 : Int), bytes l1, bytes l2, bytes l3] L m k = some () := by
  rw [r10]
  dsimp only [S10, iofNat, inegSucc]
  have c1 : (l1.map fun (g : Nat) => Value.int .u8 (g : Int)).length = 10 := by rw [List.length_map, hl1]
  have c2 : (l2.map fun (g : Nat) => Value.int .u8 (g : Int)).length = 10 := by rw [List.length_map, hl2]
  have c3 : (l3.map fun (g : Nat) => Value.int .u8 (g : Int)).length = 10 := by rw [List.length_map, hl3]
  rw [uc_e, uc_e, uc_e, uc_e, uc_e, un0_e, abox_e, cells_agg, oRes_e, abox_e, cells_agg, oRes_e, abox_e, cells_agg, oRes_e]
  have g1 := Mem.gt_push m ⟨1, l1.map fun (g : Nat) => .int .u8 (g : Int), none⟩
  have p1 : At (m.push ⟨1, l1.map fun (g : Nat) => .int .u8 (g : Int), none⟩) m.next _ := At.push m (l1.map fun (g : Nat) => .int .u8 (g : Int))
  have n1 : (m.push ⟨1, l1.map fun (g : Nat) => .int .u8 (g : Int), none⟩).next = m.next + 1 := Mem.push_next _ _
  generalize m.push ⟨1, l1.map fun (g : Nat) => .int .u8 (g : Int), none⟩ = m1 at g1 p1 n1 ⊢
  have g2 := Mem.gt_push m1 ⟨1, l2.map fun (g : Nat) => .int .u8 (g : Int), none⟩
  have p2 : At (m1.push ⟨1, l2.map fun (g : Nat) => .int .u8 (g : Int), none⟩) m1.next _ := At.push m1 (l2.map fun (g : Nat) => .int .u8 (g : Int))
  have n2 : (m1.push ⟨1, l2.map fun (g : Nat) => .int .u8 (g : Int), none⟩).next = m1.next + 1 := Mem.push_next _ _
  generalize m1.push ⟨1, l2.map fun (g : Nat) => .int .u8 (g : Int), none⟩ = m2 at g2 p2 n2 ⊢
  have g3 := Mem.gt_push m2 ⟨1, l3.map fun (g : Nat) => .int .u8 (g : Int), none⟩
  have p3 : At (m2.push ⟨1, l3.map fun (g : Nat) => .int .u8 (g : Int), none⟩) m2.next _ := At.push m2 (l3.map fun (g : Nat) => .int .u8 (g : Int))
  have n3 : (m2.push ⟨1, l3.map fun (g : Nat) => .int .u8 (g : Int), none⟩).next = m2.next + 1 := Mem.push_next _ _
  generalize m2.push ⟨1, l3.map fun (g : Nat) => .int .u8 (g : Int), none⟩ = m3 at g3 p3 n3 ⊢
  have G3 := (g1.trans g2).trans g3
  have q1 := (p1.mono g2).mono g3
  have q2 := p2.mono g3
  simp only [ptrTo]
  rw [oCv_nat (by omega), show (10 : Int) = ((10 : Nat) : Int) from rfl, oInt_remN (by omega), show (1 : Int) = ((1 : Nat) : Int) from rfl, oInt_addN (by omega)]
  have hN1 : 1 ≤ 1 + x0 % 10 := by omega
  have hN10 : 1 + x0 % 10 ≤ 10 := by omega
  generalize 1 + x0 % 10 = N at hN1 hN10 ⊢
  try simp (maxSteps := 4000000) (disch := first | omega | with_unfolding_all exact id rfl | with_unfolding_all exact Nat.le_of_ble_eq_true rfl | (simp only [Jd, Je, Jr, Js, Jt, Nat.reduceAdd, allOne, oneCell, Bool.and_self, Jc]; first | done | omega)) only [↓Qa, ↓Qb, Qd, Qe, Qf, Qg, Qh, Qi, Qj, Qk, Ql, Qm, Qn, Qo, Qp, Qq, Qr, Qs, Qt, Qu, Qv, Qw, Qx, Qy, ptrTo, Qz, QA, QB, QC, QD, QE, QF, QG, QH, QI, QJ, QK, QL, QM, QN, QO, QP, QQ, QR, QS, QT, QU, QV, QW, QX, QY, QZ, Ja, Jb, Jc, Jd, Je, Jf, Jg, Jh, Ji, Jj, Jk, Jl, Jm, Jn, Jo, Jp, Jq, Jr, Js, Jt, Nat.reduceAdd]
  have g4 : Gt m3 ((m3.push ⟨1, [.int .i64 0], none⟩).put m3.next (some ⟨1, [.int .i64 (N : Int)], none⟩)) := Mem.put_gt (Mem.gt_push _ _) _ (Nat.le_refl _)
  have pN : At ((m3.push ⟨1, [.int .i64 0], none⟩).put m3.next (some ⟨1, [.int .i64 (N : Int)], none⟩)) m3.next [.int .i64 (N : Int)] := Mem.rd_put_eq _ _ (by rw [Mem.push_next]; omega)
  have n4 : ((m3.push ⟨1, [.int .i64 0], none⟩).put m3.next (some ⟨1, [.int .i64 (N : Int)], none⟩)).next = m3.next + 1 := rfl
  rw [q1.rd, rdn_all c1, oCv_nat (by omega), oInt_addN (by omega), oInt_remN (by omega)]
  generalize (m3.push ⟨1, [.int .i64 0], none⟩).put m3.next (some ⟨1, [.int .i64 (N : Int)], none⟩) = m4 at g4 pN n4 ⊢
  have hkk : x1 % (N + 1) ≤ N := by have := Nat.mod_lt x1 (show 0 < N + 1 by omega); omega
  generalize x1 % (N + 1) = kk at hkk ⊢
  have G4 := G3.trans g4
  have hm4 := G4.next
  have q14 := q1.mono g4
  have q24 := q2.mono g4
  have q34 := p3.mono g4
  rw [oOpt_e]
  refine chosen_sp hlf (by omega) hl1 hg1 hN1 hN10 hkk fun ua m5 a e5 hua ha => ?_
  have n5 := e5.next
  rw [(q24.mono e5).rd, rdn_all c2, oOpt_e, (pN.mono e5).rd, rdo_e, List.getElem?_cons_zero, oOpt_e]
  refine chosen_sp hlf (by omega) hl2 hg2 hN1 hN10 hkk fun ub m6 b e6 hub hb => ?_
  have E6 := e5.trans e6
  have n6 := E6.next
  rw [(q34.mono E6).rd, rdn_all c3, oOpt_e, (pN.mono E6).rd, rdo_e, List.getElem?_cons_zero, oOpt_e]
  refine chosen_sp hlf (by omega) hl3 hg3 hN1 hN10 hkk fun uc m7 c e7 huc hc => ?_
  have E7 := E6.trans e7
  have n7 := E7.next
  have pN7 := pN.mono E7
  have hua7 := (hua.mono e6).mono e7
  have hub7 := hub.mono e7
  have lbl := pN7.lt
  have hla := ha.len
  have hlb := hb.len
  have hlc := hc.len
  try simp (maxSteps := 4000000) (disch := first | omega | with_unfolding_all exact id rfl | with_unfolding_all exact Nat.le_of_ble_eq_true rfl | (simp only [Jd, Je, Jr, Js, Jt, Nat.reduceAdd, allOne, oneCell, Bool.and_self, Jc]; first | done | omega)) only [pN7.rd, ↓Qa, ↓Qb, Qd, Qe, Qf, Qg, Qh, Qi, Qj, Qk, Ql, Qm, Qn, Qo, Qp, Qq, Qr, Qs, Qt, Qu, Qv, Qw, Qx, Qy, ptrTo, Qz, QA, QB, QC, QD, QE, QF, QG, QH, QI, QJ, QK, QL, QM, QN, QO, QP, QQ, QR, QS, QT, QU, QV, QW, QX, QY, QZ, Ja, Jb, Jc, Jd, Je, Jf, Jg, Jh, Ji, Jj, Jk, Jl, Jm, Jn, Jo, Jp, Jq, Jr, Js, Jt, Nat.reduceAdd]
  refine away2_sp hlf hN1 hN10 hua7 hub7 ha hb ?_
  try simp (maxSteps := 4000000) (disch := first | omega | with_unfolding_all exact id rfl | with_unfolding_all exact Nat.le_of_ble_eq_true rfl | (simp only [Jd, Je, Jr, Js, Jt, Nat.reduceAdd, allOne, oneCell, Bool.and_self, Jc]; first | done | omega)) only [pN7.rd, ↓Qa, ↓Qb, Qd, Qe, Qf, Qg, Qh, Qi, Qj, Qk, Ql, Qm, Qn, Qo, Qp, Qq, Qr, Qs, Qt, Qu, Qv, Qw, Qx, Qy, ptrTo, Qz, QA, QB, QC, QD, QE, QF, QG, QH, QI, QJ, QK, QL, QM, QN, QO, QP, QQ, QR, QS, QT, QU, QV, QW, QX, QY, QZ, Ja, Jb, Jc, Jd, Je, Jf, Jg, Jh, Ji, Jj, Jk, Jl, Jm, Jn, Jo, Jp, Jq, Jr, Js, Jt, Nat.reduceAdd]
  refine away2_sp hlf hN1 hN10 hub7 hua7 hb ha ?_
  try simp (maxSteps := 4000000) (disch := first | omega | with_unfolding_all exact id rfl | with_unfolding_all exact Nat.le_of_ble_eq_true rfl | (simp only [Jd, Je, Jr, Js, Jt, Nat.reduceAdd, allOne, oneCell, Bool.and_self, Jc]; first | done | omega)) only [pN7.rd, ↓Qa, ↓Qb, Qd, Qe, Qf, Qg, Qh, Qi, Qj, Qk, Ql, Qm, Qn, Qo, Qp, Qq, Qr, Qs, Qt, Qu, Qv, Qw, Qx, Qy, ptrTo, Qz, QA, QB, QC, QD, QE, QF, QG, QH, QI, QJ, QK, QL, QM, QN, QO, QP, QQ, QR, QS, QT, QU, QV, QW, QX, QY, QZ, Ja, Jb, Jc, Jd, Je, Jf, Jg, Jh, Ji, Jj, Jk, Jl, Jm, Jn, Jo, Jp, Jq, Jr, Js, Jt, Nat.reduceAdd]
  refine others_sp hlf hN10 (by omega) hua7 (by omega) pN7 fun uoa m8 e8 hoa => ?_
  have n8 := e8.next
  try simp (maxSteps := 4000000) (disch := first | omega | with_unfolding_all exact id rfl | with_unfolding_all exact Nat.le_of_ble_eq_true rfl | (simp only [Jd, Je, Jr, Js, Jt, Nat.reduceAdd, allOne, oneCell, Bool.and_self, Jc]; first | done | omega)) only [↓Qa, ↓Qb, Qd, Qe, Qf, Qg, Qh, Qi, Qj, Qk, Ql, Qm, Qn, Qo, Qp, Qq, Qr, Qs, Qt, Qu, Qv, Qw, Qx, Qy, ptrTo, Qz, QA, QB, QC, QD, QE, QF, QG, QH, QI, QJ, QK, QL, QM, QN, QO, QP, QQ, QR, QS, QT, QU, QV, QW, QX, QY, QZ, Ja, Jb, Jc, Jd, Je, Jf, Jg, Jh, Ji, Jj, Jk, Jl, Jm, Jn, Jo, Jp, Jq, Jr, Js, Jt, Nat.reduceAdd]
  refine others_sp hlf hN10 (by omega) (hub7.mono e8) (by omega) (pN7.mono e8) fun uob m9 e9 hob => ?_
  have E9 := e8.trans e9
  have n9 := E9.next
  have pN9 := pN7.mono E9
  refine away2_sp hlf hN1 hN10 (hoa.mono e9) hob (oth_bl ha) (oth_bl hb) ?_
  have hua9 := hua7.mono E9
  have hub9 := hub7.mono E9
  have huc9 := huc.mono E9
  try simp (maxSteps := 4000000) (disch := first | omega | with_unfolding_all exact id rfl | with_unfolding_all exact Nat.le_of_ble_eq_true rfl | (simp only [Jd, Je, Jr, Js, Jt, Nat.reduceAdd, allOne, oneCell, Bool.and_self, Jc]; first | done | omega)) only [pN9.rd, ↓Qa, ↓Qb, Qd, Qe, Qf, Qg, Qh, Qi, Qj, Qk, Ql, Qm, Qn, Qo, Qp, Qq, Qr, Qs, Qt, Qu, Qv, Qw, Qx, Qy, ptrTo, Qz, QA, QB, QC, QD, QE, QF, QG, QH, QI, QJ, QK, QL, QM, QN, QO, QP, QQ, QR, QS, QT, QU, QV, QW, QX, QY, QZ, Ja, Jb, Jc, Jd, Je, Jf, Jg, Jh, Ji, Jj, Jk, Jl, Jm, Jn, Jo, Jp, Jq, Jr, Js, Jt, Nat.reduceAdd]
  refine away2_sp hlf hN1 hN10 hua9 huc9 ha hc ?_
  try simp (maxSteps := 4000000) (disch := first | omega | with_unfolding_all exact id rfl | with_unfolding_all exact Nat.le_of_ble_eq_true rfl | (simp only [Jd, Je, Jr, Js, Jt, Nat.reduceAdd, allOne, oneCell, Bool.and_self, Jc]; first | done | omega)) only [pN9.rd, ↓Qa, ↓Qb, Qd, Qe, Qf, Qg, Qh, Qi, Qj, Qk, Ql, Qm, Qn, Qo, Qp, Qq, Qr, Qs, Qt, Qu, Qv, Qw, Qx, Qy, ptrTo, Qz, QA, QB, QC, QD, QE, QF, QG, QH, QI, QJ, QK, QL, QM, QN, QO, QP, QQ, QR, QS, QT, QU, QV, QW, QX, QY, QZ, Ja, Jb, Jc, Jd, Je, Jf, Jg, Jh, Ji, Jj, Jk, Jl, Jm, Jn, Jo, Jp, Jq, Jr, Js, Jt, Nat.reduceAdd]
  refine away2_sp hlf hN1 hN10 huc9 hub9 hc hb ?_
  rw [away_oth ha hb, ← away_comm ha hb]
  have htri := away_tri ha hb hc
  have hzero := away_zero ha hb
  obtain ⟨hle1, hle2⟩ := away_le ha hb
  have z1 := (away_le ha hc).1
  have z2 := (away_le hc hb).1
  generalize awayN a b = x at htri hzero hle1 hle2 ⊢
  generalize awayN a c = p at htri z1 ⊢
  generalize awayN c b = q at htri z2 ⊢
  have f1 : decide ((x : Int) ≤ ((p + q : Nat) : Int)) = true := decide_eq_true (by omega)
  have f2 : decide ((x : Int) = 0) = decide (ci a = ci b) := by
    refine decide_eq_decide.2 ⟨fun h => by rw [hzero.1 (by omega)], fun h => ?_⟩
    have : a = b := List.map_inj_right (fun x y h => Int.ofNat.inj h) |>.1 h
    have := hzero.2 this
    omega
  have f3 : decide ((x : Int) ≤ ((min kk (N - kk) : Nat) : Int)) = true := decide_eq_true (by omega)
  have G9 := (G4.trans E7).trans E9
  try simp (maxSteps := 4000000) (disch := first | omega | with_unfolding_all exact id rfl | with_unfolding_all exact Nat.le_of_ble_eq_true rfl | (simp only [Jd, Je, Jr, Js, Jt, Nat.reduceAdd, allOne, oneCell, Bool.and_self, Jc]; first | done | omega)) only [pN9.rd, ↓Qa, ↓Qb, Qd, Qe, Qf, Qg, Qh, Qi, Qj, Qk, Ql, Qm, Qn, Qo, Qp, Qq, Qr, Qs, Qt, Qu, Qv, Qw, Qx, Qy, ptrTo, Qz, QA, QB, QC, QD, QE, QF, QG, QH, QI, QJ, QK, QL, QM, QN, QO, QP, QQ, QR, QS, QT, QU, QV, QW, QX, QY, QZ, Ja, Jb, Jc, Jd, Je, Jf, Jg, Jh, Ji, Jj, Jk, Jl, Jm, Jn, Jo, Jp, Jq, Jr, Js, Jt, Nat.reduceAdd]
  repeat (rw [join_e]; try simp (maxSteps := 4000000) (disch := first | omega | with_unfolding_all exact id rfl | with_unfolding_all exact Nat.le_of_ble_eq_true rfl | (simp only [Jd, Je, Jr, Js, Jt, Nat.reduceAdd, allOne, oneCell, Bool.and_self, Jc]; first | done | omega)) only [pN9.rd, ↓Qa, ↓Qb, Qd, Qe, Qf, Qg, Qh, Qi, Qj, Qk, Ql, Qm, Qn, Qo, Qp, Qq, Qr, Qs, Qt, Qu, Qv, Qw, Qx, Qy, ptrTo, Qz, QA, QB, QC, QD, QE, QF, QG, QH, QI, QJ, QK, QL, QM, QN, QO, QP, QQ, QR, QS, QT, QU, QV, QW, QX, QY, QZ, Ja, Jb, Jc, Jd, Je, Jf, Jg, Jh, Ji, Jj, Jk, Jl, Jm, Jn, Jo, Jp, Jq, Jr, Js, Jt, Nat.reduceAdd])
  rw [oInt_addN (by omega)]
  try simp (maxSteps := 4000000) (disch := first | omega | with_unfolding_all exact id rfl | with_unfolding_all exact Nat.le_of_ble_eq_true rfl | (simp only [Jd, Je, Jr, Js, Jt, Nat.reduceAdd, allOne, oneCell, Bool.and_self, Jc]; first | done | omega)) only [f1, ↓Qa, ↓Qb, Qd, Qe, Qf, Qg, Qh, Qi, Qj, Qk, Ql, Qm, Qn, Qo, Qp, Qq, Qr, Qs, Qt, Qu, Qv, Qw, Qx, Qy, ptrTo, Qz, QA, QB, QC, QD, QE, QF, QG, QH, QI, QJ, QK, QL, QM, QN, QO, QP, QQ, QR, QS, QT, QU, QV, QW, QX, QY, QZ, Ja, Jb, Jc, Jd, Je, Jf, Jg, Jh, Ji, Jj, Jk, Jl, Jm, Jn, Jo, Jp, Jq, Jr, Js, Jt, Nat.reduceAdd]
  repeat (rw [join_e]; try simp (maxSteps := 4000000) (disch := first | omega | with_unfolding_all exact id rfl | with_unfolding_all exact Nat.le_of_ble_eq_true rfl | (simp only [Jd, Je, Jr, Js, Jt, Nat.reduceAdd, allOne, oneCell, Bool.and_self, Jc]; first | done | omega)) only [f1, ↓Qa, ↓Qb, Qd, Qe, Qf, Qg, Qh, Qi, Qj, Qk, Ql, Qm, Qn, Qo, Qp, Qq, Qr, Qs, Qt, Qu, Qv, Qw, Qx, Qy, ptrTo, Qz, QA, QB, QC, QD, QE, QF, QG, QH, QI, QJ, QK, QL, QM, QN, QO, QP, QQ, QR, QS, QT, QU, QV, QW, QX, QY, QZ, Ja, Jb, Jc, Jd, Je, Jf, Jg, Jh, Ji, Jj, Jk, Jl, Jm, Jn, Jo, Jp, Jq, Jr, Js, Jt, Nat.reduceAdd])
  refine same_sp hlf hua9 hub9 (by rw [ci_length]; omega) ?_
  try simp (maxSteps := 4000000) (disch := first | omega | with_unfolding_all exact id rfl | with_unfolding_all exact Nat.le_of_ble_eq_true rfl | (simp only [Jd, Je, Jr, Js, Jt, Nat.reduceAdd, allOne, oneCell, Bool.and_self, Jc]; first | done | omega)) only [beql4, f2, eq_self, ↓Qa, ↓Qb, Qd, Qe, Qf, Qg, Qh, Qi, Qj, Qk, Ql, Qm, Qn, Qo, Qp, Qq, Qr, Qs, Qt, Qu, Qv, Qw, Qx, Qy, ptrTo, Qz, QA, QB, QC, QD, QE, QF, QG, QH, QI, QJ, QK, QL, QM, QN, QO, QP, QQ, QR, QS, QT, QU, QV, QW, QX, QY, QZ, Ja, Jb, Jc, Jd, Je, Jf, Jg, Jh, Ji, Jj, Jk, Jl, Jm, Jn, Jo, Jp, Jq, Jr, Js, Jt, Nat.reduceAdd]
  repeat (rw [join_e]; try simp (maxSteps := 4000000) (disch := first | omega | with_unfolding_all exact id rfl | with_unfolding_all exact Nat.le_of_ble_eq_true rfl | (simp only [Jd, Je, Jr, Js, Jt, Nat.reduceAdd, allOne, oneCell, Bool.and_self, Jc]; first | done | omega)) only [pN9.rd, ↓Qa, ↓Qb, Qd, Qe, Qf, Qg, Qh, Qi, Qj, Qk, Ql, Qm, Qn, Qo, Qp, Qq, Qr, Qs, Qt, Qu, Qv, Qw, Qx, Qy, ptrTo, Qz, QA, QB, QC, QD, QE, QF, QG, QH, QI, QJ, QK, QL, QM, QN, QO, QP, QQ, QR, QS, QT, QU, QV, QW, QX, QY, QZ, Ja, Jb, Jc, Jd, Je, Jf, Jg, Jh, Ji, Jj, Jk, Jl, Jm, Jn, Jo, Jp, Jq, Jr, Js, Jt, Nat.reduceAdd])
  rw [oInt_sub ⟨by omega, by omega⟩, show (N : Int) - (kk : Int) = ((N - kk : Nat) : Int) by omega, min2]
  try simp (maxSteps := 4000000) (disch := first | omega | with_unfolding_all exact id rfl | with_unfolding_all exact Nat.le_of_ble_eq_true rfl | (simp only [Jd, Je, Jr, Js, Jt, Nat.reduceAdd, allOne, oneCell, Bool.and_self, Jc]; first | done | omega)) only [f3, ↓Qa, ↓Qb, Qd, Qe, Qf, Qg, Qh, Qi, Qj, Qk, Ql, Qm, Qn, Qo, Qp, Qq, Qr, Qs, Qt, Qu, Qv, Qw, Qx, Qy, ptrTo, Qz, QA, QB, QC, QD, QE, QF, QG, QH, QI, QJ, QK, QL, QM, QN, QO, QP, QQ, QR, QS, QT, QU, QV, QW, QX, QY, QZ, Ja, Jb, Jc, Jd, Je, Jf, Jg, Jh, Ji, Jj, Jk, Jl, Jm, Jn, Jo, Jp, Jq, Jr, Js, Jt, Nat.reduceAdd]
  repeat (rw [join_e]; try simp (maxSteps := 4000000) (disch := first | omega | with_unfolding_all exact id rfl | with_unfolding_all exact Nat.le_of_ble_eq_true rfl | (simp only [Jd, Je, Jr, Js, Jt, Nat.reduceAdd, allOne, oneCell, Bool.and_self, Jc]; first | done | omega)) only [f3, ↓Qa, ↓Qb, Qd, Qe, Qf, Qg, Qh, Qi, Qj, Qk, Ql, Qm, Qn, Qo, Qp, Qq, Qr, Qs, Qt, Qu, Qv, Qw, Qx, Qy, ptrTo, Qz, QA, QB, QC, QD, QE, QF, QG, QH, QI, QJ, QK, QL, QM, QN, QO, QP, QQ, QR, QS, QT, QU, QV, QW, QX, QY, QZ, Ja, Jb, Jc, Jd, Je, Jf, Jg, Jh, Ji, Jj, Jk, Jl, Jm, Jn, Jo, Jp, Jq, Jr, Js, Jt, Nat.reduceAdd])
  refine works_sp (hT.mono G9) ?_
  try simp (maxSteps := 4000000) (disch := first | omega | with_unfolding_all exact id rfl | with_unfolding_all exact Nat.le_of_ble_eq_true rfl | (simp only [Jd, Je, Jr, Js, Jt, Nat.reduceAdd, allOne, oneCell, Bool.and_self, Jc]; first | done | omega)) only [↓Qa, ↓Qb, Qd, Qe, Qf, Qg, Qh, Qi, Qj, Qk, Ql, Qm, Qn, Qo, Qp, Qq, Qr, Qs, Qt, Qu, Qv, Qw, Qx, Qy, ptrTo, Qz, QA, QB, QC, QD, QE, QF, QG, QH, QI, QJ, QK, QL, QM, QN, QO, QP, QQ, QR, QS, QT, QU, QV, QW, QX, QY, QZ, Ja, Jb, Jc, Jd, Je, Jf, Jg, Jh, Ji, Jj, Jk, Jl, Jm, Jn, Jo, Jp, Jq, Jr, Js, Jt, Nat.reduceAdd]
  repeat (rw [join_e]; try simp (maxSteps := 4000000) (disch := first | omega | with_unfolding_all exact id rfl | with_unfolding_all exact Nat.le_of_ble_eq_true rfl | (simp only [Jd, Je, Jr, Js, Jt, Nat.reduceAdd, allOne, oneCell, Bool.and_self, Jc]; first | done | omega)) only [↓Qa, ↓Qb, Qd, Qe, Qf, Qg, Qh, Qi, Qj, Qk, Ql, Qm, Qn, Qo, Qp, Qq, Qr, Qs, Qt, Qu, Qv, Qw, Qx, Qy, ptrTo, Qz, QA, QB, QC, QD, QE, QF, QG, QH, QI, QJ, QK, QL, QM, QN, QO, QP, QQ, QR, QS, QT, QU, QV, QW, QX, QY, QZ, Ja, Jb, Jc, Jd, Je, Jf, Jg, Jh, Ji, Jj, Jk, Jl, Jm, Jn, Jo, Jp, Jq, Jr, Js, Jt, Nat.reduceAdd])
  exact hk _ G9
end
end Go.Vit
