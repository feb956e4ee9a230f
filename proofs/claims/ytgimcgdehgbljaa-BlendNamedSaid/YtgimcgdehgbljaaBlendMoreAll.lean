/- The law BlendMore: its walk. -/
import Derived.Test.YtgimcgdehgbljaaWB
import Derived.Test.YtgimcgdehgbljaaPA
import Derived.Test.YtgimcgdehgbljaaBlendMetricAll
set_option linter.unusedSimpArgs false
set_option linter.unusedVariables false
set_option maxRecDepth 20000
namespace Go.Vit
open Go Go.Proofs
attribute [local irreducible] runT loopS
theorem bn4 (a b : Bool) : abin Try.prog .neq 4 (.bool a) (.bool b) = some (.bool (a != b)) := by cases a <;> cases b <;> kernel_rfl
theorem bu43 (p : Option Addr) (n c : Nat) (lo hi : Int) : bu Try.prog 43 [(0, .slice p n c), (1, .int .i64 lo), (2, .int .i64 hi)] = some (rcp (.slice p n c) lo hi) := by kernel_rfl
theorem rc_facts {m : Mem} {b : Nat} {wv : Value} {lo hi : Int} (h : At m b (rcC wv lo hi)) : rdn (m.rd b) 0 3 = some (rcp wv lo hi) ∧ rdo (m.rd b) 0 = some wv ∧ rdo (m.rd b) 1 = some (.int .i64 lo) ∧ rdo (m.rd b) 2 = some (.int .i64 hi) := by
  rw [h.rd]; exact ⟨rdn3 .., rfl, rfl, rfl⟩
theorem box3 {L : Nat} {m : Mem} {wv : Value} {lo hi : Int} {l : List Int} {m2 : Mem} {K : Value → Mem → Option Unit} (hw : IL m2 wv l) (hL : L ≤ m.next)
    (hk : ∀ m', Gt m m' → At m' m.next (rcC wv lo hi) → m'.next = m.next + 1 → K (.pointer (some ⟨m.next, 0, none⟩)) m' = some ()) :
    (oRes (anew m 1 [.slice none 0 0, .int .i64 0, .int .i64 0] ptrTo) fun t m' => oRes (st1 3 L m' t (rcp wv lo hi)) fun _ m'' => K t m'') = some () := by
  obtain ⟨p, c, rfl⟩ := hw.ex
  rw [anew_eq, oRes_e]
  unfold ptrTo
  rw [st1_u, Mem.rd_push, cells_agg, stw_e (s := 3) hL rfl (Nat.le_refl _) rfl, oRes_e]
  refine hk _ (Mem.put_gt (Mem.gt_push _ _) _ (Nat.le_refl _)) (Mem.rd_put_eq _ _ (by rw [Mem.push_next]; omega)) ?_
  rw [Mem.put_next', Mem.push_next]
theorem box3s {L : Nat} {m : Mem} {wv : Value} {lo hi : Int} {l : List Int} {m2 : Mem} {K : Mem → Option Unit} (hw : IL m2 wv l) (hL : L ≤ m.next)
    (hk : ∀ m', Gt m m' → At m' m.next (rcC wv lo hi) → m'.next = m.next + 1 → K m' = some ()) :
    (oRes (stw 3 L (m.push ⟨1, [.slice none 0 0, .int .i64 0, .int .i64 0], none⟩) m.next 0 (rcp wv lo hi).cells.toList (some ⟨1, [.slice none 0 0, .int .i64 0, .int .i64 0], none⟩)) fun _ m'' => K m'') = some () := by
  obtain ⟨p, c, rfl⟩ := hw.ex
  rw [cells_agg, stw_e (s := 3) hL rfl (Nat.le_refl _) rfl, oRes_e]
  refine hk _ (Mem.put_gt (Mem.gt_push _ _) _ (Nat.le_refl _)) (Mem.rd_put_eq _ _ (by rw [Mem.push_next]; omega)) ?_
  rw [Mem.put_next', Mem.push_next]
theorem fit_of {ws : List Nat} {lo hi : Int} {kk : Nat} (h1 : 1 ≤ ws.length) (h10 : ws.length ≤ 10) (hws : ∀ w ∈ ws, w ≤ 50) (hlh : lo ≤ hi) (hkk : kk ≤ ws.length) :
    fitE (ci ws) lo hi (kk : Int) = 0 ∧ fitC (ci ws) lo hi (kk : Int) = ((fitL ws kk lo hi).length : Int) := by
  have hz := chkR_z h1 h10 hws hlh
  have hi' : (0 : Int) ≤ (kk : Int) ∧ (kk : Int) ≤ ((ci ws).length : Int) := by rw [ci_length]; omega
  refine ⟨?_, ?_⟩
  · unfold fitE; rw [if_pos hz, if_pos hi']
  · unfold fitC; rw [if_pos ⟨hz, hi'⟩, nni_ci, Int.toNat_natCast]
section
variable {lf n L : Nat} {m : Mem} {k : Value → Mem → Option Unit}
set_option maxHeartbeats 8000000 in
theorem more_sp {a c d x1 x3 x4 : Nat} {wl bl : List Nat} (hlf : 1000000 ≤ lf) (hT : TabOk mTab m) (hL : L ≤ m.next) (ha : a < 256) (hwl : wl.length = 10) (hwg : ∀ g ∈ wl, g < 256) (hc : c < 65536) (hd : d < 256) (h1 : x1 < 256) (hbl : bl.length = 10) (hbg : ∀ g ∈ bl, g < 256) (h3 : x3 < 256) (h4 : x4 < 256)
    (hk : ∀ m', Gt m m' → k (.bool true) m' = some ()) : runT (tab lf) (n + 11) 11 [mixV a wl c d, .int .u8 (x1 : Int), bytes bl, .int .u8 (x3 : Int), .int .u8 (x4 : Int)] L m k = some () := by
  rw [r11]
  dsimp only [S11, iofNat, inegSucc]
  have cb : (bl.map fun (g : Nat) => Value.int .u8 (g : Int)).length = 10 := by rw [List.length_map, hbl]
  rw [uc_e, uc_e, uc_e, uc_e, uc_e, un0_e, abox_e, oRes_e, cells_agg, abox_e, oRes_e, cells_agg]
  have g1 := Mem.gt_push m ⟨1, mixC a wl c d, none⟩
  have hA := At.push m (mixC a wl c d)
  have n1 : (m.push ⟨1, mixC a wl c d, none⟩).next = m.next + 1 := Mem.push_next _ _
  generalize m.push ⟨1, mixC a wl c d, none⟩ = m1 at g1 hA n1 ⊢
  have g2 := Mem.gt_push m1 ⟨1, bl.map fun (g : Nat) => .int .u8 (g : Int), none⟩
  have hB : At (m1.push ⟨1, bl.map fun (g : Nat) => .int .u8 (g : Int), none⟩) m1.next _ := At.push m1 (bl.map fun (g : Nat) => .int .u8 (g : Int))
  have n2 : (m1.push ⟨1, bl.map fun (g : Nat) => .int .u8 (g : Int), none⟩).next = m1.next + 1 := Mem.push_next _ _
  generalize m1.push ⟨1, bl.map fun (g : Nat) => .int .u8 (g : Int), none⟩ = m2 at g2 hB n2 ⊢
  have hA2 := hA.mono g2
  have G2 := g1.trans g2
  unfold ptrTo
  rw [ldN_u, hA2.rd, rdn_all (mix_len hwl), oOpt_e, show (10 : Int) = ((10 : Nat) : Int) from rfl]
  refine made_sp hlf (by omega) ha hwl hwg hc hd (by omega) (by omega) fun wv m3 ws lo hi e3 hw q1 q2 q3 q4 q5 q6 => ?_
  have G3 := G2.trans e3
  have n3 := e3.next
  refine box3 hw (by omega) fun m4 e4 hR n4 => ?_
  have hw4 := hw.mono e4
  have hB4 := (hB.mono e3).mono e4
  obtain ⟨pw, cw, ew⟩ := hw.ex
  obtain ⟨f3, f0, f1, f2⟩ := rc_facts hR
  have s1 : ∀ K : Value → Option Unit, oInt .add .i64 (.int .i64 (ws.length : Int)) (.int .i64 1) K = K (.int .i64 ((ws.length + 1 : Nat) : Int)) := fun K => by rw [oInt_add ⟨by omega, by omega⟩]; rfl
  have s2 : ∀ K : Value → Option Unit, oCv .i64 (.int .u8 (x1 : Int)) K = K (.int .i64 (x1 : Int)) := fun K => oCv_nat (by omega) K
  have s3 : ∀ K : Value → Option Unit, oInt .rem .i64 (.int .i64 (x1 : Int)) (.int .i64 ((ws.length + 1 : Nat) : Int)) K = K (.int .i64 ((x1 % (ws.length + 1) : Nat) : Int)) := fun K => oInt_remN (by omega) K
  have hby : rdn (m4.rd m1.next) 0 10 = some (bytes bl) := by rw [hB4.rd, rdn_all cb]
  try simp (maxSteps := 4000000) (disch := first | omega | with_unfolding_all exact id rfl | with_unfolding_all exact Nat.le_of_ble_eq_true rfl | (simp only [Jd, Je, Jr, Js, Jt, Nat.reduceAdd, allOne, oneCell, Bool.and_self, Jc]; first | done | omega)) only [f0, hw4.ln, s1, s2, s3, hby, ↓Qa, ↓Qb, Qd, Qe, Qf, Qg, Qh, Qi, Qj, Qk, Ql, Qm, Qn, Qo, Qp, Qq, Qr, Qs, Qt, Qu, Qv, Qw, Qx, Qy, ptrTo, Qz, QA, QB, QC, QD, QE, QF, QG, QH, QI, QJ, QK, QL, QM, QN, QO, QP, QQ, QR, QS, QT, QU, QV, QW, QX, QY, QZ, Ja, Jb, Jc, Jd, Je, Jf, Jg, Jh, Ji, Jj, Jk, Jl, Jm, Jn, Jo, Jp, Jq, Jr, Js, Jt, Nat.reduceAdd]
  have hkk : x1 % (ws.length + 1) ≤ ws.length := by have := Nat.mod_lt x1 (show 0 < ws.length + 1 by omega); omega
  generalize x1 % (ws.length + 1) = kk at hkk ⊢
  refine chosen_sp hlf (by omega) hbl hbg q1 q2 hkk fun ub m5 b e5 hub hb => ?_
  have n5 := e5.next
  have hR5 := hR.mono e5
  have hw5 := hw4.mono e5
  obtain ⟨f3, f0, f1, f2⟩ := rc_facts hR5
  have s4 : ∀ K : Value → Option Unit, oCv .i64 (.int .u8 (x3 : Int)) K = K (.int .i64 (x3 : Int)) := fun K => oCv_nat (by omega) K
  have s5 : ∀ K : Value → Option Unit, oCv .i64 (.int .u8 (x4 : Int)) K = K (.int .i64 (x4 : Int)) := fun K => oCv_nat (by omega) K
  have s6 : ∀ K : Value → Option Unit, oInt .rem .i64 (.int .i64 (x3 : Int)) (.int .i64 40) K = K (.int .i64 ((x3 % 40 : Nat) : Int)) := fun K => oInt_remN (b := 40) (by omega) K
  have s7 : ∀ K : Value → Option Unit, oInt .rem .i64 (.int .i64 (x4 : Int)) (.int .i64 40) K = K (.int .i64 ((x4 % 40 : Nat) : Int)) := fun K => oInt_remN (b := 40) (by omega) K
  have s8 : ∀ K : Value → Option Unit, oInt .sub .i64 (.int .i64 lo) (.int .i64 ((x3 % 40 : Nat) : Int)) K = K (.int .i64 (lo - ((x3 % 40 : Nat) : Int))) := fun K => oInt_sub ⟨by omega, by omega⟩ K
  have s9 : ∀ K : Value → Option Unit, oInt .add .i64 (.int .i64 hi) (.int .i64 ((x4 % 40 : Nat) : Int)) K = K (.int .i64 (hi + ((x4 % 40 : Nat) : Int))) := fun K => oInt_add ⟨by omega, by omega⟩ K
  have hbu : ∀ x y : Int, bu Try.prog 43 [(0, wv), (1, .int .i64 x), (2, .int .i64 y)] = some (rcp wv x y) := fun x y => by rw [ew]; exact bu43 ..
  rw [f0, oOpt_e, f1, oOpt_e, s4, s6, s8, f2, oOpt_e, s5, s7, s9, hbu, oOpt_e]
  have hlo2 : lo - ((x3 % 40 : Nat) : Int) ≤ lo := by omega
  have hhi2 : hi ≤ hi + ((x4 % 40 : Nat) : Int) := by omega
  generalize lo - ((x3 % 40 : Nat) : Int) = lo' at hlo2 ⊢
  generalize hi + ((x4 % 40 : Nat) : Int) = hi' at hhi2 ⊢
  refine box3s hw5 (by omega) fun m6 e6 hW n6 => ?_
  have hR6 := hR5.mono e6
  have hw6 := hw5.mono e6
  have hub6 := hub.mono e6
  have hbl' := hb.len
  rw [(rc_facts hR6).1, oOpt_e]
  refine nearest38_sp hlf (by omega) hw6 hub6 (by rw [ci_length]; omega) fun ux m7 e7 hux => ?_
  have n7 := e7.next
  try simp (maxSteps := 4000000) (disch := first | omega | with_unfolding_all exact id rfl | with_unfolding_all exact Nat.le_of_ble_eq_true rfl | (simp only [Jd, Je, Jr, Js, Jt, Nat.reduceAdd, allOne, oneCell, Bool.and_self, Jc]; first | done | omega)) only [↓Qa, ↓Qb, Qd, Qe, Qf, Qg, Qh, Qi, Qj, Qk, Ql, Qm, Qn, Qo, Qp, Qq, Qr, Qs, Qt, Qu, Qv, Qw, Qx, Qy, ptrTo, Qz, QA, QB, QC, QD, QE, QF, QG, QH, QI, QJ, QK, QL, QM, QN, QO, QP, QQ, QR, QS, QT, QU, QV, QW, QX, QY, QZ, Ja, Jb, Jc, Jd, Je, Jf, Jg, Jh, Ji, Jj, Jk, Jl, Jm, Jn, Jo, Jp, Jq, Jr, Js, Jt, Nat.reduceAdd]
  rw [(rc_facts (hW.mono e7)).1, oOpt_e]
  refine nearest38_sp hlf (by omega) (hw6.mono e7) (hub6.mono e7) (by rw [ci_length]; omega) fun uy m8 e8 huy => ?_
  have n8 := e8.next
  have E8 := e7.trans e8
  try simp (maxSteps := 4000000) (disch := first | omega | with_unfolding_all exact id rfl | with_unfolding_all exact Nat.le_of_ble_eq_true rfl | (simp only [Jd, Je, Jr, Js, Jt, Nat.reduceAdd, allOne, oneCell, Bool.and_self, Jc]; first | done | omega)) only [↓Qa, ↓Qb, Qd, Qe, Qf, Qg, Qh, Qi, Qj, Qk, Ql, Qm, Qn, Qo, Qp, Qq, Qr, Qs, Qt, Qu, Qv, Qw, Qx, Qy, ptrTo, Qz, QA, QB, QC, QD, QE, QF, QG, QH, QI, QJ, QK, QL, QM, QN, QO, QP, QQ, QR, QS, QT, QU, QV, QW, QX, QY, QZ, Ja, Jb, Jc, Jd, Je, Jf, Jg, Jh, Ji, Jj, Jk, Jl, Jm, Jn, Jo, Jp, Jq, Jr, Js, Jt, Nat.reduceAdd]
  rw [(rc_facts (hR6.mono E8)).1, oOpt_e]
  refine fits34_sp hlf (by omega) (hw6.mono E8) fun m9 e9 => ?_
  have n9 := e9.next
  have E9 := E8.trans e9
  try simp (maxSteps := 4000000) (disch := first | omega | with_unfolding_all exact id rfl | with_unfolding_all exact Nat.le_of_ble_eq_true rfl | (simp only [Jd, Je, Jr, Js, Jt, Nat.reduceAdd, allOne, oneCell, Bool.and_self, Jc]; first | done | omega)) only [↓Qa, ↓Qb, Qd, Qe, Qf, Qg, Qh, Qi, Qj, Qk, Ql, Qm, Qn, Qo, Qp, Qq, Qr, Qs, Qt, Qu, Qv, Qw, Qx, Qy, ptrTo, Qz, QA, QB, QC, QD, QE, QF, QG, QH, QI, QJ, QK, QL, QM, QN, QO, QP, QQ, QR, QS, QT, QU, QV, QW, QX, QY, QZ, Ja, Jb, Jc, Jd, Je, Jf, Jg, Jh, Ji, Jj, Jk, Jl, Jm, Jn, Jo, Jp, Jq, Jr, Js, Jt, Nat.reduceAdd]
  rw [(rc_facts (hW.mono E9)).1, oOpt_e]
  refine fits34_sp hlf (by omega) (hw6.mono E9) fun m10 e10 => ?_
  have n10 := e10.next
  have E10 := E9.trans e10
  try simp (maxSteps := 4000000) (disch := first | omega | with_unfolding_all exact id rfl | with_unfolding_all exact Nat.le_of_ble_eq_true rfl | (simp only [Jd, Je, Jr, Js, Jt, Nat.reduceAdd, allOne, oneCell, Bool.and_self, Jc]; first | done | omega)) only [↓Qa, ↓Qb, Qd, Qe, Qf, Qg, Qh, Qi, Qj, Qk, Ql, Qm, Qn, Qo, Qp, Qq, Qr, Qs, Qt, Qu, Qv, Qw, Qx, Qy, ptrTo, Qz, QA, QB, QC, QD, QE, QF, QG, QH, QI, QJ, QK, QL, QM, QN, QO, QP, QQ, QR, QS, QT, QU, QV, QW, QX, QY, QZ, Ja, Jb, Jc, Jd, Je, Jf, Jg, Jh, Ji, Jj, Jk, Jl, Jm, Jn, Jo, Jp, Jq, Jr, Js, Jt, Nat.reduceAdd]
  rw [(rc_facts (hR6.mono E10)).2.1, oOpt_e, (rc_facts (hR6.mono E10)).2.2.1, oOpt_e, oInt_sub ⟨by omega, by omega⟩, hbu, oOpt_e]
  refine fits34_sp hlf (by omega) (hw6.mono E10) fun m11 e11 => ?_
  have n11 := e11.next
  have E11 := E10.trans e11
  try simp (maxSteps := 4000000) (disch := first | omega | with_unfolding_all exact id rfl | with_unfolding_all exact Nat.le_of_ble_eq_true rfl | (simp only [Jd, Je, Jr, Js, Jt, Nat.reduceAdd, allOne, oneCell, Bool.and_self, Jc]; first | done | omega)) only [↓Qa, ↓Qb, Qd, Qe, Qf, Qg, Qh, Qi, Qj, Qk, Ql, Qm, Qn, Qo, Qp, Qq, Qr, Qs, Qt, Qu, Qv, Qw, Qx, Qy, ptrTo, Qz, QA, QB, QC, QD, QE, QF, QG, QH, QI, QJ, QK, QL, QM, QN, QO, QP, QQ, QR, QS, QT, QU, QV, QW, QX, QY, QZ, Ja, Jb, Jc, Jd, Je, Jf, Jg, Jh, Ji, Jj, Jk, Jl, Jm, Jn, Jo, Jp, Jq, Jr, Js, Jt, Nat.reduceAdd]
  rw [(rc_facts (hR6.mono E11)).2.1, oOpt_e, (rc_facts (hR6.mono E11)).2.2.2, oOpt_e, oInt_add ⟨by omega, by omega⟩, hbu, oOpt_e]
  refine fits34_sp hlf (by omega) (hw6.mono E11) fun m12 e12 => ?_
  have n12 := e12.next
  have E12 := E11.trans e12
  try simp (maxSteps := 4000000) (disch := first | omega | with_unfolding_all exact id rfl | with_unfolding_all exact Nat.le_of_ble_eq_true rfl | (simp only [Jd, Je, Jr, Js, Jt, Nat.reduceAdd, allOne, oneCell, Bool.and_self, Jc]; first | done | omega)) only [↓Qa, ↓Qb, Qd, Qe, Qf, Qg, Qh, Qi, Qj, Qk, Ql, Qm, Qn, Qo, Qp, Qq, Qr, Qs, Qt, Qu, Qv, Qw, Qx, Qy, ptrTo, Qz, QA, QB, QC, QD, QE, QF, QG, QH, QI, QJ, QK, QL, QM, QN, QO, QP, QQ, QR, QS, QT, QU, QV, QW, QX, QY, QZ, Ja, Jb, Jc, Jd, Je, Jf, Jg, Jh, Ji, Jj, Jk, Jl, Jm, Jn, Jo, Jp, Jq, Jr, Js, Jt, Nat.reduceAdd]
  refine count_sp hlf ?_
  obtain ⟨a1, a2⟩ := fit_of (lo := lo) (hi := hi) q1 q2 q3 q5 hkk
  obtain ⟨b1, b2⟩ := fit_of (lo := lo') (hi := hi') q1 q2 q3 (by omega) hkk
  obtain ⟨c1, c2⟩ := fit_of (lo := -(9 + 1)) (hi := lo - 1) q1 q2 q3 (by omega) hkk
  obtain ⟨d1, d2⟩ := fit_of (lo := hi + 1) (hi := 600) q1 q2 q3 (by omega) hkk
  have z1 : szE (ws.length : Int) (kk : Int) = 0 := if_pos ⟨⟨by omega, by omega⟩, by omega, by omega⟩
  have z2 : cntX (ws.length : Int) (kk : Int) = (chs ws.length kk : Int) := by unfold cntX; rw [if_pos z1]; rfl
  have hall : (fitL ws kk (-(9 + 1)) (lo - 1)).length + (fitL ws kk lo hi).length + (fitL ws kk (hi + 1) 600).length = chs ws.length kk := fitL_all q2 hkk q3 q4 q5 q6
  have hmono := fitL_mono (ws := ws) q2 hkk hlo2 hhi2
  have hl1 := fitL_len (ws := ws) (s := kk) (lo := lo) (hi := hi) q2
  have hl2 := fitL_len (ws := ws) (s := kk) (lo := lo') (hi := hi') q2
  have hl3 := fitL_len (ws := ws) (s := kk) (lo := -(9 + 1)) (hi := lo - 1) q2
  have hl4 := fitL_len (ws := ws) (s := kk) (lo := hi + 1) (hi := 600) q2
  obtain ⟨nx1, nx2⟩ := nr_of (lo := lo) (hi := hi) q1 q2 q3 q5 hb
  obtain ⟨ny1, ny2⟩ := nr_of (lo := lo') (hi := hi') q1 q2 q3 (by omega) hb
  have hsub : ∀ c ∈ fitL ws kk lo hi, c ∈ fitL ws kk lo' hi' := fun c hc => by
    obtain ⟨h5, h6⟩ := fitL_bl q2 hkk hc
    exact mem_fitL q2 h5 (fitB_mono hlo2 hhi2 h6)
  rw [a1, a2, b1, b2, c1, c2, d1, d2, z1, z2]
  have hx5 := hux.mono ((((e8.trans e9).trans e10).trans e11).trans e12)
  have hy5 := huy.mono (((e9.trans e10).trans e11).trans e12)
  have hub5 := hub6.mono E12
  have G12 := ((((G3.trans e4).trans e5).trans e6).trans E12)
  -- what the two nearest ones are
  obtain ⟨ex, ey, X, Y, h1x, h1y, h2x, h2y, h3x, h3y, hxy⟩ : ∃ (ex ey : Bool) (X Y : List Nat), decide (nrE (ci ws) lo hi (ci b) = 0) = ex ∧ decide (nrE (ci ws) lo' hi' (ci b) = 0) = ey ∧ decide ((0 : Int) < ((fitL ws kk lo hi).length : Int)) = ex ∧ decide ((0 : Int) < ((fitL ws kk lo' hi').length : Int)) = ey ∧
      IN m12 ux X ∧ IN m12 uy Y ∧ (ex = true → ey = true ∧ Bl ws.length kk X ∧ Bl ws.length kk Y ∧ awayN Y b ≤ awayN X b) := by
    by_cases h7 : fitL ws kk lo hi = []
    · obtain ⟨r1, r2⟩ := nx1 h7
      rw [r2] at hx5
      by_cases h8 : fitL ws kk lo' hi' = []
      · obtain ⟨r3, r4⟩ := ny1 h8
        rw [r4] at hy5
        exact ⟨false, false, [], [], by rw [r1]; rfl, by rw [r3]; rfl, by rw [h7]; rfl, by rw [h8]; rfl, hx5, hy5, fun h => by cases h⟩
      · obtain ⟨r3, r4, _⟩ := ny2 h8
        rw [r4] at hy5
        have h9 := List.length_pos_iff.2 h8
        exact ⟨false, true, [], _, by rw [r1]; rfl, by rw [r3]; rfl, by rw [h7]; rfl, decide_eq_true (by omega), hx5, hy5, fun h => by cases h⟩
    · obtain ⟨r1, r2, r5, r6⟩ := nx2 h7
      rw [r2] at hx5
      have h8 : fitL ws kk lo' hi' ≠ [] := fun h => by
        obtain ⟨c, hc⟩ := List.exists_mem_of_ne_nil _ h7
        have := hsub c hc
        rw [h] at this
        cases this
      obtain ⟨r3, r4, r7, r8⟩ := ny2 h8
      rw [r4] at hy5
      have h9 := List.length_pos_iff.2 h8
      have h10 := List.length_pos_iff.2 h7
      exact ⟨true, true, _, _, by rw [r1]; rfl, by rw [r3]; rfl, decide_eq_true (by omega), decide_eq_true (by omega), hx5, hy5, fun _ => ⟨rfl, (fitL_bl q2 hkk r5).1, (fitL_bl q2 hkk r7).1, r8 _ (hsub _ r5)⟩⟩
  have d0 : decide ((0 : Int) = 0) = true := by decide
  have d4 : decide (((fitL ws kk lo' hi').length : Int) < ((fitL ws kk lo hi).length : Int)) = false := decide_eq_false (by omega)
  have s10 : ∀ K : Value → Option Unit, oInt .add .i64 (.int .i64 ((fitL ws kk (-(9 + 1)) (lo - 1)).length : Int)) (.int .i64 ((fitL ws kk lo hi).length : Int)) K = K (.int .i64 (((fitL ws kk (-(9 + 1)) (lo - 1)).length + (fitL ws kk lo hi).length : Nat) : Int)) := fun K => oInt_addN (by omega) K
  have s11 : ∀ K : Value → Option Unit, oInt .add .i64 (.int .i64 (((fitL ws kk (-(9 + 1)) (lo - 1)).length + (fitL ws kk lo hi).length : Nat) : Int)) (.int .i64 ((fitL ws kk (hi + 1) 600).length : Int)) K = K (.int .i64 (((fitL ws kk (-(9 + 1)) (lo - 1)).length + (fitL ws kk lo hi).length + (fitL ws kk (hi + 1) 600).length : Nat) : Int)) := fun K => oInt_addN (by omega) K
  have d5 : decide ((((fitL ws kk (-(9 + 1)) (lo - 1)).length + (fitL ws kk lo hi).length + (fitL ws kk (hi + 1) 600).length : Nat) : Int) = (chs ws.length kk : Int)) = true := decide_eq_true (by omega)
  have bx : ∀ c : Bool, abin Try.prog .neq 4 (.bool c) (.bool c) = some (.bool false) := fun c => by rw [bn4]; cases c <;> rfl
  try simp (maxSteps := 4000000) (disch := first | omega | with_unfolding_all exact id rfl | with_unfolding_all exact Nat.le_of_ble_eq_true rfl | (simp only [Jd, Je, Jr, Js, Jt, Nat.reduceAdd, allOne, oneCell, Bool.and_self, Jc]; first | done | omega)) only [d0, d4, s10, s11, d5, h1x, h1y, h2x, h2y, bx, ↓Qa, ↓Qb, Qd, Qe, Qf, Qg, Qh, Qi, Qj, Qk, Ql, Qm, Qn, Qo, Qp, Qq, Qr, Qs, Qt, Qu, Qv, Qw, Qx, Qy, ptrTo, Qz, QA, QB, QC, QD, QE, QF, QG, QH, QI, QJ, QK, QL, QM, QN, QO, QP, QQ, QR, QS, QT, QU, QV, QW, QX, QY, QZ, Ja, Jb, Jc, Jd, Je, Jf, Jg, Jh, Ji, Jj, Jk, Jl, Jm, Jn, Jo, Jp, Jq, Jr, Js, Jt, Nat.reduceAdd]
  repeat (rw [join_e]; try simp (maxSteps := 4000000) (disch := first | omega | with_unfolding_all exact id rfl | with_unfolding_all exact Nat.le_of_ble_eq_true rfl | (simp only [Jd, Je, Jr, Js, Jt, Nat.reduceAdd, allOne, oneCell, Bool.and_self, Jc]; first | done | omega)) only [d0, d4, s10, s11, d5, h1x, h1y, h2x, h2y, bx, ↓Qa, ↓Qb, Qd, Qe, Qf, Qg, Qh, Qi, Qj, Qk, Ql, Qm, Qn, Qo, Qp, Qq, Qr, Qs, Qt, Qu, Qv, Qw, Qx, Qy, ptrTo, Qz, QA, QB, QC, QD, QE, QF, QG, QH, QI, QJ, QK, QL, QM, QN, QO, QP, QQ, QR, QS, QT, QU, QV, QW, QX, QY, QZ, Ja, Jb, Jc, Jd, Je, Jf, Jg, Jh, Ji, Jj, Jk, Jl, Jm, Jn, Jo, Jp, Jq, Jr, Js, Jt, Nat.reduceAdd])
  have hTf := hT.mono G12
  cases ex with
  | false =>
    try simp (maxSteps := 4000000) (disch := first | omega | with_unfolding_all exact id rfl | with_unfolding_all exact Nat.le_of_ble_eq_true rfl | (simp only [Jd, Je, Jr, Js, Jt, Nat.reduceAdd, allOne, oneCell, Bool.and_self, Jc]; first | done | omega)) only [Bool.not_false, ↓Qa, ↓Qb, Qd, Qe, Qf, Qg, Qh, Qi, Qj, Qk, Ql, Qm, Qn, Qo, Qp, Qq, Qr, Qs, Qt, Qu, Qv, Qw, Qx, Qy, ptrTo, Qz, QA, QB, QC, QD, QE, QF, QG, QH, QI, QJ, QK, QL, QM, QN, QO, QP, QQ, QR, QS, QT, QU, QV, QW, QX, QY, QZ, Ja, Jb, Jc, Jd, Je, Jf, Jg, Jh, Ji, Jj, Jk, Jl, Jm, Jn, Jo, Jp, Jq, Jr, Js, Jt, Nat.reduceAdd]
    repeat (rw [join_e]; try simp (maxSteps := 4000000) (disch := first | omega | with_unfolding_all exact id rfl | with_unfolding_all exact Nat.le_of_ble_eq_true rfl | (simp only [Jd, Je, Jr, Js, Jt, Nat.reduceAdd, allOne, oneCell, Bool.and_self, Jc]; first | done | omega)) only [Bool.not_false, ↓Qa, ↓Qb, Qd, Qe, Qf, Qg, Qh, Qi, Qj, Qk, Ql, Qm, Qn, Qo, Qp, Qq, Qr, Qs, Qt, Qu, Qv, Qw, Qx, Qy, ptrTo, Qz, QA, QB, QC, QD, QE, QF, QG, QH, QI, QJ, QK, QL, QM, QN, QO, QP, QQ, QR, QS, QT, QU, QV, QW, QX, QY, QZ, Ja, Jb, Jc, Jd, Je, Jf, Jg, Jh, Ji, Jj, Jk, Jl, Jm, Jn, Jo, Jp, Jq, Jr, Js, Jt, Nat.reduceAdd])
    refine works_sp hTf ?_
    try simp (maxSteps := 4000000) (disch := first | omega | with_unfolding_all exact id rfl | with_unfolding_all exact Nat.le_of_ble_eq_true rfl | (simp only [Jd, Je, Jr, Js, Jt, Nat.reduceAdd, allOne, oneCell, Bool.and_self, Jc]; first | done | omega)) only [Bool.not_false, ↓Qa, ↓Qb, Qd, Qe, Qf, Qg, Qh, Qi, Qj, Qk, Ql, Qm, Qn, Qo, Qp, Qq, Qr, Qs, Qt, Qu, Qv, Qw, Qx, Qy, ptrTo, Qz, QA, QB, QC, QD, QE, QF, QG, QH, QI, QJ, QK, QL, QM, QN, QO, QP, QQ, QR, QS, QT, QU, QV, QW, QX, QY, QZ, Ja, Jb, Jc, Jd, Je, Jf, Jg, Jh, Ji, Jj, Jk, Jl, Jm, Jn, Jo, Jp, Jq, Jr, Js, Jt, Nat.reduceAdd]
    repeat (rw [join_e]; try simp (maxSteps := 4000000) (disch := first | omega | with_unfolding_all exact id rfl | with_unfolding_all exact Nat.le_of_ble_eq_true rfl | (simp only [Jd, Je, Jr, Js, Jt, Nat.reduceAdd, allOne, oneCell, Bool.and_self, Jc]; first | done | omega)) only [Bool.not_false, ↓Qa, ↓Qb, Qd, Qe, Qf, Qg, Qh, Qi, Qj, Qk, Ql, Qm, Qn, Qo, Qp, Qq, Qr, Qs, Qt, Qu, Qv, Qw, Qx, Qy, ptrTo, Qz, QA, QB, QC, QD, QE, QF, QG, QH, QI, QJ, QK, QL, QM, QN, QO, QP, QQ, QR, QS, QT, QU, QV, QW, QX, QY, QZ, Ja, Jb, Jc, Jd, Je, Jf, Jg, Jh, Ji, Jj, Jk, Jl, Jm, Jn, Jo, Jp, Jq, Jr, Js, Jt, Nat.reduceAdd])
    exact hk _ G12
  | true =>
    obtain ⟨rfl, r1, r2, r3⟩ := hxy rfl
    have e1 : decide ((X.length : Int) = (kk : Int)) = true := decide_eq_true (by rw [r1.len])
    have e2 : decide ((Y.length : Int) = (kk : Int)) = true := decide_eq_true (by rw [r2.len])
    have e3 : decide ((awayN Y b : Int) ≤ (awayN X b : Int)) = true := decide_eq_true (by omega)
    have l1 := r1.len
    have l2 := r2.len
    try simp (maxSteps := 4000000) (disch := first | omega | with_unfolding_all exact id rfl | with_unfolding_all exact Nat.le_of_ble_eq_true rfl | (simp only [Jd, Je, Jr, Js, Jt, Nat.reduceAdd, allOne, oneCell, Bool.and_self, Jc]; first | done | omega)) only [Bool.not_true, h3x.ln, e1, ↓Qa, ↓Qb, Qd, Qe, Qf, Qg, Qh, Qi, Qj, Qk, Ql, Qm, Qn, Qo, Qp, Qq, Qr, Qs, Qt, Qu, Qv, Qw, Qx, Qy, ptrTo, Qz, QA, QB, QC, QD, QE, QF, QG, QH, QI, QJ, QK, QL, QM, QN, QO, QP, QQ, QR, QS, QT, QU, QV, QW, QX, QY, QZ, Ja, Jb, Jc, Jd, Je, Jf, Jg, Jh, Ji, Jj, Jk, Jl, Jm, Jn, Jo, Jp, Jq, Jr, Js, Jt, Nat.reduceAdd]
    repeat (rw [join_e]; try simp (maxSteps := 4000000) (disch := first | omega | with_unfolding_all exact id rfl | with_unfolding_all exact Nat.le_of_ble_eq_true rfl | (simp only [Jd, Je, Jr, Js, Jt, Nat.reduceAdd, allOne, oneCell, Bool.and_self, Jc]; first | done | omega)) only [Bool.not_true, h3y.ln, e1, e2, ↓Qa, ↓Qb, Qd, Qe, Qf, Qg, Qh, Qi, Qj, Qk, Ql, Qm, Qn, Qo, Qp, Qq, Qr, Qs, Qt, Qu, Qv, Qw, Qx, Qy, ptrTo, Qz, QA, QB, QC, QD, QE, QF, QG, QH, QI, QJ, QK, QL, QM, QN, QO, QP, QQ, QR, QS, QT, QU, QV, QW, QX, QY, QZ, Ja, Jb, Jc, Jd, Je, Jf, Jg, Jh, Ji, Jj, Jk, Jl, Jm, Jn, Jo, Jp, Jq, Jr, Js, Jt, Nat.reduceAdd])
    refine apart_sp hlf h3y hub5 (by omega) (by omega) ?_
    refine apart_sp hlf h3x hub5 (by omega) (by omega) ?_
    try simp (maxSteps := 4000000) (disch := first | omega | with_unfolding_all exact id rfl | with_unfolding_all exact Nat.le_of_ble_eq_true rfl | (simp only [Jd, Je, Jr, Js, Jt, Nat.reduceAdd, allOne, oneCell, Bool.and_self, Jc]; first | done | omega)) only [e3, ↓Qa, ↓Qb, Qd, Qe, Qf, Qg, Qh, Qi, Qj, Qk, Ql, Qm, Qn, Qo, Qp, Qq, Qr, Qs, Qt, Qu, Qv, Qw, Qx, Qy, ptrTo, Qz, QA, QB, QC, QD, QE, QF, QG, QH, QI, QJ, QK, QL, QM, QN, QO, QP, QQ, QR, QS, QT, QU, QV, QW, QX, QY, QZ, Ja, Jb, Jc, Jd, Je, Jf, Jg, Jh, Ji, Jj, Jk, Jl, Jm, Jn, Jo, Jp, Jq, Jr, Js, Jt, Nat.reduceAdd]
    repeat (rw [join_e]; try simp (maxSteps := 4000000) (disch := first | omega | with_unfolding_all exact id rfl | with_unfolding_all exact Nat.le_of_ble_eq_true rfl | (simp only [Jd, Je, Jr, Js, Jt, Nat.reduceAdd, allOne, oneCell, Bool.and_self, Jc]; first | done | omega)) only [e3, Bool.not_true, ↓Qa, ↓Qb, Qd, Qe, Qf, Qg, Qh, Qi, Qj, Qk, Ql, Qm, Qn, Qo, Qp, Qq, Qr, Qs, Qt, Qu, Qv, Qw, Qx, Qy, ptrTo, Qz, QA, QB, QC, QD, QE, QF, QG, QH, QI, QJ, QK, QL, QM, QN, QO, QP, QQ, QR, QS, QT, QU, QV, QW, QX, QY, QZ, Ja, Jb, Jc, Jd, Je, Jf, Jg, Jh, Ji, Jj, Jk, Jl, Jm, Jn, Jo, Jp, Jq, Jr, Js, Jt, Nat.reduceAdd])
    refine works_sp hTf ?_
    try simp (maxSteps := 4000000) (disch := first | omega | with_unfolding_all exact id rfl | with_unfolding_all exact Nat.le_of_ble_eq_true rfl | (simp only [Jd, Je, Jr, Js, Jt, Nat.reduceAdd, allOne, oneCell, Bool.and_self, Jc]; first | done | omega)) only [Bool.not_true, ↓Qa, ↓Qb, Qd, Qe, Qf, Qg, Qh, Qi, Qj, Qk, Ql, Qm, Qn, Qo, Qp, Qq, Qr, Qs, Qt, Qu, Qv, Qw, Qx, Qy, ptrTo, Qz, QA, QB, QC, QD, QE, QF, QG, QH, QI, QJ, QK, QL, QM, QN, QO, QP, QQ, QR, QS, QT, QU, QV, QW, QX, QY, QZ, Ja, Jb, Jc, Jd, Je, Jf, Jg, Jh, Ji, Jj, Jk, Jl, Jm, Jn, Jo, Jp, Jq, Jr, Js, Jt, Nat.reduceAdd]
    repeat (rw [join_e]; try simp (maxSteps := 4000000) (disch := first | omega | with_unfolding_all exact id rfl | with_unfolding_all exact Nat.le_of_ble_eq_true rfl | (simp only [Jd, Je, Jr, Js, Jt, Nat.reduceAdd, allOne, oneCell, Bool.and_self, Jc]; first | done | omega)) only [Bool.not_true, ↓Qa, ↓Qb, Qd, Qe, Qf, Qg, Qh, Qi, Qj, Qk, Ql, Qm, Qn, Qo, Qp, Qq, Qr, Qs, Qt, Qu, Qv, Qw, Qx, Qy, ptrTo, Qz, QA, QB, QC, QD, QE, QF, QG, QH, QI, QJ, QK, QL, QM, QN, QO, QP, QQ, QR, QS, QT, QU, QV, QW, QX, QY, QZ, Ja, Jb, Jc, Jd, Je, Jf, Jg, Jh, Ji, Jj, Jk, Jl, Jm, Jn, Jo, Jp, Jq, Jr, Js, Jt, Nat.reduceAdd])
    exact hk _ G12
end
end Go.Vit
