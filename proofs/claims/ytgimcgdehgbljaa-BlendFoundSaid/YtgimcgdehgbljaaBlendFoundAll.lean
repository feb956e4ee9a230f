/- The law BlendFound: its walk. -/
import Derived.Test.YtgimcgdehgbljaaWC
set_option linter.unusedSimpArgs false
set_option linter.unusedVariables false
set_option maxRecDepth 20000
namespace Go.Vit
open Go Go.Proofs
attribute [local irreducible] runT loopS
theorem cel_new {L : Nat} {m : Mem} {v0 v : Value} {K : Value → Mem → Option Unit} (hL : L ≤ m.next) (hv : v.cells.toList = [v]) (ho : oneCell v = true)
    (hk : ∀ m', Gt m m' → Cel m' m.next v → m'.next = m.next + 1 → K (.pointer (some ⟨m.next, 0, none⟩)) m' = some ()) :
    (oRes (anew m 1 [v0] ptrTo) fun t m1 => oRes (st1 1 L m1 t v) fun _ m2 => K t m2) = some () := by
  rw [anew_eq, oRes_e]
  unfold ptrTo
  have h0 : Cel (m.push ⟨1, [v0], none⟩) m.next v0 := Mem.rd_push _ _
  rw [st_set h0 Nat.zero_lt_one hL hv ho, oRes_e]
  exact hk _ (Mem.put_gt (Mem.gt_push _ _) _ (Nat.le_refl _)) (Mem.rd_put_eq _ _ (Mem.rd_lt h0)) rfl
section
variable {lf n L : Nat} {m : Mem} {k : Value → Mem → Option Unit}
set_option maxHeartbeats 8000000 in
theorem found_sp {a c d x1 x3 : Nat} {wl bl : List Nat} (hlf : 1000000 ≤ lf) (hT : TabOk mTab m) (hL : L ≤ m.next) (ha : a < 256) (hwl : wl.length = 10) (hwg : ∀ g ∈ wl, g < 256) (hc : c < 65536) (hd : d < 256) (h1 : x1 < 256) (hbl : bl.length = 10) (hbg : ∀ g ∈ bl, g < 256) (h3 : x3 < 256)
    (hk : ∀ m', Gt m m' → k (.bool true) m' = some ()) : runT (tab lf) (n + 11) 13 [mixV a wl c d, .int .u8 (x1 : Int), bytes bl, .int .u8 (x3 : Int)] L m k = some () := by
  rw [r13]
  dsimp only [S13, iofNat, inegSucc]
  have cb : (bl.map fun (g : Nat) => Value.int .u8 (g : Int)).length = 10 := by rw [List.length_map, hbl]
  rw [uc_e, uc_e, uc_e, uc_e, un0_e, abox_e, oRes_e, cells_agg, abox_e, oRes_e, cells_agg]
  have g1 := Mem.gt_push m ⟨1, mixC a wl c d, none⟩
  have hA := At.push m (mixC a wl c d)
  have n1 : (m.push ⟨1, mixC a wl c d, none⟩).next = m.next + 1 := Mem.push_next _ _
  generalize m.push ⟨1, mixC a wl c d, none⟩ = m1 at g1 hA n1 ⊢
  have g2 := Mem.gt_push m1 ⟨1, bl.map fun (g : Nat) => .int .u8 (g : Int), none⟩
  have hB : At (m1.push ⟨1, bl.map fun (g : Nat) => .int .u8 (g : Int), none⟩) m1.next _ := At.push m1 (bl.map fun (g : Nat) => .int .u8 (g : Int))
  have n2 : (m1.push ⟨1, bl.map fun (g : Nat) => .int .u8 (g : Int), none⟩).next = m1.next + 1 := Mem.push_next _ _
  generalize m1.push ⟨1, bl.map fun (g : Nat) => .int .u8 (g : Int), none⟩ = m2 at g2 hB n2 ⊢
  have hA2 := hA.mono g2
  have G2 := g1.trans g2
  simp only [ptrTo]
  rw [ldN_u, hA2.rd, rdn_all (mix_len hwl), oOpt_e, show (9 : Int) = ((9 : Nat) : Int) from rfl]
  refine made_sp hlf (by omega) ha hwl hwg hc hd (by omega) (by omega) fun wv m3 ws lo hi e3 hw q1 q2 q3 q4 q5 q6 => ?_
  have G3 := G2.trans e3
  have n3 := e3.next
  have q10 : ws.length ≤ 10 := by omega
  refine box3 hw (by omega) fun m4 e4 hR n4 => ?_
  have hw4 := hw.mono e4
  have hB4 := (hB.mono e3).mono e4
  have c0 : (rcC wv lo hi)[0]? = some wv := rfl
  have c1' : (1 : Int) = ((1 : Nat) : Int) := rfl
  have c11 : (11 : Int) = ((11 : Nat) : Int) := rfl
  rw [fa_e, oOpt_e, ld1_u, hR.rd, rdo_e, show 0 + 0 = 0 from rfl, c0, oOpt_e, hw4.ln, oOpt_e, oCv_nat (by omega), c1', oInt_addN (by omega), oInt_remN (by omega), ldN_u, hB4.rd, rdn_all cb, oOpt_e]
  have hkk : x1 % (ws.length + 1) ≤ ws.length := by have := Nat.mod_lt x1 (show 0 < ws.length + 1 by omega); omega
  generalize x1 % (ws.length + 1) = kk at hkk ⊢
  refine chosen_sp hlf (by omega) hbl hbg q1 q10 hkk fun ub m5 b e5 hub hb => ?_
  have n5 := e5.next
  have e35 := e4.trans e5
  have G5 := G3.trans e35
  have hbl' := hb.len
  obtain ⟨pu, cu, eu⟩ := hub.ex
  refine cel_new (by omega) (by rw [eu]; rfl) (by rw [eu]; rfl) fun m6 e6 cB n6 => ?_
  rw [oCv_nat (by omega), c11, oInt_remN (by omega)]
  have hj10 : x3 % 11 ≤ 10 := by omega
  generalize x3 % 11 = j at hj10 ⊢
  refine cel_new (by omega) rfl rfl fun m7 e7 cJ n7 => ?_
  rw [anew_eq, oRes_e]
  have g8 := Mem.gt_push m7 ⟨1, [.slice none 0 0], none⟩
  have b8 : Cel (m7.push ⟨1, [.slice none 0 0], none⟩) m7.next (.slice none 0 0) := Mem.rd_push _ _
  have n8 : (m7.push ⟨1, [.slice none 0 0], none⟩).next = m7.next + 1 := Mem.push_next _ _
  generalize m7.push ⟨1, [.slice none 0 0], none⟩ = m8 at g8 b8 n8 ⊢
  rw [anew_eq, oRes_e]
  have g9 := Mem.gt_push m8 ⟨1, [.int .i64 0], none⟩
  have f9 : Cel (m8.push ⟨1, [.int .i64 0], none⟩) m8.next (.int .i64 0) := Mem.rd_push _ _
  have n9 : (m8.push ⟨1, [.int .i64 0], none⟩).next = m8.next + 1 := Mem.push_next _ _
  generalize m8.push ⟨1, [.int .i64 0], none⟩ = m9 at g9 f9 n9 ⊢
  rw [anew_eq, oRes_e]
  have g10 := Mem.gt_push m9 ⟨1, [.int .i64 0], none⟩
  have k10 : Cel (m9.push ⟨1, [.int .i64 0], none⟩) m9.next (.int .i64 0) := Mem.rd_push _ _
  have n10 : (m9.push ⟨1, [.int .i64 0], none⟩).next = m9.next + 1 := Mem.push_next _ _
  have f10 : Cel (m9.push ⟨1, [.int .i64 0], none⟩) m8.next (.int .i64 0) := (g10.kept _ (by omega)).trans f9
  generalize m9.push ⟨1, [.int .i64 0], none⟩ = m10 at g10 k10 n10 f10 ⊢
  simp only [ptrTo]
  rw [st_int f10 Nat.zero_lt_one (by omega), oRes_e]
  have f11 : Cel (m10.put m8.next (some ⟨1, [Value.int .i64 0].set 0 (.int .i64 100), none⟩)) m8.next (.int .i64 100) := Mem.rd_put_eq _ _ (by omega)
  have r11 : ∀ x, x ≠ m8.next → (m10.put m8.next (some ⟨1, [Value.int .i64 0].set 0 (.int .i64 100), none⟩)).rd x = m10.rd x := fun x hx => Mem.rd_put _ _ _ _ (Ne.symm hx)
  have n11 : (m10.put m8.next (some ⟨1, [Value.int .i64 0].set 0 (.int .i64 100), none⟩)).next = m10.next := rfl
  generalize m10.put m8.next (some ⟨1, [Value.int .i64 0].set 0 (.int .i64 100), none⟩) = m11 at f11 r11 n11 ⊢
  have k11 : Cel m11 m9.next _ := (r11 _ (by omega)).trans k10
  rw [st_int k11 Nat.zero_lt_one (by omega), oRes_e]
  have k12 : Cel (m11.put m9.next (some ⟨1, [Value.int .i64 0].set 0 (.int .i64 0), none⟩)) m9.next (.int .i64 0) := Mem.rd_put_eq _ _ (by omega)
  have r12 : ∀ x, x ≠ m9.next → (m11.put m9.next (some ⟨1, [Value.int .i64 0].set 0 (.int .i64 0), none⟩)).rd x = m11.rd x := fun x hx => Mem.rd_put _ _ _ _ (Ne.symm hx)
  have n12 : (m11.put m9.next (some ⟨1, [Value.int .i64 0].set 0 (.int .i64 0), none⟩)).next = m11.next := rfl
  generalize m11.put m9.next (some ⟨1, [Value.int .i64 0].set 0 (.int .i64 0), none⟩) = m12 at k12 r12 n12 ⊢
  have e712 : Gt m7 m12 := ⟨by omega, fun x hx => (r12 x (by omega)).trans ((r11 x (by omega)).trans ((g10.kept x (by omega)).trans ((g9.kept x (by omega)).trans (g8.kept x hx))))⟩
  have b12 : Cel m12 m7.next _ := (r12 _ (by omega)).trans ((r11 _ (by omega)).trans ((g10.kept _ (by omega)).trans ((g9.kept _ (by omega)).trans b8)))
  have f12 : Cel m12 m8.next _ := (r12 _ (by omega)).trans f11
  rw [anew_eq, oRes_e]
  have g13 := Mem.gt_push m12 ⟨1, [.int .i64 0], none⟩
  have l13 : Cel (m12.push ⟨1, [.int .i64 0], none⟩) m12.next (.int .i64 0) := Mem.rd_push _ _
  have n13 : (m12.push ⟨1, [.int .i64 0], none⟩).next = m12.next + 1 := Mem.push_next _ _
  generalize m12.push ⟨1, [.int .i64 0], none⟩ = m13 at g13 l13 n13 ⊢
  rw [anew_eq, oRes_e]
  have g14 := Mem.gt_push m13 ⟨1, [.int .i64 0], none⟩
  have h14 : Cel (m13.push ⟨1, [.int .i64 0], none⟩) m13.next (.int .i64 0) := Mem.rd_push _ _
  have n14 : (m13.push ⟨1, [.int .i64 0], none⟩).next = m13.next + 1 := Mem.push_next _ _
  have l14 : Cel (m13.push ⟨1, [.int .i64 0], none⟩) m12.next (.int .i64 0) := (g14.kept _ (by omega)).trans l13
  generalize m13.push ⟨1, [.int .i64 0], none⟩ = m14 at g14 h14 n14 l14 ⊢
  simp only [ptrTo]
  rw [st_int l14 Nat.zero_lt_one (by omega), oRes_e]
  have l15 : Cel (m14.put m12.next (some ⟨1, [Value.int .i64 0].set 0 (.int .i64 1000), none⟩)) m12.next (.int .i64 1000) := Mem.rd_put_eq _ _ (by omega)
  have r15 : ∀ x, x ≠ m12.next → (m14.put m12.next (some ⟨1, [Value.int .i64 0].set 0 (.int .i64 1000), none⟩)).rd x = m14.rd x := fun x hx => Mem.rd_put _ _ _ _ (Ne.symm hx)
  have n15 : (m14.put m12.next (some ⟨1, [Value.int .i64 0].set 0 (.int .i64 1000), none⟩)).next = m14.next := rfl
  generalize m14.put m12.next (some ⟨1, [Value.int .i64 0].set 0 (.int .i64 1000), none⟩) = m15 at l15 r15 n15 ⊢
  have h15 : Cel m15 m13.next _ := (r15 _ (by omega)).trans h14
  rw [st_int h15 Nat.zero_lt_one (by omega), oRes_e]
  have h16 : Cel (m15.put m13.next (some ⟨1, [Value.int .i64 0].set 0 (.int .i64 (-(0 + 1))), none⟩)) m13.next (.int .i64 (-1)) := Mem.rd_put_eq _ _ (by omega)
  have r16 : ∀ x, x ≠ m13.next → (m15.put m13.next (some ⟨1, [Value.int .i64 0].set 0 (.int .i64 (-(0 + 1))), none⟩)).rd x = m15.rd x := fun x hx => Mem.rd_put _ _ _ _ (Ne.symm hx)
  have n16 : (m15.put m13.next (some ⟨1, [Value.int .i64 0].set 0 (.int .i64 (-(0 + 1))), none⟩)).next = m15.next := rfl
  generalize m15.put m13.next (some ⟨1, [Value.int .i64 0].set 0 (.int .i64 (-(0 + 1))), none⟩) = m16 at h16 r16 n16 ⊢
  have r1216 : ∀ x, x < m12.next → m16.rd x = m12.rd x := fun x hx => (r16 x (by omega)).trans ((r15 x (by omega)).trans ((g14.kept x (by omega)).trans (g13.kept x hx)))
  have e716 : Gt m7 m16 := ⟨by omega, fun x hx => (r1216 x (by omega)).trans (e712.kept x hx)⟩
  have e416 := (e5.trans (e6.trans e7)).trans e716
  have G16 := (G3.trans e4).trans e416
  have hR16 := hR.mono e416
  have hw16 := hw4.mono e416
  have hub16 := hub.mono ((e6.trans e7).trans e716)
  have cB16 : At m16 m5.next [ub] := ((e7.trans e716).kept _ (by omega)).trans cB
  have cJ16 : At m16 m6.next [.int .i64 (j : Int)] := (e716.kept _ (by omega)).trans cJ
  have hwb : ∀ x, bid wv = some x → x < m3.next := fun x hx => Sl.bid_lt hw (by rw [ci_length]; omega) x hx
  have hbb : 0 < b.length → ∀ x, bid ub = some x → x < m5.next := fun h0 x hx => Sl.bid_lt hub (by rw [ci_length]; omega) x hx
  have hJ0 : FJ (fun x => x = m12.next ∨ x = m13.next ∨ x = m9.next ∨ x = m8.next ∨ x = m7.next) ws b lo hi j m12.next m13.next m9.next m8.next m7.next [] m16 :=
    ⟨(r16 _ (by omega)).trans l15, h16, (r1216 _ (by omega)).trans k12, (r1216 _ (by omega)).trans f12, _, (r1216 _ (by omega)).trans b12, IL.nil _, fun x hx => by cases hx⟩
  have n3' := e3.next
  have n57 : m5.next + 2 = m7.next := by omega
  have n716 := e716.next
  refine blends_sp (X := fun x => x = m12.next ∨ x = m13.next ∨ x = m9.next ∨ x = m8.next ∨ x = m7.next) (J := FJ (fun x => x = m12.next ∨ x = m13.next ∨ x = m9.next ∨ x = m8.next ∨ x = m7.next) ws b lo hi j m12.next m13.next m9.next m8.next m7.next) hlf (by omega) q1 q2 (by rintro x (h | h | h | h | h) <;> omega) hJ0 ?_ ?_ ?_
  · rintro seen x y ⟨p1, p2, p3, p4, bv, p5, p6, p7⟩ e
    exact ⟨(e.kept _ (Mem.rd_lt p1)).trans p1, (e.kept _ (Mem.rd_lt p2)).trans p2, (e.kept _ (Mem.rd_lt p3)).trans p3, (e.kept _ (Mem.rd_lt p4)).trans p4, bv, (e.kept _ (Mem.rd_lt p5)).trans p5, p6.mono e, p7⟩
  · intro mm u cc seen K e hj hsl hseen hu hcc hux hK
    exact round56_sp hlf (by omega) (by omega) (by omega) (by omega) (by omega) (by omega) (by omega) (by omega) (fun x => Iff.rfl) (hR16.monoX e (by rintro (h | h | h | h | h) <;> omega)) (cB16.monoX e (by rintro (h | h | h | h | h) <;> omega)) (cJ16.monoX e (by rintro (h | h | h | h | h) <;> omega))
      (hw16.monoX e fun _ x hx => by have := hwb x hx; rintro (h | h | h | h | h) <;> omega) q3 q10 (fun x hx => by have := hwb x hx; rintro (h | h | h | h | h) <;> omega) (hub16.monoX e fun h0 x hx => by have := hbb h0 x hx; rintro (h | h | h | h | h) <;> omega) hb
      (fun h0 x hx => by have := hbb h0 x hx; rintro (h | h | h | h | h) <;> omega) hj hsl hseen hu hcc hux hK
  rintro m17 e17 ⟨p1, p2, p3, p4, bv, p5, p6, p7⟩
  have n17 := e17.next
  have G17 : Gt m m17 := e17.gt G16 (by rintro x (h | h | h | h | h) <;> omega)
  have hR17 : At m17 m3.next (rcC wv lo hi) := hR16.monoX e17 (by rintro (h | h | h | h | h) <;> omega)
  have cB17 : At m17 m5.next [ub] := cB16.monoX e17 (by rintro (h | h | h | h | h) <;> omega)
  have cJ17 : At m17 m6.next [.int .i64 (j : Int)] := cJ16.monoX e17 (by rintro (h | h | h | h | h) <;> omega)
  have hw17 : IN m17 wv ws := hw16.monoX e17 fun _ x hx => by have := hwb x hx; rintro (h | h | h | h | h) <;> omega
  have hub17 : IN m17 ub b := hub16.monoX e17 fun h0 x hx => by have := hbb h0 x hx; rintro (h | h | h | h | h) <;> omega
  clear hJ0 r1216 r16 r15 r12 r11
  have fR : ∀ mm, Gt m17 mm → rdn (mm.rd m3.next) 0 3 = some (rcp wv lo hi) := fun mm e => (rc_facts (hR17.mono e)).1
  have fR1 : ∀ mm, Gt m17 mm → rdo (mm.rd m3.next) 1 = some (.int .i64 lo) := fun mm e => (rc_facts (hR17.mono e)).2.2.1
  have fR2 : ∀ mm, Gt m17 mm → rdo (mm.rd m3.next) 2 = some (.int .i64 hi) := fun mm e => (rc_facts (hR17.mono e)).2.2.2
  have cel : ∀ {x : Nat} {v : Value}, Cel m17 x v → ∀ mm, Gt m17 mm → rdo (mm.rd x) 0 = some v := fun {x v} h mm e => by
    have : Cel mm x v := (e.kept _ (Mem.rd_lt h)).trans h
    rw [this]; rfl
  have fB : ∀ mm, Gt m17 mm → rdo (mm.rd m5.next) 0 = some ub := cel cB17
  have fJ : ∀ mm, Gt m17 mm → rdo (mm.rd m6.next) 0 = some (.int .i64 (j : Int)) := cel cJ17
  have dd : ∀ z : Int, decide (z = z) = true := fun z => decide_eq_true rfl
  obtain ⟨y1, y2⟩ := wgt_of (lo := lo) (hi := hi) q1 q10 q3 q5 hb
  obtain ⟨y5, y6⟩ := fit_of (lo := lo) (hi := hi) q1 q10 q3 q5 hkk
  try simp (maxSteps := 4000000) (disch := first | omega | with_unfolding_all exact id rfl | with_unfolding_all exact Nat.le_of_ble_eq_true rfl | (simp only [Jd, Je, Jr, Js, Jt, Nat.reduceAdd, allOne, oneCell, Bool.and_self, Jc]; first | done | omega)) only [↓Qa, ↓Qb, Qd, Qe, Qf, Qg, Qh, Qi, Qj, Qk, Ql, Qm, Qn, Qo, Qp, Qq, Qr, Qs, Qt, Qu, Qv, Qw, Qx, Qy, ptrTo, Qz, QA, QB, QC, QD, QE, QF, QG, QH, QI, QJ, QK, QL, QM, QN, QO, QP, QQ, QR, QS, QT, QU, QV, QW, QX, QY, QZ, Ja, Jb, Jc, Jd, Je, Jf, Jg, Jh, Ji, Jj, Jk, Jl, Jm, Jn, Jo, Jp, Jq, Jr, Js, Jt, Nat.reduceAdd]
  rw [fR _ (Gt.refl _), oOpt_e, fB _ (Gt.refl _), oOpt_e]
  refine weight32_sp hlf hw17 hub17 (by rw [ci_length]; omega) fun m18 e18 => ?_
  rw [y1, y2]
  have n18 := e18.next
  try simp (maxSteps := 4000000) (disch := first | omega | with_unfolding_all exact id rfl | with_unfolding_all exact Nat.le_of_ble_eq_true rfl | (simp only [Jd, Je, Jr, Js, Jt, Nat.reduceAdd, allOne, oneCell, Bool.and_self, Jc]; first | done | omega)) only [↓Qa, ↓Qb, Qd, Qe, Qf, Qg, Qh, Qi, Qj, Qk, Ql, Qm, Qn, Qo, Qp, Qq, Qr, Qs, Qt, Qu, Qv, Qw, Qx, Qy, ptrTo, Qz, QA, QB, QC, QD, QE, QF, QG, QH, QI, QJ, QK, QL, QM, QN, QO, QP, QQ, QR, QS, QT, QU, QV, QW, QX, QY, QZ, Ja, Jb, Jc, Jd, Je, Jf, Jg, Jh, Ji, Jj, Jk, Jl, Jm, Jn, Jo, Jp, Jq, Jr, Js, Jt, Nat.reduceAdd]
  rw [fR _ e18, oOpt_e]
  refine fits34_sp hlf (by omega) (hw17.mono e18) fun m19 e19 => ?_
  rw [y5, y6]
  have n19 := e19.next
  have E19 := e18.trans e19
  try simp (maxSteps := 4000000) (disch := first | omega | with_unfolding_all exact id rfl | with_unfolding_all exact Nat.le_of_ble_eq_true rfl | (simp only [Jd, Je, Jr, Js, Jt, Nat.reduceAdd, allOne, oneCell, Bool.and_self, Jc]; first | done | omega)) only [↓Qa, ↓Qb, Qd, Qe, Qf, Qg, Qh, Qi, Qj, Qk, Ql, Qm, Qn, Qo, Qp, Qq, Qr, Qs, Qt, Qu, Qv, Qw, Qx, Qy, ptrTo, Qz, QA, QB, QC, QD, QE, QF, QG, QH, QI, QJ, QK, QL, QM, QN, QO, QP, QQ, QR, QS, QT, QU, QV, QW, QX, QY, QZ, Ja, Jb, Jc, Jd, Je, Jf, Jg, Jh, Ji, Jj, Jk, Jl, Jm, Jn, Jo, Jp, Jq, Jr, Js, Jt, Nat.reduceAdd]
  rw [fR _ E19, oOpt_e, fB _ E19, oOpt_e]
  refine nearest38_sp hlf (by omega) (hw17.mono E19) (hub17.mono E19) (by rw [ci_length]; omega) fun ux m20 e20 hux => ?_
  have n20 := e20.next
  have E20 := E19.trans e20
  try simp (maxSteps := 4000000) (disch := first | omega | with_unfolding_all exact id rfl | with_unfolding_all exact Nat.le_of_ble_eq_true rfl | (simp only [Jd, Je, Jr, Js, Jt, Nat.reduceAdd, allOne, oneCell, Bool.and_self, Jc]; first | done | omega)) only [↓Qa, ↓Qb, Qd, Qe, Qf, Qg, Qh, Qi, Qj, Qk, Ql, Qm, Qn, Qo, Qp, Qq, Qr, Qs, Qt, Qu, Qv, Qw, Qx, Qy, ptrTo, Qz, QA, QB, QC, QD, QE, QF, QG, QH, QI, QJ, QK, QL, QM, QN, QO, QP, QQ, QR, QS, QT, QU, QV, QW, QX, QY, QZ, Ja, Jb, Jc, Jd, Je, Jf, Jg, Jh, Ji, Jj, Jk, Jl, Jm, Jn, Jo, Jp, Jq, Jr, Js, Jt, Nat.reduceAdd]
  rw [fR _ E20, oOpt_e, fB _ E20, oOpt_e, fJ _ E20, oOpt_e]
  refine reach40_sp hlf (by omega) (hw17.mono E20) (hub17.mono E20) (by rw [ci_length]; omega) (fun _ _ _ zl zh m21 e21 il ih => ?_) (fun _ _ _ h => absurd ⟨by omega, by omega⟩ h) (fun _ _ h => absurd y1 h)
  rw [nni_ci, nni_ci, ci_length, ci_length, Int.toNat_natCast, hbl'] at il ih
  have n21 := e21.next
  have E21 := E20.trans e21
  have hlz : (allH ws.length kk).foldl (lowS ws b j) 1000 = zl := (low_is q2 hb fun c hc => by have := wgt_le q3 c; have := hc.len; omega).uniq il
  have hhz : (allH ws.length kk).foldl (highS ws b j) (-1) = zh := (high_is q2 hb).uniq ih
  have hperm : (fitL ws kk lo hi).Perm ((allH ws.length kk).filter (fitB ws lo hi)) := by
    rw [fitL_rnd q10 hkk]; exact (allH_perm q2 hkk).filter _
  have hcnt := hperm.length_eq
  have hfl := fitL_len (ws := ws) (s := kk) (lo := lo) (hi := hi) q10
  rw [hlz] at p1
  rw [hhz] at p2
  rw [← hcnt] at p3
  try simp (maxSteps := 4000000) (disch := first | omega | with_unfolding_all exact id rfl | with_unfolding_all exact Nat.le_of_ble_eq_true rfl | (simp only [Jd, Je, Jr, Js, Jt, Nat.reduceAdd, allOne, oneCell, Bool.and_self, Jc]; first | done | omega)) only [dd, ↓Qa, ↓Qb, Qd, Qe, Qf, Qg, Qh, Qi, Qj, Qk, Ql, Qm, Qn, Qo, Qp, Qq, Qr, Qs, Qt, Qu, Qv, Qw, Qx, Qy, ptrTo, Qz, QA, QB, QC, QD, QE, QF, QG, QH, QI, QJ, QK, QL, QM, QN, QO, QP, QQ, QR, QS, QT, QU, QV, QW, QX, QY, QZ, Ja, Jb, Jc, Jd, Je, Jf, Jg, Jh, Ji, Jj, Jk, Jl, Jm, Jn, Jo, Jp, Jq, Jr, Js, Jt, Nat.reduceAdd]
  rw [join_e]
  try simp (maxSteps := 4000000) (disch := first | omega | with_unfolding_all exact id rfl | with_unfolding_all exact Nat.le_of_ble_eq_true rfl | (simp only [Jd, Je, Jr, Js, Jt, Nat.reduceAdd, allOne, oneCell, Bool.and_self, Jc]; first | done | omega)) only [dd, ↓Qa, ↓Qb, Qd, Qe, Qf, Qg, Qh, Qi, Qj, Qk, Ql, Qm, Qn, Qo, Qp, Qq, Qr, Qs, Qt, Qu, Qv, Qw, Qx, Qy, ptrTo, Qz, QA, QB, QC, QD, QE, QF, QG, QH, QI, QJ, QK, QL, QM, QN, QO, QP, QQ, QR, QS, QT, QU, QV, QW, QX, QY, QZ, Ja, Jb, Jc, Jd, Je, Jf, Jg, Jh, Ji, Jj, Jk, Jl, Jm, Jn, Jo, Jp, Jq, Jr, Js, Jt, Nat.reduceAdd]
  rw [fR _ E21, oOpt_e, fB _ E21, oOpt_e]
  refine weigh57_sp hlf (hw17.mono E21) q3 q10 (hub17.mono E21) hb fun m22 e22 => ?_
  have n22 := e22.next
  have E22 := E21.trans e22
  have G22 := G17.trans E22
  have k1 := cel p1 _ E22
  have k2 := cel p2 _ E22
  have k3 := cel p3 _ E22
  have k4 := cel p4 _ E22
  have k5 := cel p5 _ E22
  have k6 := fJ _ E22
  have k7 := fR1 _ E22
  have k8 := fR2 _ E22
  try simp (maxSteps := 4000000) (disch := first | omega | with_unfolding_all exact id rfl | with_unfolding_all exact Nat.le_of_ble_eq_true rfl | (simp only [Jd, Je, Jr, Js, Jt, Nat.reduceAdd, allOne, oneCell, Bool.and_self, Jc]; first | done | omega)) only [dd, k3, k1, k2, ↓Qa, ↓Qb, Qd, Qe, Qf, Qg, Qh, Qi, Qj, Qk, Ql, Qm, Qn, Qo, Qp, Qq, Qr, Qs, Qt, Qu, Qv, Qw, Qx, Qy, ptrTo, Qz, QA, QB, QC, QD, QE, QF, QG, QH, QI, QJ, QK, QL, QM, QN, QO, QP, QQ, QR, QS, QT, QU, QV, QW, QX, QY, QZ, Ja, Jb, Jc, Jd, Je, Jf, Jg, Jh, Ji, Jj, Jk, Jl, Jm, Jn, Jo, Jp, Jq, Jr, Js, Jt, Nat.reduceAdd]
  repeat (rw [join_e]; try simp (maxSteps := 4000000) (disch := first | omega | with_unfolding_all exact id rfl | with_unfolding_all exact Nat.le_of_ble_eq_true rfl | (simp only [Jd, Je, Jr, Js, Jt, Nat.reduceAdd, allOne, oneCell, Bool.and_self, Jc]; first | done | omega)) only [dd, k3, k1, k2, ↓Qa, ↓Qb, Qd, Qe, Qf, Qg, Qh, Qi, Qj, Qk, Ql, Qm, Qn, Qo, Qp, Qq, Qr, Qs, Qt, Qu, Qv, Qw, Qx, Qy, ptrTo, Qz, QA, QB, QC, QD, QE, QF, QG, QH, QI, QJ, QK, QL, QM, QN, QO, QP, QQ, QR, QS, QT, QU, QV, QW, QX, QY, QZ, Ja, Jb, Jc, Jd, Je, Jf, Jg, Jh, Ji, Jj, Jk, Jl, Jm, Jn, Jo, Jp, Jq, Jr, Js, Jt, Nat.reduceAdd])
  try simp (maxSteps := 4000000) (disch := first | omega | with_unfolding_all exact id rfl | with_unfolding_all exact Nat.le_of_ble_eq_true rfl | (simp only [Jd, Je, Jr, Js, Jt, Nat.reduceAdd, allOne, oneCell, Bool.and_self, Jc]; first | done | omega)) only [dd, k3, k1, k2, ↓Qa, ↓Qb, Qd, Qe, Qf, Qg, Qh, Qi, Qj, Qk, Ql, Qm, Qn, Qo, Qp, Qq, Qr, Qs, Qt, Qu, Qv, Qw, Qx, Qy, ptrTo, Qz, QA, QB, QC, QD, QE, QF, QG, QH, QI, QJ, QK, QL, QM, QN, QO, QP, QQ, QR, QS, QT, QU, QV, QW, QX, QY, QZ, Ja, Jb, Jc, Jd, Je, Jf, Jg, Jh, Ji, Jj, Jk, Jl, Jm, Jn, Jo, Jp, Jq, Jr, Js, Jt, Nat.reduceAdd]
  obtain ⟨nx1, nx2⟩ := nr_of (lo := lo) (hi := hi) q1 q10 q3 q5 hb
  have hux22 := (hux.mono e21).mono e22
  have hbv22 := p6.mono E22
  by_cases hf : fitL ws kk lo hi = []
  · obtain ⟨r1, r2⟩ := nx1 hf
    have dz : decide (((fitL ws kk lo hi).length : Int) = 0) = true := by rw [hf]; rfl
    rw [r2] at hux22
    have d12 : decide ((12 : Int) = 12) = true := by decide
    have hl0 := hux22.ln
    have dl : decide ((([] : List Nat).length : Int) = 0) = true := by decide
    rw [r1]
    try simp (maxSteps := 4000000) (disch := first | omega | with_unfolding_all exact id rfl | with_unfolding_all exact Nat.le_of_ble_eq_true rfl | (simp only [Jd, Je, Jr, Js, Jt, Nat.reduceAdd, allOne, oneCell, Bool.and_self, Jc]; first | done | omega)) only [dz, d12, hl0, dl, ↓Qa, ↓Qb, Qd, Qe, Qf, Qg, Qh, Qi, Qj, Qk, Ql, Qm, Qn, Qo, Qp, Qq, Qr, Qs, Qt, Qu, Qv, Qw, Qx, Qy, ptrTo, Qz, QA, QB, QC, QD, QE, QF, QG, QH, QI, QJ, QK, QL, QM, QN, QO, QP, QQ, QR, QS, QT, QU, QV, QW, QX, QY, QZ, Ja, Jb, Jc, Jd, Je, Jf, Jg, Jh, Ji, Jj, Jk, Jl, Jm, Jn, Jo, Jp, Jq, Jr, Js, Jt, Nat.reduceAdd]
    repeat (rw [join_e]; try simp (maxSteps := 4000000) (disch := first | omega | with_unfolding_all exact id rfl | with_unfolding_all exact Nat.le_of_ble_eq_true rfl | (simp only [Jd, Je, Jr, Js, Jt, Nat.reduceAdd, allOne, oneCell, Bool.and_self, Jc]; first | done | omega)) only [dz, d12, hl0, dl, ↓Qa, ↓Qb, Qd, Qe, Qf, Qg, Qh, Qi, Qj, Qk, Ql, Qm, Qn, Qo, Qp, Qq, Qr, Qs, Qt, Qu, Qv, Qw, Qx, Qy, ptrTo, Qz, QA, QB, QC, QD, QE, QF, QG, QH, QI, QJ, QK, QL, QM, QN, QO, QP, QQ, QR, QS, QT, QU, QV, QW, QX, QY, QZ, Ja, Jb, Jc, Jd, Je, Jf, Jg, Jh, Ji, Jj, Jk, Jl, Jm, Jn, Jo, Jp, Jq, Jr, Js, Jt, Nat.reduceAdd])
    try simp (maxSteps := 4000000) (disch := first | omega | with_unfolding_all exact id rfl | with_unfolding_all exact Nat.le_of_ble_eq_true rfl | (simp only [Jd, Je, Jr, Js, Jt, Nat.reduceAdd, allOne, oneCell, Bool.and_self, Jc]; first | done | omega)) only [dz, d12, hl0, dl, ↓Qa, ↓Qb, Qd, Qe, Qf, Qg, Qh, Qi, Qj, Qk, Ql, Qm, Qn, Qo, Qp, Qq, Qr, Qs, Qt, Qu, Qv, Qw, Qx, Qy, ptrTo, Qz, QA, QB, QC, QD, QE, QF, QG, QH, QI, QJ, QK, QL, QM, QN, QO, QP, QQ, QR, QS, QT, QU, QV, QW, QX, QY, QZ, Ja, Jb, Jc, Jd, Je, Jf, Jg, Jh, Ji, Jj, Jk, Jl, Jm, Jn, Jo, Jp, Jq, Jr, Js, Jt, Nat.reduceAdd]
    refine works_sp (hT.mono G22) ?_
    try simp (maxSteps := 4000000) (disch := first | omega | with_unfolding_all exact id rfl | with_unfolding_all exact Nat.le_of_ble_eq_true rfl | (simp only [Jd, Je, Jr, Js, Jt, Nat.reduceAdd, allOne, oneCell, Bool.and_self, Jc]; first | done | omega)) only [dz, ↓Qa, ↓Qb, Qd, Qe, Qf, Qg, Qh, Qi, Qj, Qk, Ql, Qm, Qn, Qo, Qp, Qq, Qr, Qs, Qt, Qu, Qv, Qw, Qx, Qy, ptrTo, Qz, QA, QB, QC, QD, QE, QF, QG, QH, QI, QJ, QK, QL, QM, QN, QO, QP, QQ, QR, QS, QT, QU, QV, QW, QX, QY, QZ, Ja, Jb, Jc, Jd, Je, Jf, Jg, Jh, Ji, Jj, Jk, Jl, Jm, Jn, Jo, Jp, Jq, Jr, Js, Jt, Nat.reduceAdd]
    repeat (rw [join_e]; try simp (maxSteps := 4000000) (disch := first | omega | with_unfolding_all exact id rfl | with_unfolding_all exact Nat.le_of_ble_eq_true rfl | (simp only [Jd, Je, Jr, Js, Jt, Nat.reduceAdd, allOne, oneCell, Bool.and_self, Jc]; first | done | omega)) only [dz, ↓Qa, ↓Qb, Qd, Qe, Qf, Qg, Qh, Qi, Qj, Qk, Ql, Qm, Qn, Qo, Qp, Qq, Qr, Qs, Qt, Qu, Qv, Qw, Qx, Qy, ptrTo, Qz, QA, QB, QC, QD, QE, QF, QG, QH, QI, QJ, QK, QL, QM, QN, QO, QP, QQ, QR, QS, QT, QU, QV, QW, QX, QY, QZ, Ja, Jb, Jc, Jd, Je, Jf, Jg, Jh, Ji, Jj, Jk, Jl, Jm, Jn, Jo, Jp, Jq, Jr, Js, Jt, Nat.reduceAdd])
    exact hk _ G22
  · obtain ⟨r1, r2, r5, r6⟩ := nx2 hf
    have hpos := List.length_pos_iff.2 hf
    have dz : decide (((fitL ws kk lo hi).length : Int) = 0) = false := decide_eq_false (by omega)
    have hne2 : (allH ws.length kk).filter (fitB ws lo hi) ≠ [] := fun h => by rw [h] at hcnt; simp at hcnt; exact hf hcnt
    have hbl3 : ∀ x ∈ (allH ws.length kk).filter (fitB ws lo hi), Bl ws.length kk x := fun x hx => (fitL_bl q10 hkk (hperm.mem_iff.2 hx)).1
    obtain ⟨s1, s2⟩ := start_bst (t := b) (l := (allH ws.length kk).filter (fitB ws lo hi)) (far := 100) (fun x hx => by have := (away_le (hbl3 x hx) hb).1; omega) hne2
    obtain ⟨s3, s4⟩ := start_bst (t := b) (l := fitL ws kk lo hi) (far := 11) (fun x hx => by have := (away_le (fitL_bl q10 hkk hx).1 hb).1; omega) hf
    have hbest : (nearF b (fitL ws kk lo hi)).1 = (fnd ws b lo hi (allH ws.length kk)).1 := Bst.uniq hperm s3 s1
    have hfar : (fnd ws b lo hi (allH ws.length kk)).2 = awayN (fnd ws b lo hi (allH ws.length kk)).1 b := s2
    rw [← hbest] at hfar hbv22
    rw [r2] at hux22
    obtain ⟨v1, v2⟩ := fitL_bl q10 hkk r5
    have v3 := v1.len
    have v4 : lo ≤ (wgt ws (nearF b (fitL ws kk lo hi)).1 : Int) ∧ (wgt ws (nearF b (fitL ws kk lo hi)).1 : Int) ≤ hi := of_decide_eq_true v2
    have v5 := il.2 _ v1
    have v6 := ih.2 _ v1
    have d0 : decide ((0 : Int) = 0) = true := by decide
    rw [r1]
    generalize (fnd ws b lo hi (allH ws.length kk)).2 = fr at k4 hfar
    try simp (maxSteps := 4000000) (disch := first | omega | with_unfolding_all exact id rfl | with_unfolding_all exact Nat.le_of_ble_eq_true rfl | (simp only [Jd, Je, Jr, Js, Jt, Nat.reduceAdd, allOne, oneCell, Bool.and_self, Jc]; first | done | omega)) only [dz, d0, k5, ↓Qa, ↓Qb, Qd, Qe, Qf, Qg, Qh, Qi, Qj, Qk, Ql, Qm, Qn, Qo, Qp, Qq, Qr, Qs, Qt, Qu, Qv, Qw, Qx, Qy, ptrTo, Qz, QA, QB, QC, QD, QE, QF, QG, QH, QI, QJ, QK, QL, QM, QN, QO, QP, QQ, QR, QS, QT, QU, QV, QW, QX, QY, QZ, Ja, Jb, Jc, Jd, Je, Jf, Jg, Jh, Ji, Jj, Jk, Jl, Jm, Jn, Jo, Jp, Jq, Jr, Js, Jt, Nat.reduceAdd]
    repeat (rw [join_e]; try simp (maxSteps := 4000000) (disch := first | omega | with_unfolding_all exact id rfl | with_unfolding_all exact Nat.le_of_ble_eq_true rfl | (simp only [Jd, Je, Jr, Js, Jt, Nat.reduceAdd, allOne, oneCell, Bool.and_self, Jc]; first | done | omega)) only [dz, d0, k5, ↓Qa, ↓Qb, Qd, Qe, Qf, Qg, Qh, Qi, Qj, Qk, Ql, Qm, Qn, Qo, Qp, Qq, Qr, Qs, Qt, Qu, Qv, Qw, Qx, Qy, ptrTo, Qz, QA, QB, QC, QD, QE, QF, QG, QH, QI, QJ, QK, QL, QM, QN, QO, QP, QQ, QR, QS, QT, QU, QV, QW, QX, QY, QZ, Ja, Jb, Jc, Jd, Je, Jf, Jg, Jh, Ji, Jj, Jk, Jl, Jm, Jn, Jo, Jp, Jq, Jr, Js, Jt, Nat.reduceAdd])
    try simp (maxSteps := 4000000) (disch := first | omega | with_unfolding_all exact id rfl | with_unfolding_all exact Nat.le_of_ble_eq_true rfl | (simp only [Jd, Je, Jr, Js, Jt, Nat.reduceAdd, allOne, oneCell, Bool.and_self, Jc]; first | done | omega)) only [dz, d0, k5, ↓Qa, ↓Qb, Qd, Qe, Qf, Qg, Qh, Qi, Qj, Qk, Ql, Qm, Qn, Qo, Qp, Qq, Qr, Qs, Qt, Qu, Qv, Qw, Qx, Qy, ptrTo, Qz, QA, QB, QC, QD, QE, QF, QG, QH, QI, QJ, QK, QL, QM, QN, QO, QP, QQ, QR, QS, QT, QU, QV, QW, QX, QY, QZ, Ja, Jb, Jc, Jd, Je, Jf, Jg, Jh, Ji, Jj, Jk, Jl, Jm, Jn, Jo, Jp, Jq, Jr, Js, Jt, Nat.reduceAdd]
    refine same_sp hlf hux22 hbv22 (by rw [ci_length]; omega) ?_
    rw [decide_eq_true rfl]
    by_cases hjf : j < fr
    · have d7 : decide ((j : Int) < (fr : Int)) = true := decide_eq_true (by omega)
      try simp (maxSteps := 4000000) (disch := first | omega | with_unfolding_all exact id rfl | with_unfolding_all exact Nat.le_of_ble_eq_true rfl | (simp only [Jd, Je, Jr, Js, Jt, Nat.reduceAdd, allOne, oneCell, Bool.and_self, Jc]; first | done | omega)) only [k4, k6, d7, ↓Qa, ↓Qb, Qd, Qe, Qf, Qg, Qh, Qi, Qj, Qk, Ql, Qm, Qn, Qo, Qp, Qq, Qr, Qs, Qt, Qu, Qv, Qw, Qx, Qy, ptrTo, Qz, QA, QB, QC, QD, QE, QF, QG, QH, QI, QJ, QK, QL, QM, QN, QO, QP, QQ, QR, QS, QT, QU, QV, QW, QX, QY, QZ, Ja, Jb, Jc, Jd, Je, Jf, Jg, Jh, Ji, Jj, Jk, Jl, Jm, Jn, Jo, Jp, Jq, Jr, Js, Jt, Nat.reduceAdd]
      repeat (rw [join_e]; try simp (maxSteps := 4000000) (disch := first | omega | with_unfolding_all exact id rfl | with_unfolding_all exact Nat.le_of_ble_eq_true rfl | (simp only [Jd, Je, Jr, Js, Jt, Nat.reduceAdd, allOne, oneCell, Bool.and_self, Jc]; first | done | omega)) only [k4, k6, d7, ↓Qa, ↓Qb, Qd, Qe, Qf, Qg, Qh, Qi, Qj, Qk, Ql, Qm, Qn, Qo, Qp, Qq, Qr, Qs, Qt, Qu, Qv, Qw, Qx, Qy, ptrTo, Qz, QA, QB, QC, QD, QE, QF, QG, QH, QI, QJ, QK, QL, QM, QN, QO, QP, QQ, QR, QS, QT, QU, QV, QW, QX, QY, QZ, Ja, Jb, Jc, Jd, Je, Jf, Jg, Jh, Ji, Jj, Jk, Jl, Jm, Jn, Jo, Jp, Jq, Jr, Js, Jt, Nat.reduceAdd])
      try simp (maxSteps := 4000000) (disch := first | omega | with_unfolding_all exact id rfl | with_unfolding_all exact Nat.le_of_ble_eq_true rfl | (simp only [Jd, Je, Jr, Js, Jt, Nat.reduceAdd, allOne, oneCell, Bool.and_self, Jc]; first | done | omega)) only [k4, k6, d7, ↓Qa, ↓Qb, Qd, Qe, Qf, Qg, Qh, Qi, Qj, Qk, Ql, Qm, Qn, Qo, Qp, Qq, Qr, Qs, Qt, Qu, Qv, Qw, Qx, Qy, ptrTo, Qz, QA, QB, QC, QD, QE, QF, QG, QH, QI, QJ, QK, QL, QM, QN, QO, QP, QQ, QR, QS, QT, QU, QV, QW, QX, QY, QZ, Ja, Jb, Jc, Jd, Je, Jf, Jg, Jh, Ji, Jj, Jk, Jl, Jm, Jn, Jo, Jp, Jq, Jr, Js, Jt, Nat.reduceAdd]
      refine works_sp (hT.mono G22) ?_
      try simp (maxSteps := 4000000) (disch := first | omega | with_unfolding_all exact id rfl | with_unfolding_all exact Nat.le_of_ble_eq_true rfl | (simp only [Jd, Je, Jr, Js, Jt, Nat.reduceAdd, allOne, oneCell, Bool.and_self, Jc]; first | done | omega)) only [dz, ↓Qa, ↓Qb, Qd, Qe, Qf, Qg, Qh, Qi, Qj, Qk, Ql, Qm, Qn, Qo, Qp, Qq, Qr, Qs, Qt, Qu, Qv, Qw, Qx, Qy, ptrTo, Qz, QA, QB, QC, QD, QE, QF, QG, QH, QI, QJ, QK, QL, QM, QN, QO, QP, QQ, QR, QS, QT, QU, QV, QW, QX, QY, QZ, Ja, Jb, Jc, Jd, Je, Jf, Jg, Jh, Ji, Jj, Jk, Jl, Jm, Jn, Jo, Jp, Jq, Jr, Js, Jt, Nat.reduceAdd]
      repeat (rw [join_e]; try simp (maxSteps := 4000000) (disch := first | omega | with_unfolding_all exact id rfl | with_unfolding_all exact Nat.le_of_ble_eq_true rfl | (simp only [Jd, Je, Jr, Js, Jt, Nat.reduceAdd, allOne, oneCell, Bool.and_self, Jc]; first | done | omega)) only [dz, ↓Qa, ↓Qb, Qd, Qe, Qf, Qg, Qh, Qi, Qj, Qk, Ql, Qm, Qn, Qo, Qp, Qq, Qr, Qs, Qt, Qu, Qv, Qw, Qx, Qy, ptrTo, Qz, QA, QB, QC, QD, QE, QF, QG, QH, QI, QJ, QK, QL, QM, QN, QO, QP, QQ, QR, QS, QT, QU, QV, QW, QX, QY, QZ, Ja, Jb, Jc, Jd, Je, Jf, Jg, Jh, Ji, Jj, Jk, Jl, Jm, Jn, Jo, Jp, Jq, Jr, Js, Jt, Nat.reduceAdd])
      exact hk _ G22
    · have d7 : decide ((j : Int) < (fr : Int)) = false := decide_eq_false (by omega)
      have v7 := v5 (by omega)
      have v8 := v6 (by omega)
      have d8 : decide (lo ≤ zh) = true := decide_eq_true (by omega)
      have d9 : decide (zl ≤ hi) = true := decide_eq_true (by omega)
      try simp (maxSteps := 4000000) (disch := first | omega | with_unfolding_all exact id rfl | with_unfolding_all exact Nat.le_of_ble_eq_true rfl | (simp only [Jd, Je, Jr, Js, Jt, Nat.reduceAdd, allOne, oneCell, Bool.and_self, Jc]; first | done | omega)) only [k4, k6, d7, k7, k8, d8, d9, ↓Qa, ↓Qb, Qd, Qe, Qf, Qg, Qh, Qi, Qj, Qk, Ql, Qm, Qn, Qo, Qp, Qq, Qr, Qs, Qt, Qu, Qv, Qw, Qx, Qy, ptrTo, Qz, QA, QB, QC, QD, QE, QF, QG, QH, QI, QJ, QK, QL, QM, QN, QO, QP, QQ, QR, QS, QT, QU, QV, QW, QX, QY, QZ, Ja, Jb, Jc, Jd, Je, Jf, Jg, Jh, Ji, Jj, Jk, Jl, Jm, Jn, Jo, Jp, Jq, Jr, Js, Jt, Nat.reduceAdd]
      repeat (rw [join_e]; try simp (maxSteps := 4000000) (disch := first | omega | with_unfolding_all exact id rfl | with_unfolding_all exact Nat.le_of_ble_eq_true rfl | (simp only [Jd, Je, Jr, Js, Jt, Nat.reduceAdd, allOne, oneCell, Bool.and_self, Jc]; first | done | omega)) only [k4, k6, d7, k7, k8, d8, d9, ↓Qa, ↓Qb, Qd, Qe, Qf, Qg, Qh, Qi, Qj, Qk, Ql, Qm, Qn, Qo, Qp, Qq, Qr, Qs, Qt, Qu, Qv, Qw, Qx, Qy, ptrTo, Qz, QA, QB, QC, QD, QE, QF, QG, QH, QI, QJ, QK, QL, QM, QN, QO, QP, QQ, QR, QS, QT, QU, QV, QW, QX, QY, QZ, Ja, Jb, Jc, Jd, Je, Jf, Jg, Jh, Ji, Jj, Jk, Jl, Jm, Jn, Jo, Jp, Jq, Jr, Js, Jt, Nat.reduceAdd])
      try simp (maxSteps := 4000000) (disch := first | omega | with_unfolding_all exact id rfl | with_unfolding_all exact Nat.le_of_ble_eq_true rfl | (simp only [Jd, Je, Jr, Js, Jt, Nat.reduceAdd, allOne, oneCell, Bool.and_self, Jc]; first | done | omega)) only [k4, k6, d7, k7, k8, d8, d9, ↓Qa, ↓Qb, Qd, Qe, Qf, Qg, Qh, Qi, Qj, Qk, Ql, Qm, Qn, Qo, Qp, Qq, Qr, Qs, Qt, Qu, Qv, Qw, Qx, Qy, ptrTo, Qz, QA, QB, QC, QD, QE, QF, QG, QH, QI, QJ, QK, QL, QM, QN, QO, QP, QQ, QR, QS, QT, QU, QV, QW, QX, QY, QZ, Ja, Jb, Jc, Jd, Je, Jf, Jg, Jh, Ji, Jj, Jk, Jl, Jm, Jn, Jo, Jp, Jq, Jr, Js, Jt, Nat.reduceAdd]
      refine works_sp (hT.mono G22) ?_
      try simp (maxSteps := 4000000) (disch := first | omega | with_unfolding_all exact id rfl | with_unfolding_all exact Nat.le_of_ble_eq_true rfl | (simp only [Jd, Je, Jr, Js, Jt, Nat.reduceAdd, allOne, oneCell, Bool.and_self, Jc]; first | done | omega)) only [dz, ↓Qa, ↓Qb, Qd, Qe, Qf, Qg, Qh, Qi, Qj, Qk, Ql, Qm, Qn, Qo, Qp, Qq, Qr, Qs, Qt, Qu, Qv, Qw, Qx, Qy, ptrTo, Qz, QA, QB, QC, QD, QE, QF, QG, QH, QI, QJ, QK, QL, QM, QN, QO, QP, QQ, QR, QS, QT, QU, QV, QW, QX, QY, QZ, Ja, Jb, Jc, Jd, Je, Jf, Jg, Jh, Ji, Jj, Jk, Jl, Jm, Jn, Jo, Jp, Jq, Jr, Js, Jt, Nat.reduceAdd]
      repeat (rw [join_e]; try simp (maxSteps := 4000000) (disch := first | omega | with_unfolding_all exact id rfl | with_unfolding_all exact Nat.le_of_ble_eq_true rfl | (simp only [Jd, Je, Jr, Js, Jt, Nat.reduceAdd, allOne, oneCell, Bool.and_self, Jc]; first | done | omega)) only [dz, ↓Qa, ↓Qb, Qd, Qe, Qf, Qg, Qh, Qi, Qj, Qk, Ql, Qm, Qn, Qo, Qp, Qq, Qr, Qs, Qt, Qu, Qv, Qw, Qx, Qy, ptrTo, Qz, QA, QB, QC, QD, QE, QF, QG, QH, QI, QJ, QK, QL, QM, QN, QO, QP, QQ, QR, QS, QT, QU, QV, QW, QX, QY, QZ, Ja, Jb, Jc, Jd, Je, Jf, Jg, Jh, Ji, Jj, Jk, Jl, Jm, Jn, Jo, Jp, Jq, Jr, Js, Jt, Nat.reduceAdd])
      exact hk _ G22
end
end Go.Vit
