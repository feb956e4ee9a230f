/- The law BlendNamed: its walk. -/
import Derived.Test.YtgimcgdehgbljaaWB
import Derived.Test.YtgimcgdehgbljaaBlendMoreAll
set_option linter.unusedSimpArgs false
set_option linter.unusedVariables false
set_option maxRecDepth 20000
namespace Go.Vit
open Go Go.Proofs
attribute [local irreducible] runT loopS
section
variable {lf n L : Nat} {m : Mem} {k : Value → Mem → Option Unit}
set_option maxHeartbeats 8000000 in
theorem named_sp {a c d x1 x5 : Nat} {wl l1 l2 ol : List Nat} (hlf : 1000000 ≤ lf) (hT : TabOk mTab m) (hL : L ≤ m.next) (ha : a < 256) (hwl : wl.length = 10) (hwg : ∀ g ∈ wl, g < 256) (hc : c < 65536) (hd : d < 256) (h1 : x1 < 256) (hl1 : l1.length = 10) (hg1 : ∀ g ∈ l1, g < 256) (hl2 : l2.length = 10) (hg2 : ∀ g ∈ l2, g < 256) (hol : ol.length = 10) (hog : ∀ g ∈ ol, g < 256) (h5 : x5 < 256)
    (hk : ∀ m', Gt m m' → k (.bool true) m' = some ()) : runT (tab lf) (n + 11) 12 [mixV a wl c d, .int .u8 (x1 : Int), bytes l1, bytes l2, bytes ol, .int .u8 (x5 : Int)] L m k = some () := by
  rw [r12]
  dsimp only [S12, iofNat, inegSucc]
  have cb1 : (l1.map fun (g : Nat) => Value.int .u8 (g : Int)).length = 10 := by rw [List.length_map, hl1]
  have cb2 : (l2.map fun (g : Nat) => Value.int .u8 (g : Int)).length = 10 := by rw [List.length_map, hl2]
  rw [uc_e, uc_e, uc_e, uc_e, uc_e, uc_e, un0_e, abox_e, oRes_e, cells_agg, abox_e, oRes_e, cells_agg, abox_e, oRes_e, cells_agg, abox_e, oRes_e, cells_agg]
  have g1 := Mem.gt_push m ⟨1, mixC a wl c d, none⟩
  have hA := At.push m (mixC a wl c d)
  have n1 : (m.push ⟨1, mixC a wl c d, none⟩).next = m.next + 1 := Mem.push_next _ _
  generalize m.push ⟨1, mixC a wl c d, none⟩ = m1 at g1 hA n1 ⊢
  have g2 := Mem.gt_push m1 ⟨1, l1.map fun (g : Nat) => .int .u8 (g : Int), none⟩
  have hB : At (m1.push ⟨1, l1.map fun (g : Nat) => .int .u8 (g : Int), none⟩) m1.next _ := At.push m1 (l1.map fun (g : Nat) => .int .u8 (g : Int))
  have n2 : (m1.push ⟨1, l1.map fun (g : Nat) => .int .u8 (g : Int), none⟩).next = m1.next + 1 := Mem.push_next _ _
  generalize m1.push ⟨1, l1.map fun (g : Nat) => .int .u8 (g : Int), none⟩ = m2 at g2 hB n2 ⊢
  have g3 := Mem.gt_push m2 ⟨1, l2.map fun (g : Nat) => .int .u8 (g : Int), none⟩
  have hC : At (m2.push ⟨1, l2.map fun (g : Nat) => .int .u8 (g : Int), none⟩) m2.next _ := At.push m2 (l2.map fun (g : Nat) => .int .u8 (g : Int))
  have n3 : (m2.push ⟨1, l2.map fun (g : Nat) => .int .u8 (g : Int), none⟩).next = m2.next + 1 := Mem.push_next _ _
  generalize m2.push ⟨1, l2.map fun (g : Nat) => .int .u8 (g : Int), none⟩ = m3 at g3 hC n3 ⊢
  have g4 := Mem.gt_push m3 ⟨1, ol.map fun (g : Nat) => .int .u8 (g : Int), none⟩
  have hD : At (m3.push ⟨1, ol.map fun (g : Nat) => .int .u8 (g : Int), none⟩) m3.next _ := At.push m3 (ol.map fun (g : Nat) => .int .u8 (g : Int))
  have n4 : (m3.push ⟨1, ol.map fun (g : Nat) => .int .u8 (g : Int), none⟩).next = m3.next + 1 := Mem.push_next _ _
  generalize m3.push ⟨1, ol.map fun (g : Nat) => .int .u8 (g : Int), none⟩ = m4 at g4 hD n4 ⊢
  have G4 := ((g1.trans g2).trans g3).trans g4
  have hA4 := ((hA.mono g2).mono g3).mono g4
  have hB4 := (hB.mono g3).mono g4
  have hC4 := hC.mono g4
  unfold ptrTo
  rw [ldN_u, hA4.rd, rdn_all (mix_len hwl), oOpt_e, show (10 : Int) = ((10 : Nat) : Int) from rfl]
  refine made_sp hlf (by omega) ha hwl hwg hc hd (by omega) (by omega) fun wv m5 ws lo hi e5 hw q1 q2 q3 q4 q5 q6 => ?_
  have n5 := e5.next
  refine box3 hw (by omega) fun m6 e6 hR n6 => ?_
  have e46 := e5.trans e6
  have G6 := G4.trans e46
  have hw6 := hw.mono e6
  obtain ⟨pw, cw, ew⟩ := hw.ex
  obtain ⟨f3, f0, f1, f2⟩ := rc_facts hR
  have s1 : ∀ K : Value → Option Unit, oInt .add .i64 (.int .i64 (ws.length : Int)) (.int .i64 1) K = K (.int .i64 ((ws.length + 1 : Nat) : Int)) := fun K => by rw [oInt_add ⟨by omega, by omega⟩]; rfl
  have s2 : ∀ K : Value → Option Unit, oCv .i64 (.int .u8 (x1 : Int)) K = K (.int .i64 (x1 : Int)) := fun K => oCv_nat (by omega) K
  have s3 : ∀ K : Value → Option Unit, oInt .rem .i64 (.int .i64 (x1 : Int)) (.int .i64 ((ws.length + 1 : Nat) : Int)) K = K (.int .i64 ((x1 % (ws.length + 1) : Nat) : Int)) := fun K => oInt_remN (by omega) K
  try simp (maxSteps := 4000000) (disch := first | omega | with_unfolding_all exact id rfl | with_unfolding_all exact Nat.le_of_ble_eq_true rfl | (simp only [Jd, Je, Jr, Js, Jt, Nat.reduceAdd, allOne, oneCell, Bool.and_self, Jc]; first | done | omega)) only [f0, hw6.ln, s1, s2, s3, ↓Qa, ↓Qb, Qd, Qe, Qf, Qg, Qh, Qi, Qj, Qk, Ql, Qm, Qn, Qo, Qp, Qq, Qr, Qs, Qt, Qu, Qv, Qw, Qx, Qy, ptrTo, Qz, QA, QB, QC, QD, QE, QF, QG, QH, QI, QJ, QK, QL, QM, QN, QO, QP, QQ, QR, QS, QT, QU, QV, QW, QX, QY, QZ, Ja, Jb, Jc, Jd, Je, Jf, Jg, Jh, Ji, Jj, Jk, Jl, Jm, Jn, Jo, Jp, Jq, Jr, Js, Jt, Nat.reduceAdd]
  have hkk : x1 % (ws.length + 1) ≤ ws.length := by have := Nat.mod_lt x1 (show 0 < ws.length + 1 by omega); omega
  generalize x1 % (ws.length + 1) = kk at hkk ⊢
  have g7 := Mem.gt_push m6 ⟨1, [.slice none 0 0], none⟩
  have t7 : (m6.push ⟨1, [.slice none 0 0], none⟩).rd m6.next = some ⟨1, [.slice none 0 0], none⟩ := Mem.rd_push _ _
  have n7 : (m6.push ⟨1, [.slice none 0 0], none⟩).next = m6.next + 1 := Mem.push_next _ _
  generalize m6.push ⟨1, [.slice none 0 0], none⟩ = m7 at g7 t7 n7 ⊢
  have c1' : (1 : Int) = ((1 : Nat) : Int) := rfl
  refine loop_up ws.length (fun i vs m' => ∃ u, vs = [u, .int .i64 (i : Int)] ∧ Gt m7 m' ∧ GN m7.next m' u (List.range i)) (by omega) ⟨_, rfl, Gt.refl _, GN.nil _ _⟩ ?_
  rintro i vs m8 hi' ⟨w, rfl, e8, hw8⟩ self hself
  have n8 := e8.next
  try simp (maxSteps := 4000000) (disch := first | omega | with_unfolding_all exact id rfl | with_unfolding_all exact Nat.le_of_ble_eq_true rfl | (simp only [Jd, Je, Jr, Js, Jt, Nat.reduceAdd, allOne, oneCell, Bool.and_self, Jc]; first | done | omega)) only [↓Qa, ↓Qb, Qd, Qe, Qf, Qg, Qh, Qi, Qj, Qk, Ql, Qm, Qn, Qo, Qp, Qq, Qr, Qs, Qt, Qu, Qv, Qw, Qx, Qy, ptrTo, Qz, QA, QB, QC, QD, QE, QF, QG, QH, QI, QJ, QK, QL, QM, QN, QO, QP, QQ, QR, QS, QT, QU, QV, QW, QX, QY, QZ, Ja, Jb, Jc, Jd, Je, Jf, Jg, Jh, Ji, Jj, Jk, Jl, Jm, Jn, Jo, Jp, Jq, Jr, Js, Jt, Nat.reduceAdd]
  refine oIf_dec (fun h3 => ?_) (fun h3 => ?_)
  · have h4 : i < ws.length := by omega
    obtain ⟨w2, m9, h8, h9, h10, h11⟩ := GN.snoc (P := Try.prog) (t := 22) (L := L) (m0 := m7) i ael22 (by omega) hw8 (by rw [List.length_range]; omega) (by omega) e8 (Nat.le_refl _)
    rw [bs22, oRes_e, h8, oRes_e, oInt_add ⟨by omega, by omega⟩]
    refine hself h4 _ _ ⟨w2, rfl, h10, ?_⟩
    rw [List.range_succ]
    exact h9.le n8
  have h4 : i = ws.length := by omega
  subst h4
  clear hself h3
  obtain ⟨b, cs, hbb, rfl, hb8, hcs8, hcl8⟩ : ∃ b cs, m7.next ≤ b ∧ w = .slice (some ⟨b, 0, none⟩) ws.length ws.length ∧ m8.rd b = some ⟨1, cs, none⟩ ∧ cs = (ci (List.range ws.length)).map (Value.int .i64) ∧ cs.length = ws.length := by
    rcases hw8 with ⟨_, h2, _⟩ | ⟨b, h1, h2, h3, h4, _⟩
    · rw [ci_length, List.length_range] at h2; omega
    · rw [ci_length, List.length_range] at h2 h4
      exact ⟨b, _, h1, h2, h3, rfl, by omega⟩
  have hb8l := Mem.rd_lt hb8
  refine loop_up ws.length (fun h vs m' => ∃ w to left cs, vs = [.slice (some ⟨b, 0, none⟩) (ws.length - h) ws.length, .int .i64 (h : Int)] ∧ Gt m6 m' ∧ m8.next ≤ m'.next ∧ m'.rd m6.next = some ⟨1, [w], none⟩ ∧ GN m7.next m' w to ∧ m'.rd b = some ⟨1, cs, none⟩ ∧ cs.length = ws.length ∧ left.length = ws.length - h ∧ cs.take (ws.length - h) = (ci left).map (Value.int .i64) ∧ (to ++ left).Perm (List.range ws.length) ∧ bid w ≠ some b) (by omega)
    ⟨.slice none 0 0, [], List.range ws.length, cs, rfl, g7.trans e8, Nat.le_refl _, (e8.kept _ (by omega)).trans t7, GN.nil _ _, hb8, hcl8, by rw [List.length_range]; rfl, by rw [Nat.sub_zero, List.take_of_length_le (by omega), hcs8], List.Perm.refl _, by intro h; cases h⟩ ?_
  clear hcs8 hcl8 hb8 cs
  rintro h vs m9 hh ⟨w, to, left, cs, rfl, e9, n9, t9, hw9, hb9, hcl9, hll9, hct9, hpm, hbw⟩ self hself
  have hto := hpm.length_eq
  rw [List.length_append, List.length_range] at hto
  have hbm := Mem.rd_lt hb9
  have hD9 := (hD.mono e46).mono e9
  have n69 := e9.next
  have tlt := Mem.rd_lt t9
  have ct : ([w] : List Value)[0]? = some w := rfl
  obtain ⟨pw9, cw9, ew9⟩ := hw9.ex
  try simp (maxSteps := 4000000) (disch := first | omega | with_unfolding_all exact id rfl | with_unfolding_all exact Nat.le_of_ble_eq_true rfl | (simp only [Jd, Je, Jr, Js, Jt, Nat.reduceAdd, allOne, oneCell, Bool.and_self, Jc]; first | done | omega)) only [↓Qa, ↓Qb, Qd, Qe, Qf, Qg, Qh, Qi, Qj, Qk, Ql, Qm, Qn, Qo, Qp, Qq, Qr, Qs, Qt, Qu, Qv, Qw, Qx, Qy, ptrTo, Qz, QA, QB, QC, QD, QE, QF, QG, QH, QI, QJ, QK, QL, QM, QN, QO, QP, QQ, QR, QS, QT, QU, QV, QW, QX, QY, QZ, Ja, Jb, Jc, Jd, Je, Jf, Jg, Jh, Ji, Jj, Jk, Jl, Jm, Jn, Jo, Jp, Jq, Jr, Js, Jt, Nat.reduceAdd]
  refine oIf_dec (fun h3 => ?_) (fun h3 => ?_)
  · have h4 : h < ws.length := by omega
    have h5' : h < ol.length := by omega
    have h6 := hog _ (List.getElem_mem h5')
    have hcell : (ol.map fun (g : Nat) => Value.int .u8 (g : Int))[0 + h * 1]? = some (.int .u8 (ol[h] : Int)) := by
      rw [show 0 + h * 1 = h by omega, List.getElem?_map, List.getElem?_eq_getElem h5']; rfl
    rw [iaA_e (by omega), oOpt_e, ld1_u, hD9.rd, rdo_e, hcell, oOpt_e, oCv_nat (by omega), ln_e, oOpt_e, oInt_remN (by omega), t9, rdo_e, ct, oOpt_e]
    have hq : ol[h] % (ws.length - h) < ws.length - h := Nat.mod_lt _ (by omega)
    generalize ol[h] % (ws.length - h) = q at hq ⊢
    have hql : q < left.length := by omega
    have hcq : cs[0 + q * 1]? = some (.int .i64 ((left[q] : Nat) : Int)) := by
      have := congrArg (fun x => x[q]?) hct9
      simp only [List.getElem?_take, if_pos hq] at this
      rw [show 0 + q * 1 = q by omega, this]
      simp [ci, hql]
    rw [ia_e (sz := 1) hq, oOpt_e, ld1_u, hb9, rdo_e, hcq, oOpt_e]
    have hfw := hw9.fr
    obtain ⟨u2, m10, h8, h9, e10, h10, hkeep⟩ := GN.snoc3 (P := Try.prog) (t := 22) (L := L) (m0 := m6) left[q] ael22 (by omega) hw9 (by omega) (by omega) e9 (by omega)
    have hb10 : m10.rd b = some ⟨1, cs, none⟩ := (hkeep _ hbm hbw).trans hb9
    have t10 : m10.rd m6.next = some ⟨1, [w], none⟩ := (hkeep _ tlt (fun hb => by have := hfw _ hb; omega)).trans t9
    have hsm : bEq (some ⟨1, [w], none⟩) ((m9.push ⟨1, [.int .i64 ((left[q] : Nat) : Int)], none⟩).rd m6.next) = true := by
      rw [Mem.rd_push_lt _ _ tlt, t9, ew9, bEq_ss, veqL_cons, veq_slice, veqL_nil]; rfl
    obtain ⟨pu, cu, eu⟩ := h9.ex
    have hst := st_set (L := L) (x := u2) t10 Nat.zero_lt_one (by omega) (by rw [eu]; rfl) (by rw [eu]; rfl)
    rw [st1_u] at hst
    have hst' : stw 1 L m10 m6.next 0 u2.cells.toList (m10.rd m6.next) = some (Go.undef, m10.put m6.next (some ⟨1, [u2], none⟩)) := hst
    rw [bs22, oRes_e, hsm, oIf_t, h8, oRes_e, hst', oRes_e, oInt_add ⟨by omega, by omega⟩]
    have t11 : (m10.put m6.next (some ⟨1, [u2], none⟩)).rd m6.next = some ⟨1, [u2], none⟩ := Mem.rd_put_eq _ _ (Mem.rd_lt t10)
    have hb11 : (m10.put m6.next (some ⟨1, [u2], none⟩)).rd b = some ⟨1, cs, none⟩ := (Mem.rd_put _ _ _ _ (by omega)).trans hb10
    have e11 : Gt m6 (m10.put m6.next (some ⟨1, [u2], none⟩)) := Mem.put_gt e10 _ (Nat.le_refl _)
    have h11 : GN m9.next (m10.put m6.next (some ⟨1, [u2], none⟩)) u2 (to ++ [left[q]]) := h9.keepL fun c h1 _ => Mem.rd_put _ _ _ _ (by omega)
    have n11 : (m10.put m6.next (some ⟨1, [u2], none⟩)).next = m10.next := rfl
    generalize m10.put m6.next (some ⟨1, [u2], none⟩) = m11 at t11 hb11 e11 h11 n11 ⊢
    refine delete_sp (l := left) hlf (by omega) hb11 hcl9 (by omega) (by omega) hll9 hct9 hq fun m12 cs2 hk12 hn12 hb12 hcl12 hct12 => ?_
    rw [oInt_add ⟨by omega, by omega⟩]
    refine hself h4 _ _ ⟨u2, to ++ [left[q]], left.eraseIdx q, cs2, rfl, ⟨by have := e11.next; omega, fun c hc => ?_⟩, by omega, (hk12 _ (by omega)).trans t11, ?_, hb12, hcl12, ?_, ?_, ?_, ?_⟩
    · rw [hk12 c (by omega), e11.kept c hc]
    · refine (h11.keepB fun c hc => hk12 c ?_).le (by omega)
      have := h11.fr c hc; omega
    · rw [List.length_eraseIdx, if_pos hql]; omega
    · rw [show ws.length - (h + 1) = ws.length - h - 1 by omega]; exact hct12
    · refine List.Perm.trans ?_ hpm
      rw [List.append_assoc]
      refine List.Perm.append_left _ ?_
      rw [erase_take]
      refine (List.perm_middle.symm : (left[q] :: (left.take q ++ left.drop (q + 1))).Perm _).trans ?_
      rw [← List.drop_eq_getElem_cons hql, List.take_append_drop]
    · intro hb; have := h11.fr b hb; omega
  have h4 : h = ws.length := by omega
  subst h4
  have hl0 : left = [] := List.length_eq_zero_iff.1 (by omega)
  subst hl0
  rw [List.append_nil] at hpm
  clear hself h3 hb9 hct9 hbm hbw hcl9 hll9 hto
  have hto := to_len hpm
  -- the other recipe
  have hR9 := hR.mono e9
  have hw9' := hw6.mono e9
  obtain ⟨f3, f0, f1, f2⟩ := rc_facts (hR9.mono (Mem.gt_push m9 ⟨1, azrow [.int .i64 0] ws.length, none⟩))
  have mk := make22 m9 (a := ws.length) (by omega)
  rw [mk, oRes_e, f1, oOpt_e, f2, oOpt_e]
  have g10 := Mem.gt_push m9 ⟨1, azrow [.int .i64 0] ws.length, none⟩
  have p10 : (m9.push ⟨1, azrow [.int .i64 0] ws.length, none⟩).rd m9.next = some ⟨1, (ci (List.replicate ws.length 0)).map (Value.int .i64), none⟩ := by rw [← azrow_rep]; exact Mem.rd_push _ _
  have n10 : (m9.push ⟨1, azrow [.int .i64 0] ws.length, none⟩).next = m9.next + 1 := Mem.push_next _ _
  generalize m9.push ⟨1, azrow [.int .i64 0] ws.length, none⟩ = m10 at g10 p10 n10 f0 f1 f2 f3 ⊢
  have hoin := in_full p10 List.length_replicate
  rw [bu43, oOpt_e]
  refine box3s hoin (by omega) fun m11 e11 hO n11 => ?_
  have e911 := g10.trans e11
  have E11 := e9.trans e911
  have G11 := G6.trans E11
  have hw11 := hw9'.mono e911
  have t11 := (e911.kept _ (Mem.rd_lt t9)).trans t9
  have htw := (hw9.mono e911).inn
  have p11 := (e11.kept _ (Mem.rd_lt p10)).trans p10
  rw [(rc_facts (hR9.mono e911)).2.1, oOpt_e, hw11.ln, oOpt_e]
  refine loop_up ws.length (fun x vs m' => ∃ os : List Nat, vs = [.int .i64 (x : Int)] ∧ Gt m9 m' ∧ m11.next ≤ m'.next ∧ At m' m10.next (rcC (.slice (some ⟨m9.next, 0, none⟩) ws.length ws.length) lo hi) ∧ m'.rd m9.next = some ⟨1, (ci os).map (Value.int .i64), none⟩ ∧ os.length = ws.length ∧ ∀ y, y < x → os.getD (pi to y) 0 = ws.getD y 0) (by omega)
    ⟨List.replicate ws.length 0, rfl, e911, Nat.le_refl _, hO, p11, List.length_replicate, fun y hy => by omega⟩ ?_
  rintro x vs m12 hx ⟨os, rfl, e12, n12, hO12, p12, hol12, hos⟩ self hself
  have hw12 := hw9'.mono e12
  have t12 := (e12.kept _ (Mem.rd_lt t9)).trans t9
  have htw12 := (hw9.mono e12).inn
  have E12 := e9.trans e12
  have G12 := G6.trans E12
  obtain ⟨o3, o0, o1, o2⟩ := rc_facts hO12
  try simp (maxSteps := 4000000) (disch := first | omega | with_unfolding_all exact id rfl | with_unfolding_all exact Nat.le_of_ble_eq_true rfl | (simp only [Jd, Je, Jr, Js, Jt, Nat.reduceAdd, allOne, oneCell, Bool.and_self, Jc]; first | done | omega)) only [↓Qa, ↓Qb, Qd, Qe, Qf, Qg, Qh, Qi, Qj, Qk, Ql, Qm, Qn, Qo, Qp, Qq, Qr, Qs, Qt, Qu, Qv, Qw, Qx, Qy, ptrTo, Qz, QA, QB, QC, QD, QE, QF, QG, QH, QI, QJ, QK, QL, QM, QN, QO, QP, QQ, QR, QS, QT, QU, QV, QW, QX, QY, QZ, Ja, Jb, Jc, Jd, Je, Jf, Jg, Jh, Ji, Jj, Jk, Jl, Jm, Jn, Jo, Jp, Jq, Jr, Js, Jt, Nat.reduceAdd]
  refine oIf_dec (fun h3 => ?_) (fun h3 => ?_)
  · have hxN : x < ws.length := by omega
    have hxt : x < to.length := by omega
    have hpx : pi to x = to[x] := getD_at hxt
    have hpl := pi_lt hpm hxN
    rw [hpx] at hpl
    have hst := st_int (L := L) (x := (ws[x] : Int)) p12 (q := to[x]) (by rw [List.length_map, ci_length]; omega) (by omega)
    rw [ci_set] at hst
    have hf6 : ∀ K : Value → Option Unit, oInt .add .i64 (.int .i64 (x : Int)) (.int .i64 1) K = K (.int .i64 ((x + 1 : Nat) : Int)) := fun K => by rw [oInt_add ⟨by omega, by omega⟩]; rfl
    have hia : ia 1 (.slice (some ⟨m9.next, 0, none⟩) ws.length ws.length) (.int .i64 (to[x] : Int)) = some (.pointer (some ⟨m9.next, to[x], none⟩)) := by
      rw [ia_e (sz := 1) hpl]; simp
    rw [hw12.ia hxN, oOpt_e, hw12.ld hxN, oOpt_e, o0, oOpt_e, t12, rdo_e, ct, oOpt_e, htw12.ia hxt, oOpt_e, htw12.ld hxt, oOpt_e, hia, oOpt_e, hst, oRes_e, hf6]
    refine hself hxN _ _ ⟨os.set to[x] ws[x], rfl, Mem.put_gt e12 _ (Nat.le_refl _), n12, (Mem.rd_put _ _ _ _ (by omega)).trans hO12, Mem.rd_put_eq _ _ (Mem.rd_lt p12), by rw [List.length_set]; exact hol12, fun y hy => ?_⟩
    by_cases hyx : y = x
    · subst hyx
      rw [hpx, getD_at (show to[y] < (os.set to[y] ws[y]).length by rw [List.length_set]; omega), List.getElem_set_self, getD_at hxN]
    · have hyN : y < ws.length := by omega
      have hne : pi to y ≠ to[x] := fun he => hyx (pi_inj hpm hyN hxN (he.trans hpx.symm))
      have hply := pi_lt hpm hyN
      have := hos y (by omega)
      rw [getD_at (show pi to y < os.length by omega)] at this
      rw [getD_at (show pi to y < (os.set to[x] ws[x]).length by rw [List.length_set]; omega), List.getElem_set, if_neg (fun h => hne h.symm)]
      exact this
  have hxN : x = ws.length := by omega
  subst hxN
  clear hself h3
  have howv := in_full p12 hol12
  have hos50 : ∀ z ∈ os, z ≤ 50 := fun z hz => by
    obtain ⟨i, hi, rfl⟩ := List.getElem_of_mem hz
    obtain ⟨x, hx, he⟩ := pi_onto hpm (show i < ws.length by omega)
    have := hos x hx
    rw [he, getD_at hi] at this
    rw [this]
    exact getD_le q3 x
  have hB12 := (hB4.mono e46).mono E12
  have hC12 := (hC4.mono e46).mono E12
  have hR12 := hR9.mono e12
  have n9' := e12.next
  rw [hB12.rd, rdn_all cb1, oOpt_e]
  refine chosen_sp hlf (Nat.le_refl _) hl1 hg1 q1 q2 hkk fun ua m13 A e13 hua hbA => ?_
  have n13 := e13.next
  rw [(hC12.mono e13).rd, rdn_all cb2, oOpt_e]
  refine chosen_sp hlf (by omega) hl2 hg2 q1 q2 hkk fun ub m14 B e14 hub hbB => ?_
  have n14 := e14.next
  have E14 := e13.trans e14
  have hua14 := hua.mono e14
  refine ren_sp hlf (by omega) q2 hpm hua14 hbA ((E14.kept _ (Mem.rd_lt t12)).trans t12) (htw12.mono E14) fun uc m15 e15 huc => ?_
  have n15 := e15.next
  have E15 := E14.trans e15
  refine ren_sp hlf (by omega) q2 hpm (hub.mono e15) hbB ((E15.kept _ (Mem.rd_lt t12)).trans t12) (htw12.mono E15) fun ud m16 e16 hud => ?_
  have n16 := e16.next
  have E16 := E15.trans e16
  have e1416 := e15.trans e16
  have hua16 := hua14.mono e1416
  have huc16 := huc.mono e16
  have hcA := ren_bl hpm hbA
  have hcB := ren_bl hpm hbB
  have lA := hbA.len
  have lcA := hcA.len
  have dd : ∀ z : Int, decide (z = z) = true := fun z => decide_eq_true rfl
  refine away2_sp hlf q1 q2 hua16 (hub.mono e1416) hbA hbB ?_
  try simp (maxSteps := 4000000) (disch := first | omega | with_unfolding_all exact id rfl | with_unfolding_all exact Nat.le_of_ble_eq_true rfl | (simp only [Jd, Je, Jr, Js, Jt, Nat.reduceAdd, allOne, oneCell, Bool.and_self, Jc]; first | done | omega)) only [↓Qa, ↓Qb, Qd, Qe, Qf, Qg, Qh, Qi, Qj, Qk, Ql, Qm, Qn, Qo, Qp, Qq, Qr, Qs, Qt, Qu, Qv, Qw, Qx, Qy, ptrTo, Qz, QA, QB, QC, QD, QE, QF, QG, QH, QI, QJ, QK, QL, QM, QN, QO, QP, QQ, QR, QS, QT, QU, QV, QW, QX, QY, QZ, Ja, Jb, Jc, Jd, Je, Jf, Jg, Jh, Ji, Jj, Jk, Jl, Jm, Jn, Jo, Jp, Jq, Jr, Js, Jt, Nat.reduceAdd]
  refine away2_sp hlf q1 q2 huc16 hud hcA hcB ?_
  rw [ren_away hpm hbA hbB]
  try simp (maxSteps := 4000000) (disch := first | omega | with_unfolding_all exact id rfl | with_unfolding_all exact Nat.le_of_ble_eq_true rfl | (simp only [Jd, Je, Jr, Js, Jt, Nat.reduceAdd, allOne, oneCell, Bool.and_self, Jc]; first | done | omega)) only [dd, ↓Qa, ↓Qb, Qd, Qe, Qf, Qg, Qh, Qi, Qj, Qk, Ql, Qm, Qn, Qo, Qp, Qq, Qr, Qs, Qt, Qu, Qv, Qw, Qx, Qy, ptrTo, Qz, QA, QB, QC, QD, QE, QF, QG, QH, QI, QJ, QK, QL, QM, QN, QO, QP, QQ, QR, QS, QT, QU, QV, QW, QX, QY, QZ, Ja, Jb, Jc, Jd, Je, Jf, Jg, Jh, Ji, Jj, Jk, Jl, Jm, Jn, Jo, Jp, Jq, Jr, Js, Jt, Nat.reduceAdd]
  repeat (rw [join_e]; try simp (maxSteps := 4000000) (disch := first | omega | with_unfolding_all exact id rfl | with_unfolding_all exact Nat.le_of_ble_eq_true rfl | (simp only [Jd, Je, Jr, Js, Jt, Nat.reduceAdd, allOne, oneCell, Bool.and_self, Jc]; first | done | omega)) only [dd, ↓Qa, ↓Qb, Qd, Qe, Qf, Qg, Qh, Qi, Qj, Qk, Ql, Qm, Qn, Qo, Qp, Qq, Qr, Qs, Qt, Qu, Qv, Qw, Qx, Qy, ptrTo, Qz, QA, QB, QC, QD, QE, QF, QG, QH, QI, QJ, QK, QL, QM, QN, QO, QP, QQ, QR, QS, QT, QU, QV, QW, QX, QY, QZ, Ja, Jb, Jc, Jd, Je, Jf, Jg, Jh, Ji, Jj, Jk, Jl, Jm, Jn, Jo, Jp, Jq, Jr, Js, Jt, Nat.reduceAdd])
  have hR16 := hR12.mono E16
  have hO16 := hO12.mono E16
  have hw16 := hw12.mono E16
  have ho16 := howv.mono E16
  have G16 := G12.trans E16
  rw [(rc_facts hR16).1, oOpt_e]
  obtain ⟨y1, y2⟩ := wgt_of (lo := lo) (hi := hi) q1 q2 q3 q5 hbA
  have hbA' : Bl os.length kk A := hol12 ▸ hbA
  have hcA' : Bl os.length kk (ren to ws.length A) := hol12.symm ▸ hcA
  obtain ⟨y3, y4⟩ := wgt_of (ws := os) (lo := lo) (hi := hi) (by omega) (by omega) hos50 q5 hcA'
  obtain ⟨y5, y6⟩ := fit_of (lo := lo) (hi := hi) q1 q2 q3 q5 hkk
  obtain ⟨y7, y8⟩ := fit_of (ws := os) (lo := lo) (hi := hi) (by omega) (by omega) hos50 q5 (kk := kk) (by omega)
  rw [ren_wgt hpm hos hbA] at y4
  rw [ren_fitL hpm q2 rfl hol12 hos hkk] at y8
  refine weight32_sp hlf hw16 hua16 (by rw [ci_length]; omega) fun m17 e17 => ?_
  rw [y1, y2]
  have n17 := e17.next
  try simp (maxSteps := 4000000) (disch := first | omega | with_unfolding_all exact id rfl | with_unfolding_all exact Nat.le_of_ble_eq_true rfl | (simp only [Jd, Je, Jr, Js, Jt, Nat.reduceAdd, allOne, oneCell, Bool.and_self, Jc]; first | done | omega)) only [↓Qa, ↓Qb, Qd, Qe, Qf, Qg, Qh, Qi, Qj, Qk, Ql, Qm, Qn, Qo, Qp, Qq, Qr, Qs, Qt, Qu, Qv, Qw, Qx, Qy, ptrTo, Qz, QA, QB, QC, QD, QE, QF, QG, QH, QI, QJ, QK, QL, QM, QN, QO, QP, QQ, QR, QS, QT, QU, QV, QW, QX, QY, QZ, Ja, Jb, Jc, Jd, Je, Jf, Jg, Jh, Ji, Jj, Jk, Jl, Jm, Jn, Jo, Jp, Jq, Jr, Js, Jt, Nat.reduceAdd]
  rw [(rc_facts (hO16.mono e17)).1, oOpt_e]
  refine weight32_sp hlf (ho16.mono e17) (huc16.mono e17) (by rw [ci_length]; omega) fun m18 e18 => ?_
  rw [y3, y4]
  have n18 := e18.next
  have E18 := e17.trans e18
  try simp (maxSteps := 4000000) (disch := first | omega | with_unfolding_all exact id rfl | with_unfolding_all exact Nat.le_of_ble_eq_true rfl | (simp only [Jd, Je, Jr, Js, Jt, Nat.reduceAdd, allOne, oneCell, Bool.and_self, Jc]; first | done | omega)) only [↓Qa, ↓Qb, Qd, Qe, Qf, Qg, Qh, Qi, Qj, Qk, Ql, Qm, Qn, Qo, Qp, Qq, Qr, Qs, Qt, Qu, Qv, Qw, Qx, Qy, ptrTo, Qz, QA, QB, QC, QD, QE, QF, QG, QH, QI, QJ, QK, QL, QM, QN, QO, QP, QQ, QR, QS, QT, QU, QV, QW, QX, QY, QZ, Ja, Jb, Jc, Jd, Je, Jf, Jg, Jh, Ji, Jj, Jk, Jl, Jm, Jn, Jo, Jp, Jq, Jr, Js, Jt, Nat.reduceAdd]
  rw [(rc_facts (hR16.mono E18)).1, oOpt_e]
  refine fits34_sp hlf (by omega) (hw16.mono E18) fun m19 e19 => ?_
  rw [y5, y6]
  have n19 := e19.next
  have E19 := E18.trans e19
  try simp (maxSteps := 4000000) (disch := first | omega | with_unfolding_all exact id rfl | with_unfolding_all exact Nat.le_of_ble_eq_true rfl | (simp only [Jd, Je, Jr, Js, Jt, Nat.reduceAdd, allOne, oneCell, Bool.and_self, Jc]; first | done | omega)) only [↓Qa, ↓Qb, Qd, Qe, Qf, Qg, Qh, Qi, Qj, Qk, Ql, Qm, Qn, Qo, Qp, Qq, Qr, Qs, Qt, Qu, Qv, Qw, Qx, Qy, ptrTo, Qz, QA, QB, QC, QD, QE, QF, QG, QH, QI, QJ, QK, QL, QM, QN, QO, QP, QQ, QR, QS, QT, QU, QV, QW, QX, QY, QZ, Ja, Jb, Jc, Jd, Je, Jf, Jg, Jh, Ji, Jj, Jk, Jl, Jm, Jn, Jo, Jp, Jq, Jr, Js, Jt, Nat.reduceAdd]
  rw [(rc_facts (hO16.mono E19)).1, oOpt_e]
  refine fits34_sp hlf (by omega) (ho16.mono E19) fun m20 e20 => ?_
  rw [y7, y8]
  have n20 := e20.next
  have E20 := E19.trans e20
  try simp (maxSteps := 4000000) (disch := first | omega | with_unfolding_all exact id rfl | with_unfolding_all exact Nat.le_of_ble_eq_true rfl | (simp only [Jd, Je, Jr, Js, Jt, Nat.reduceAdd, allOne, oneCell, Bool.and_self, Jc]; first | done | omega)) only [dd, ↓Qa, ↓Qb, Qd, Qe, Qf, Qg, Qh, Qi, Qj, Qk, Ql, Qm, Qn, Qo, Qp, Qq, Qr, Qs, Qt, Qu, Qv, Qw, Qx, Qy, ptrTo, Qz, QA, QB, QC, QD, QE, QF, QG, QH, QI, QJ, QK, QL, QM, QN, QO, QP, QQ, QR, QS, QT, QU, QV, QW, QX, QY, QZ, Ja, Jb, Jc, Jd, Je, Jf, Jg, Jh, Ji, Jj, Jk, Jl, Jm, Jn, Jo, Jp, Jq, Jr, Js, Jt, Nat.reduceAdd]
  repeat (rw [join_e]; try simp (maxSteps := 4000000) (disch := first | omega | with_unfolding_all exact id rfl | with_unfolding_all exact Nat.le_of_ble_eq_true rfl | (simp only [Jd, Je, Jr, Js, Jt, Nat.reduceAdd, allOne, oneCell, Bool.and_self, Jc]; first | done | omega)) only [dd, ↓Qa, ↓Qb, Qd, Qe, Qf, Qg, Qh, Qi, Qj, Qk, Ql, Qm, Qn, Qo, Qp, Qq, Qr, Qs, Qt, Qu, Qv, Qw, Qx, Qy, ptrTo, Qz, QA, QB, QC, QD, QE, QF, QG, QH, QI, QJ, QK, QL, QM, QN, QO, QP, QQ, QR, QS, QT, QU, QV, QW, QX, QY, QZ, Ja, Jb, Jc, Jd, Je, Jf, Jg, Jh, Ji, Jj, Jk, Jl, Jm, Jn, Jo, Jp, Jq, Jr, Js, Jt, Nat.reduceAdd])
  rw [(rc_facts (hR16.mono E20)).1, oOpt_e]
  refine nearest38_sp hlf (by omega) (hw16.mono E20) (hua16.mono E20) (by rw [ci_length]; omega) fun ux m21 e21 hux => ?_
  have n21 := e21.next
  have E21 := E20.trans e21
  try simp (maxSteps := 4000000) (disch := first | omega | with_unfolding_all exact id rfl | with_unfolding_all exact Nat.le_of_ble_eq_true rfl | (simp only [Jd, Je, Jr, Js, Jt, Nat.reduceAdd, allOne, oneCell, Bool.and_self, Jc]; first | done | omega)) only [↓Qa, ↓Qb, Qd, Qe, Qf, Qg, Qh, Qi, Qj, Qk, Ql, Qm, Qn, Qo, Qp, Qq, Qr, Qs, Qt, Qu, Qv, Qw, Qx, Qy, ptrTo, Qz, QA, QB, QC, QD, QE, QF, QG, QH, QI, QJ, QK, QL, QM, QN, QO, QP, QQ, QR, QS, QT, QU, QV, QW, QX, QY, QZ, Ja, Jb, Jc, Jd, Je, Jf, Jg, Jh, Ji, Jj, Jk, Jl, Jm, Jn, Jo, Jp, Jq, Jr, Js, Jt, Nat.reduceAdd]
  rw [(rc_facts (hO16.mono E21)).1, oOpt_e]
  refine nearest38_sp hlf (by omega) (ho16.mono E21) (huc16.mono E21) (by rw [ci_length]; omega) fun uy m22 e22 huy => ?_
  have n22 := e22.next
  have E22 := E21.trans e22
  have hux22 := hux.mono e22
  have hua22 := hua16.mono E22
  have huc22 := huc16.mono E22
  have G22 := G16.trans E22
  obtain ⟨nx1, nx2⟩ := nr_of (lo := lo) (hi := hi) q1 q2 q3 q5 hbA
  obtain ⟨ny1, ny2⟩ := nr_of (ws := os) (lo := lo) (hi := hi) (by omega) (by omega) hos50 q5 hcA'
  have hfl := ren_fitL (lo := lo) (hi := hi) hpm q2 rfl hol12 hos hkk
  have s4 : ∀ K : Value → Option Unit, oCv .i64 (.int .u8 (x5 : Int)) K = K (.int .i64 (x5 : Int)) := fun K => oCv_nat (by omega) K
  have s5 : ∀ K : Value → Option Unit, oInt .rem .i64 (.int .i64 (x5 : Int)) (.int .i64 11) K = K (.int .i64 ((x5 % 11 : Nat) : Int)) := fun K => oInt_remN (b := 11) (by omega) K
  have hj10 : x5 % 11 ≤ 10 := by omega
  -- the last part
  have tail : ∀ m' : Mem, Gt m22 m' → ∀ K : Value → Mem → Option Unit, ∀ j : Nat, j ≤ 10 → (∀ zl zh m'', Gt m22 m'' → IsLo ws A ws.length kk j zl → IsHi ws A ws.length kk j zh → K (.tuple ⟨[.int .i64 zl, .int .i64 zh, .int .i64 0]⟩) m'' = some ()) → runT (tab lf) (n + 10) 40 [rcp wv lo hi, ua, .int .i64 (j : Int)] L m' K = some () := fun m' e K j hj hK => by
    have := e.next
    refine reach40_sp hlf (by omega) ((hw16.mono E22).mono e) (hua22.mono e) (by rw [ci_length]; omega) (fun _ _ _ zl zh m'' e'' il ih => ?_) (fun m'' e'' _ h => absurd ⟨by omega, by omega⟩ h) (fun m'' e'' h => absurd y1 h)
    rw [nni_ci, nni_ci, ci_length, ci_length, Int.toNat_natCast, lA] at il ih
    exact hK zl zh m'' (e.trans e'') il ih
  have tail2 : ∀ m' : Mem, Gt m22 m' → ∀ K : Value → Mem → Option Unit, ∀ j : Nat, j ≤ 10 → (∀ zl zh m'', Gt m22 m'' → IsLo os (ren to ws.length A) ws.length kk j zl → IsHi os (ren to ws.length A) ws.length kk j zh → K (.tuple ⟨[.int .i64 zl, .int .i64 zh, .int .i64 0]⟩) m'' = some ()) → runT (tab lf) (n + 10) 40 [rcp (.slice (some ⟨m9.next, 0, none⟩) ws.length ws.length) lo hi, uc, .int .i64 (j : Int)] L m' K = some () := fun m' e K j hj hK => by
    have := e.next
    refine reach40_sp hlf (by omega) ((ho16.mono E22).mono e) (huc22.mono e) (by rw [ci_length]; omega) (fun _ _ _ zl zh m'' e'' il ih => ?_) (fun m'' e'' _ h => absurd ⟨by omega, by omega⟩ h) (fun m'' e'' h => absurd y3 h)
    rw [nni_ci, nni_ci, ci_length, ci_length, Int.toNat_natCast, lcA, hol12] at il ih
    exact hK zl zh m'' (e.trans e'') il ih
  by_cases hf : fitL ws kk lo hi = []
  · have hf2 : fitL os kk lo hi = [] := List.length_eq_zero_iff.1 (by rw [hfl, hf]; rfl)
    obtain ⟨r1, r2⟩ := nx1 hf
    obtain ⟨r3, r4⟩ := ny1 hf2
    have d12 : decide ((12 : Int) = 0) = false := by decide
    rw [r1, r3]
    try simp (maxSteps := 4000000) (disch := first | omega | with_unfolding_all exact id rfl | with_unfolding_all exact Nat.le_of_ble_eq_true rfl | (simp only [Jd, Je, Jr, Js, Jt, Nat.reduceAdd, allOne, oneCell, Bool.and_self, Jc]; first | done | omega)) only [dd, d12, ↓Qa, ↓Qb, Qd, Qe, Qf, Qg, Qh, Qi, Qj, Qk, Ql, Qm, Qn, Qo, Qp, Qq, Qr, Qs, Qt, Qu, Qv, Qw, Qx, Qy, ptrTo, Qz, QA, QB, QC, QD, QE, QF, QG, QH, QI, QJ, QK, QL, QM, QN, QO, QP, QQ, QR, QS, QT, QU, QV, QW, QX, QY, QZ, Ja, Jb, Jc, Jd, Je, Jf, Jg, Jh, Ji, Jj, Jk, Jl, Jm, Jn, Jo, Jp, Jq, Jr, Js, Jt, Nat.reduceAdd]
    repeat (rw [join_e]; try simp (maxSteps := 4000000) (disch := first | omega | with_unfolding_all exact id rfl | with_unfolding_all exact Nat.le_of_ble_eq_true rfl | (simp only [Jd, Je, Jr, Js, Jt, Nat.reduceAdd, allOne, oneCell, Bool.and_self, Jc]; first | done | omega)) only [dd, d12, ↓Qa, ↓Qb, Qd, Qe, Qf, Qg, Qh, Qi, Qj, Qk, Ql, Qm, Qn, Qo, Qp, Qq, Qr, Qs, Qt, Qu, Qv, Qw, Qx, Qy, ptrTo, Qz, QA, QB, QC, QD, QE, QF, QG, QH, QI, QJ, QK, QL, QM, QN, QO, QP, QQ, QR, QS, QT, QU, QV, QW, QX, QY, QZ, Ja, Jb, Jc, Jd, Je, Jf, Jg, Jh, Ji, Jj, Jk, Jl, Jm, Jn, Jo, Jp, Jq, Jr, Js, Jt, Nat.reduceAdd])
    rw [s4, s5, (rc_facts (hR16.mono E22)).1, oOpt_e]
    refine tail m22 (Gt.refl _) _ _ hj10 fun zl zh m23 e23 il ih => ?_
    try simp (maxSteps := 4000000) (disch := first | omega | with_unfolding_all exact id rfl | with_unfolding_all exact Nat.le_of_ble_eq_true rfl | (simp only [Jd, Je, Jr, Js, Jt, Nat.reduceAdd, allOne, oneCell, Bool.and_self, Jc]; first | done | omega)) only [↓Qa, ↓Qb, Qd, Qe, Qf, Qg, Qh, Qi, Qj, Qk, Ql, Qm, Qn, Qo, Qp, Qq, Qr, Qs, Qt, Qu, Qv, Qw, Qx, Qy, ptrTo, Qz, QA, QB, QC, QD, QE, QF, QG, QH, QI, QJ, QK, QL, QM, QN, QO, QP, QQ, QR, QS, QT, QU, QV, QW, QX, QY, QZ, Ja, Jb, Jc, Jd, Je, Jf, Jg, Jh, Ji, Jj, Jk, Jl, Jm, Jn, Jo, Jp, Jq, Jr, Js, Jt, Nat.reduceAdd]
    rw [(rc_facts (hO16.mono (E22.trans e23))).1, oOpt_e]
    refine tail2 m23 e23 _ _ hj10 fun yl yh m24 e24 jl jh => ?_
    rw [← ren_lo hpm hos hbA il jl, ← ren_hi hpm hos hbA ih jh]
    try simp (maxSteps := 4000000) (disch := first | omega | with_unfolding_all exact id rfl | with_unfolding_all exact Nat.le_of_ble_eq_true rfl | (simp only [Jd, Je, Jr, Js, Jt, Nat.reduceAdd, allOne, oneCell, Bool.and_self, Jc]; first | done | omega)) only [dd, ↓Qa, ↓Qb, Qd, Qe, Qf, Qg, Qh, Qi, Qj, Qk, Ql, Qm, Qn, Qo, Qp, Qq, Qr, Qs, Qt, Qu, Qv, Qw, Qx, Qy, ptrTo, Qz, QA, QB, QC, QD, QE, QF, QG, QH, QI, QJ, QK, QL, QM, QN, QO, QP, QQ, QR, QS, QT, QU, QV, QW, QX, QY, QZ, Ja, Jb, Jc, Jd, Je, Jf, Jg, Jh, Ji, Jj, Jk, Jl, Jm, Jn, Jo, Jp, Jq, Jr, Js, Jt, Nat.reduceAdd]
    repeat (rw [join_e]; try simp (maxSteps := 4000000) (disch := first | omega | with_unfolding_all exact id rfl | with_unfolding_all exact Nat.le_of_ble_eq_true rfl | (simp only [Jd, Je, Jr, Js, Jt, Nat.reduceAdd, allOne, oneCell, Bool.and_self, Jc]; first | done | omega)) only [dd, ↓Qa, ↓Qb, Qd, Qe, Qf, Qg, Qh, Qi, Qj, Qk, Ql, Qm, Qn, Qo, Qp, Qq, Qr, Qs, Qt, Qu, Qv, Qw, Qx, Qy, ptrTo, Qz, QA, QB, QC, QD, QE, QF, QG, QH, QI, QJ, QK, QL, QM, QN, QO, QP, QQ, QR, QS, QT, QU, QV, QW, QX, QY, QZ, Ja, Jb, Jc, Jd, Je, Jf, Jg, Jh, Ji, Jj, Jk, Jl, Jm, Jn, Jo, Jp, Jq, Jr, Js, Jt, Nat.reduceAdd])
    refine works_sp (hT.mono (G22.trans e24)) ?_
    try simp (maxSteps := 4000000) (disch := first | omega | with_unfolding_all exact id rfl | with_unfolding_all exact Nat.le_of_ble_eq_true rfl | (simp only [Jd, Je, Jr, Js, Jt, Nat.reduceAdd, allOne, oneCell, Bool.and_self, Jc]; first | done | omega)) only [dd, ↓Qa, ↓Qb, Qd, Qe, Qf, Qg, Qh, Qi, Qj, Qk, Ql, Qm, Qn, Qo, Qp, Qq, Qr, Qs, Qt, Qu, Qv, Qw, Qx, Qy, ptrTo, Qz, QA, QB, QC, QD, QE, QF, QG, QH, QI, QJ, QK, QL, QM, QN, QO, QP, QQ, QR, QS, QT, QU, QV, QW, QX, QY, QZ, Ja, Jb, Jc, Jd, Je, Jf, Jg, Jh, Ji, Jj, Jk, Jl, Jm, Jn, Jo, Jp, Jq, Jr, Js, Jt, Nat.reduceAdd]
    repeat (rw [join_e]; try simp (maxSteps := 4000000) (disch := first | omega | with_unfolding_all exact id rfl | with_unfolding_all exact Nat.le_of_ble_eq_true rfl | (simp only [Jd, Je, Jr, Js, Jt, Nat.reduceAdd, allOne, oneCell, Bool.and_self, Jc]; first | done | omega)) only [dd, ↓Qa, ↓Qb, Qd, Qe, Qf, Qg, Qh, Qi, Qj, Qk, Ql, Qm, Qn, Qo, Qp, Qq, Qr, Qs, Qt, Qu, Qv, Qw, Qx, Qy, ptrTo, Qz, QA, QB, QC, QD, QE, QF, QG, QH, QI, QJ, QK, QL, QM, QN, QO, QP, QQ, QR, QS, QT, QU, QV, QW, QX, QY, QZ, Ja, Jb, Jc, Jd, Je, Jf, Jg, Jh, Ji, Jj, Jk, Jl, Jm, Jn, Jo, Jp, Jq, Jr, Js, Jt, Nat.reduceAdd])
    exact hk _ (G22.trans e24)
  · have hf2 : fitL os kk lo hi ≠ [] := fun h => hf (List.length_eq_zero_iff.1 (by rw [← hfl, h]; rfl))
    obtain ⟨r1, r2, r5, r6⟩ := nx2 hf
    obtain ⟨r3, r4, r7, r8⟩ := ny2 hf2
    rw [r1, r3]
    rw [r2] at hux22
    rw [r4] at huy
    have haw := ren_near hpm q2 rfl hol12 hos hbA r5 r6 r7 r8
    have p1 := (fitL_bl q2 hkk r5).1
    have p2 := (fitL_bl (by omega) (by omega) r7).1
    rw [hol12] at p2
    have lp1 := p1.len
    have lp2 := p2.len
    have d0 : decide ((0 : Int) = 0) = true := by decide
    try simp (maxSteps := 4000000) (disch := first | omega | with_unfolding_all exact id rfl | with_unfolding_all exact Nat.le_of_ble_eq_true rfl | (simp only [Jd, Je, Jr, Js, Jt, Nat.reduceAdd, allOne, oneCell, Bool.and_self, Jc]; first | done | omega)) only [d0, ↓Qa, ↓Qb, Qd, Qe, Qf, Qg, Qh, Qi, Qj, Qk, Ql, Qm, Qn, Qo, Qp, Qq, Qr, Qs, Qt, Qu, Qv, Qw, Qx, Qy, ptrTo, Qz, QA, QB, QC, QD, QE, QF, QG, QH, QI, QJ, QK, QL, QM, QN, QO, QP, QQ, QR, QS, QT, QU, QV, QW, QX, QY, QZ, Ja, Jb, Jc, Jd, Je, Jf, Jg, Jh, Ji, Jj, Jk, Jl, Jm, Jn, Jo, Jp, Jq, Jr, Js, Jt, Nat.reduceAdd]
    repeat (rw [join_e]; try simp (maxSteps := 4000000) (disch := first | omega | with_unfolding_all exact id rfl | with_unfolding_all exact Nat.le_of_ble_eq_true rfl | (simp only [Jd, Je, Jr, Js, Jt, Nat.reduceAdd, allOne, oneCell, Bool.and_self, Jc]; first | done | omega)) only [d0, ↓Qa, ↓Qb, Qd, Qe, Qf, Qg, Qh, Qi, Qj, Qk, Ql, Qm, Qn, Qo, Qp, Qq, Qr, Qs, Qt, Qu, Qv, Qw, Qx, Qy, ptrTo, Qz, QA, QB, QC, QD, QE, QF, QG, QH, QI, QJ, QK, QL, QM, QN, QO, QP, QQ, QR, QS, QT, QU, QV, QW, QX, QY, QZ, Ja, Jb, Jc, Jd, Je, Jf, Jg, Jh, Ji, Jj, Jk, Jl, Jm, Jn, Jo, Jp, Jq, Jr, Js, Jt, Nat.reduceAdd])
    refine valid_sp hlf hux22 p1 q2 ?_
    try simp (maxSteps := 4000000) (disch := first | omega | with_unfolding_all exact id rfl | with_unfolding_all exact Nat.le_of_ble_eq_true rfl | (simp only [Jd, Je, Jr, Js, Jt, Nat.reduceAdd, allOne, oneCell, Bool.and_self, Jc]; first | done | omega)) only [d0, ↓Qa, ↓Qb, Qd, Qe, Qf, Qg, Qh, Qi, Qj, Qk, Ql, Qm, Qn, Qo, Qp, Qq, Qr, Qs, Qt, Qu, Qv, Qw, Qx, Qy, ptrTo, Qz, QA, QB, QC, QD, QE, QF, QG, QH, QI, QJ, QK, QL, QM, QN, QO, QP, QQ, QR, QS, QT, QU, QV, QW, QX, QY, QZ, Ja, Jb, Jc, Jd, Je, Jf, Jg, Jh, Ji, Jj, Jk, Jl, Jm, Jn, Jo, Jp, Jq, Jr, Js, Jt, Nat.reduceAdd]
    repeat (rw [join_e]; try simp (maxSteps := 4000000) (disch := first | omega | with_unfolding_all exact id rfl | with_unfolding_all exact Nat.le_of_ble_eq_true rfl | (simp only [Jd, Je, Jr, Js, Jt, Nat.reduceAdd, allOne, oneCell, Bool.and_self, Jc]; first | done | omega)) only [d0, ↓Qa, ↓Qb, Qd, Qe, Qf, Qg, Qh, Qi, Qj, Qk, Ql, Qm, Qn, Qo, Qp, Qq, Qr, Qs, Qt, Qu, Qv, Qw, Qx, Qy, ptrTo, Qz, QA, QB, QC, QD, QE, QF, QG, QH, QI, QJ, QK, QL, QM, QN, QO, QP, QQ, QR, QS, QT, QU, QV, QW, QX, QY, QZ, Ja, Jb, Jc, Jd, Je, Jf, Jg, Jh, Ji, Jj, Jk, Jl, Jm, Jn, Jo, Jp, Jq, Jr, Js, Jt, Nat.reduceAdd])
    refine valid_sp hlf huy p2 q2 ?_
    try simp (maxSteps := 4000000) (disch := first | omega | with_unfolding_all exact id rfl | with_unfolding_all exact Nat.le_of_ble_eq_true rfl | (simp only [Jd, Je, Jr, Js, Jt, Nat.reduceAdd, allOne, oneCell, Bool.and_self, Jc]; first | done | omega)) only [d0, ↓Qa, ↓Qb, Qd, Qe, Qf, Qg, Qh, Qi, Qj, Qk, Ql, Qm, Qn, Qo, Qp, Qq, Qr, Qs, Qt, Qu, Qv, Qw, Qx, Qy, ptrTo, Qz, QA, QB, QC, QD, QE, QF, QG, QH, QI, QJ, QK, QL, QM, QN, QO, QP, QQ, QR, QS, QT, QU, QV, QW, QX, QY, QZ, Ja, Jb, Jc, Jd, Je, Jf, Jg, Jh, Ji, Jj, Jk, Jl, Jm, Jn, Jo, Jp, Jq, Jr, Js, Jt, Nat.reduceAdd]
    repeat (rw [join_e]; try simp (maxSteps := 4000000) (disch := first | omega | with_unfolding_all exact id rfl | with_unfolding_all exact Nat.le_of_ble_eq_true rfl | (simp only [Jd, Je, Jr, Js, Jt, Nat.reduceAdd, allOne, oneCell, Bool.and_self, Jc]; first | done | omega)) only [d0, ↓Qa, ↓Qb, Qd, Qe, Qf, Qg, Qh, Qi, Qj, Qk, Ql, Qm, Qn, Qo, Qp, Qq, Qr, Qs, Qt, Qu, Qv, Qw, Qx, Qy, ptrTo, Qz, QA, QB, QC, QD, QE, QF, QG, QH, QI, QJ, QK, QL, QM, QN, QO, QP, QQ, QR, QS, QT, QU, QV, QW, QX, QY, QZ, Ja, Jb, Jc, Jd, Je, Jf, Jg, Jh, Ji, Jj, Jk, Jl, Jm, Jn, Jo, Jp, Jq, Jr, Js, Jt, Nat.reduceAdd])
    refine apart_sp hlf hux22 hua22 (by omega) (by omega) ?_
    refine apart_sp hlf huy huc22 (by omega) (by omega) ?_
    rw [haw]
    try simp (maxSteps := 4000000) (disch := first | omega | with_unfolding_all exact id rfl | with_unfolding_all exact Nat.le_of_ble_eq_true rfl | (simp only [Jd, Je, Jr, Js, Jt, Nat.reduceAdd, allOne, oneCell, Bool.and_self, Jc]; first | done | omega)) only [dd, ↓Qa, ↓Qb, Qd, Qe, Qf, Qg, Qh, Qi, Qj, Qk, Ql, Qm, Qn, Qo, Qp, Qq, Qr, Qs, Qt, Qu, Qv, Qw, Qx, Qy, ptrTo, Qz, QA, QB, QC, QD, QE, QF, QG, QH, QI, QJ, QK, QL, QM, QN, QO, QP, QQ, QR, QS, QT, QU, QV, QW, QX, QY, QZ, Ja, Jb, Jc, Jd, Je, Jf, Jg, Jh, Ji, Jj, Jk, Jl, Jm, Jn, Jo, Jp, Jq, Jr, Js, Jt, Nat.reduceAdd]
    repeat (rw [join_e]; try simp (maxSteps := 4000000) (disch := first | omega | with_unfolding_all exact id rfl | with_unfolding_all exact Nat.le_of_ble_eq_true rfl | (simp only [Jd, Je, Jr, Js, Jt, Nat.reduceAdd, allOne, oneCell, Bool.and_self, Jc]; first | done | omega)) only [dd, ↓Qa, ↓Qb, Qd, Qe, Qf, Qg, Qh, Qi, Qj, Qk, Ql, Qm, Qn, Qo, Qp, Qq, Qr, Qs, Qt, Qu, Qv, Qw, Qx, Qy, ptrTo, Qz, QA, QB, QC, QD, QE, QF, QG, QH, QI, QJ, QK, QL, QM, QN, QO, QP, QQ, QR, QS, QT, QU, QV, QW, QX, QY, QZ, Ja, Jb, Jc, Jd, Je, Jf, Jg, Jh, Ji, Jj, Jk, Jl, Jm, Jn, Jo, Jp, Jq, Jr, Js, Jt, Nat.reduceAdd])
    rw [s4, s5, (rc_facts (hR16.mono E22)).1, oOpt_e]
    refine tail m22 (Gt.refl _) _ _ hj10 fun zl zh m23 e23 il ih => ?_
    try simp (maxSteps := 4000000) (disch := first | omega | with_unfolding_all exact id rfl | with_unfolding_all exact Nat.le_of_ble_eq_true rfl | (simp only [Jd, Je, Jr, Js, Jt, Nat.reduceAdd, allOne, oneCell, Bool.and_self, Jc]; first | done | omega)) only [↓Qa, ↓Qb, Qd, Qe, Qf, Qg, Qh, Qi, Qj, Qk, Ql, Qm, Qn, Qo, Qp, Qq, Qr, Qs, Qt, Qu, Qv, Qw, Qx, Qy, ptrTo, Qz, QA, QB, QC, QD, QE, QF, QG, QH, QI, QJ, QK, QL, QM, QN, QO, QP, QQ, QR, QS, QT, QU, QV, QW, QX, QY, QZ, Ja, Jb, Jc, Jd, Je, Jf, Jg, Jh, Ji, Jj, Jk, Jl, Jm, Jn, Jo, Jp, Jq, Jr, Js, Jt, Nat.reduceAdd]
    rw [(rc_facts (hO16.mono (E22.trans e23))).1, oOpt_e]
    refine tail2 m23 e23 _ _ hj10 fun yl yh m24 e24 jl jh => ?_
    rw [← ren_lo hpm hos hbA il jl, ← ren_hi hpm hos hbA ih jh]
    try simp (maxSteps := 4000000) (disch := first | omega | with_unfolding_all exact id rfl | with_unfolding_all exact Nat.le_of_ble_eq_true rfl | (simp only [Jd, Je, Jr, Js, Jt, Nat.reduceAdd, allOne, oneCell, Bool.and_self, Jc]; first | done | omega)) only [dd, ↓Qa, ↓Qb, Qd, Qe, Qf, Qg, Qh, Qi, Qj, Qk, Ql, Qm, Qn, Qo, Qp, Qq, Qr, Qs, Qt, Qu, Qv, Qw, Qx, Qy, ptrTo, Qz, QA, QB, QC, QD, QE, QF, QG, QH, QI, QJ, QK, QL, QM, QN, QO, QP, QQ, QR, QS, QT, QU, QV, QW, QX, QY, QZ, Ja, Jb, Jc, Jd, Je, Jf, Jg, Jh, Ji, Jj, Jk, Jl, Jm, Jn, Jo, Jp, Jq, Jr, Js, Jt, Nat.reduceAdd]
    repeat (rw [join_e]; try simp (maxSteps := 4000000) (disch := first | omega | with_unfolding_all exact id rfl | with_unfolding_all exact Nat.le_of_ble_eq_true rfl | (simp only [Jd, Je, Jr, Js, Jt, Nat.reduceAdd, allOne, oneCell, Bool.and_self, Jc]; first | done | omega)) only [dd, ↓Qa, ↓Qb, Qd, Qe, Qf, Qg, Qh, Qi, Qj, Qk, Ql, Qm, Qn, Qo, Qp, Qq, Qr, Qs, Qt, Qu, Qv, Qw, Qx, Qy, ptrTo, Qz, QA, QB, QC, QD, QE, QF, QG, QH, QI, QJ, QK, QL, QM, QN, QO, QP, QQ, QR, QS, QT, QU, QV, QW, QX, QY, QZ, Ja, Jb, Jc, Jd, Je, Jf, Jg, Jh, Ji, Jj, Jk, Jl, Jm, Jn, Jo, Jp, Jq, Jr, Js, Jt, Nat.reduceAdd])
    refine works_sp (hT.mono (G22.trans e24)) ?_
    try simp (maxSteps := 4000000) (disch := first | omega | with_unfolding_all exact id rfl | with_unfolding_all exact Nat.le_of_ble_eq_true rfl | (simp only [Jd, Je, Jr, Js, Jt, Nat.reduceAdd, allOne, oneCell, Bool.and_self, Jc]; first | done | omega)) only [dd, ↓Qa, ↓Qb, Qd, Qe, Qf, Qg, Qh, Qi, Qj, Qk, Ql, Qm, Qn, Qo, Qp, Qq, Qr, Qs, Qt, Qu, Qv, Qw, Qx, Qy, ptrTo, Qz, QA, QB, QC, QD, QE, QF, QG, QH, QI, QJ, QK, QL, QM, QN, QO, QP, QQ, QR, QS, QT, QU, QV, QW, QX, QY, QZ, Ja, Jb, Jc, Jd, Je, Jf, Jg, Jh, Ji, Jj, Jk, Jl, Jm, Jn, Jo, Jp, Jq, Jr, Js, Jt, Nat.reduceAdd]
    repeat (rw [join_e]; try simp (maxSteps := 4000000) (disch := first | omega | with_unfolding_all exact id rfl | with_unfolding_all exact Nat.le_of_ble_eq_true rfl | (simp only [Jd, Je, Jr, Js, Jt, Nat.reduceAdd, allOne, oneCell, Bool.and_self, Jc]; first | done | omega)) only [dd, ↓Qa, ↓Qb, Qd, Qe, Qf, Qg, Qh, Qi, Qj, Qk, Ql, Qm, Qn, Qo, Qp, Qq, Qr, Qs, Qt, Qu, Qv, Qw, Qx, Qy, ptrTo, Qz, QA, QB, QC, QD, QE, QF, QG, QH, QI, QJ, QK, QL, QM, QN, QO, QP, QQ, QR, QS, QT, QU, QV, QW, QX, QY, QZ, Ja, Jb, Jc, Jd, Je, Jf, Jg, Jh, Ji, Jj, Jk, Jl, Jm, Jn, Jo, Jp, Jq, Jr, Js, Jt, Nat.reduceAdd])
    exact hk _ (G22.trans e24)
end
end Go.Vit
