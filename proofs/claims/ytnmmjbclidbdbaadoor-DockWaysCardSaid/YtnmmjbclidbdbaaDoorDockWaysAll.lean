/- The law DockWays: its walk. -/
import Derived.Test.YtnmmjbclidbdbaaDoorD2
set_option linter.unusedSimpArgs false
set_option linter.unusedVariables false
set_option maxRecDepth 20000
namespace Go.Vit
open Go Go.Proofs
attribute [local irreducible] runT loopS
theorem tagg60 : tagg Tryd.prog 60 = some false := by kernel_rfl
theorem load60 (m : Mem) (b : Nat) (x : Value) (h : m.rd b = some ⟨1, [x], none⟩) : aload Tryd.prog m 60 (.pointer (some ⟨b, 0, none⟩)) = some x := by
  unfold aload
  simp only [tagg60, h]
  rfl
theorem asum_e {P : Program} {m : Mem} {lt rt kt et : TypeId} {p : Value} {b : Nat} {es : List (Value × Value)} {t s0 : Int} (hl : aload P m lt p = some (.map (some b))) (hu : P.underlying rt = some (.map kt et)) (hm : mapAt m (.map (some b)) = some es) (hs : sumV es = some t)
    (h0 : 0 ≤ s0 ∧ s0 + t < 9223372036854775808) : asum P m lt rt p (.int .i64 s0) = some (.int .i64 (s0 + t)) := by
  unfold asum
  simp only [hl, hu, hm, hs]
  rw [decide_eq_true h0]
theorem sum_e {m : Mem} {b bm : Nat} {E : Ways} (hb : m.rd b = some ⟨1, [.map (some bm)], none⟩) (hm : m.rd bm = some ⟨0, [], some (entW E)⟩) (hs : sumW E < 1000000000) :
    asum Tryd.prog m 60 60 (.pointer (some ⟨b, 0, none⟩)) (.int .i64 0) = some (.int .i64 (sumW E : Int)) := by
  have h := asum_e (s0 := 0) (load60 m b _ hb) u60 (mapAt_e hm) (sumV_ent E) ⟨Int.le_refl _, by omega⟩
  rwa [Int.zero_add] at h
theorem madeW_bd {a0 most : Nat} (h : 0 < most) : 1 ≤ madeN a0 most ∧ madeN a0 most ≤ most := by
  unfold madeN
  have := Nat.mod_lt a0 h
  omega
section
variable {lf n L : Nat} {m : Mem} {k : Value → Mem → Option Unit}
/-- A law's carts are boxed, and made. -/
theorem cartsW_sp {a0 a1 most more : Nat} {gl : List Nat} (hlf : 1000000 ≤ lf) (hL : L ≤ m.next) (h0 : a0 < 256) (h1 : a1 < 256) (hlen : gl.length = 8) (hg : ∀ g ∈ gl, g < 256) (hm : 0 < most) (hm8 : most ≤ 8) (hmo : more ≤ 1)
    (hk : ∀ u m', Gt m m' → GN m.next m' u (madeL a1 gl (madeN a0 most) more) → k (.tuple ⟨[.int .i64 (madeN a0 most : Int), u]⟩) m' = some ()) :
    (oRes (abox m (sealV a0 a1 gl)) fun t2 m3 => oOpt (ldN m3 10 t2) fun t4 => runT (tab lf) (n + 1) 49 [t4, .int .i64 (most : Int), .int .i64 (more : Int)] L m3 k) = some () := by
  have hcl : (Value.int .u8 (a0 : Int) :: .int .u8 (a1 : Int) :: gl.map fun (g : Nat) => .int .u8 (g : Int)).length = 10 := by simp [hlen]
  have hsv : sealV a0 a1 gl = .agg ⟨.int .u8 (a0 : Int) :: .int .u8 (a1 : Int) :: gl.map fun (g : Nat) => .int .u8 (g : Int)⟩ := rfl
  rw [hsv, abox_e, cells_agg, oRes_e]
  have g1 := Mem.gt_push m ⟨1, .int .u8 (a0 : Int) :: .int .u8 (a1 : Int) :: gl.map (fun (g : Nat) => .int .u8 (g : Int)), none⟩
  have q1 : (m.push ⟨1, .int .u8 (a0 : Int) :: .int .u8 (a1 : Int) :: gl.map (fun (g : Nat) => .int .u8 (g : Int)), none⟩).rd m.next = some ⟨1, _, none⟩ := Mem.rd_push _ _
  generalize m.push ⟨1, .int .u8 (a0 : Int) :: .int .u8 (a1 : Int) :: gl.map (fun (g : Nat) => .int .u8 (g : Int)), none⟩ = m1 at g1 q1 ⊢
  have n1 := g1.next
  show oOpt (ldN m1 10 (.pointer (some ⟨m.next, 0, none⟩))) _ = _
  rw [ldN_u, q1, rdn_all hcl, oOpt_e]
  rw [← hsv]
  exact made_sp hlf (by omega) h0 h1 hlen hg hm hm8 hmo fun u m' e hu => hk u m' (g1.trans e) (hu.le n1)
theorem mkw1 {z a : Value} (hL : L ≤ m.next) (hc : a.cells.toList = [a]) (ha : allOne [a] = true) {F : Value → Value → Mem → Option Unit} (hk : ∀ m', Gt m m' → m'.rd m.next = some ⟨1, [a], none⟩ → m'.next = m.next + 1 → F (.pointer (some ⟨m.next, 0, none⟩)) Go.undef m' = some ()) :
    (oRes (anew m 1 [z] ptrTo) fun t m' => oRes (st1 1 L m' t a) (F t)) = some () := by
  rw [anew_eq, oRes_e]
  have hst : st1 1 L (m.push ⟨1, [z], none⟩) (ptrTo m.next) a = some (Go.undef, (m.push ⟨1, [z], none⟩).put m.next (some ⟨1, [a], none⟩)) := by
    show st1 1 L _ (.pointer (some ⟨m.next, 0, none⟩)) _ = _
    rw [st1_u, Mem.rd_push, hc]
    exact stw_e hL rfl (Nat.le_refl _) ha
  rw [hst, oRes_e]
  exact hk _ (Mem.put_gt (Mem.gt_push _ _) _ (Nat.le_refl _)) (Mem.rd_put_eq _ _ (by rw [Mem.push_next]; omega)) rfl
set_option maxHeartbeats 4000000 in
theorem wayslaw_sp {a0 a1 : Nat} {gl : List Nat} (hlf : 1000000 ≤ lf) (hL : L ≤ m.next) (hT : TabOk mTab m) (h0 : a0 < 256) (h1 : a1 < 256) (hlen : gl.length = 8) (hg : ∀ g ∈ gl, g < 256)
    (hk : ∀ m', Gt m m' → k (.bool true) m' = some ()) : runT (tab lf) (n + 60) 13 [sealV a0 a1 gl] L m k = some () := by
  rw [r13]; dsimp only [S13, iofNat, inegSucc]
  rw [uc_e, un0_e]
  refine cartsW_sp (n := n + 58) (most := 4) (more := 0) hlf hL h0 h1 hlen hg (by omega) (by omega) (by omega) fun v m1 e1 hv => ?_
  have n1 := e1.next
  have hN := madeW_bd (a0 := a0) (most := 4) (by omega)
  have hwl := madeL_len a1 gl (madeN a0 4) 0
  have hw := madeL_lt (a1 := a1) (gl := gl) (n := madeN a0 4) (more := 0) (by omega)
  generalize madeL a1 gl (madeN a0 4) 0 = w at hv hwl hw ⊢
  generalize madeN a0 4 = N at hN hwl hw ⊢
  obtain ⟨hN1, hN4⟩ := hN
  rw [Nat.add_zero] at hw
  have ld : ∀ (M : Mem) (q : Nat) (x : Value), M.rd q = some ⟨1, [x], none⟩ → ld1 M (.pointer (some ⟨q, 0, none⟩)) = some x := fun M q x h => by rw [ld1_u, h]; rfl
  rw [ax0, oOpt_e, ax1, oOpt_e]
  refine mkw1 (by omega) rfl rfl fun m2 e2 q2 n2 => ?_
  have hv2 := hv.inn.mono e2
  rw [hv2.ln, oOpt_e]
  refine loop_up w.length (fun i vs m' => ∃ s, vs = [s, .int .i64 (i : Int)] ∧ Gt m2 m' ∧ GN m2.next m' s (ddL (w.take i))) (by omega) ⟨_, rfl, Gt.refl _, GN.nil _ _⟩ ?_
  rintro i vs m3 hi ⟨s, rfl, e3, hs⟩ self hself
  have n3 := e3.next
  have hv3 := hv2.mono e3
  have hdl := (ddL_ok (w.take i)).2.2
  rw [List.length_take] at hdl
  rw [uc_e, uc_e, oInt_lss]
  refine oIf_dec (fun hc => ?_) (fun hc => ?_)
  · have hiw : i < w.length := by omega
    have hsn : ddL (w.take (i + 1)) = if w[i] ∈ ddL (w.take i) then ddL (w.take i) else ddL (w.take i) ++ [w[i]] := by
      rw [List.take_add_one, List.getElem?_eq_getElem hiw, Option.toList_some, ddL_snoc]
    rw [hv3.ia hiw, oOpt_e, hv3.ld hiw, oOpt_e]
    refine contains_sp hlf (show IL _ _ (ci (ddL (w.take i))) from hs.inn) (by rw [ci_length]; omega) ?_
    rw [aun_not, oOpt_e, join_e]
    by_cases hin : w[i] ∈ ddL (w.take i)
    · rw [decide_eq_true (mem_ci.2 hin)]
      show oIf (.bool false) _ _ = _
      rw [oIf_f]
      dsimp only
      rw [uc_e, oInt_add ⟨by omega, by omega⟩]
      refine hself hiw _ _ ⟨s, rfl, e3, ?_⟩
      rw [hsn, if_pos hin]; exact hs
    · rw [decide_eq_false fun h => hin (mem_ci.1 h)]
      show oIf (.bool true) _ _ = _
      obtain ⟨x2, m4, g1, g2, g3, g4⟩ := GN.snoc (P := Tryd.prog) (t := 22) (L := L) (m0 := m2) w[i] ael22 (by omega) hs (by omega) (by omega) e3 (Nat.le_refl _)
      rw [oIf_t, bs22, oRes_e, g1, oRes_e]
      dsimp only
      rw [uc_e, oInt_add ⟨by omega, by omega⟩]
      refine hself hiw _ _ ⟨x2, rfl, g3, ?_⟩
      rw [hsn, if_neg hin]; exact g2.le n3
  · have hiw : i = w.length := by omega
    subst hiw
    rw [List.take_length] at hs
    rw [Nat.min_self, List.take_length] at hdl
    obtain ⟨hdn, hdw, _⟩ := ddL_ok w
    have hdN : ∀ x ∈ ddL w, x < N := fun x hx => hw x (hdw x hx)
    clear hself hdw hi hc hv3
    generalize ddL w = d at hs hdl hdn hdN ⊢
    have hpN : d.length ≤ N := by omega
    have hsb : 0 < d.length → ∀ c, bid s = some c → c < m3.next := fun h c hc => Sl.bid_lt (show Sl 1 m3 s _ _ from hs.inn) (by rw [ci_length]; exact h) c hc
    rw [hs.ln, oOpt_e, amakeMap_e, oRes_e]
    have e4 := Mem.gt_push m3 ⟨0, [], some []⟩
    have q4 : (m3.push ⟨0, [], some []⟩).rd m3.next = some ⟨0, [], some []⟩ := Mem.rd_push _ _
    have n4 : (m3.push ⟨0, [], some []⟩).next = m3.next + 1 := Mem.push_next _ _
    generalize m3.push ⟨0, [], some []⟩ = m4 at e4 q4 n4 ⊢
    refine mkw1 (by omega) rfl rfl fun m5 e5 q5 n5 => ?_
    refine mkw1 (by omega) rfl rfl fun m6 e6 q6 n6 => ?_
    have E26 := ((e3.trans e4).trans e5).trans e6
    have E36 := (e4.trans e5).trans e6
    have E6 := (e1.trans e2).trans E26
    have q2 := (E26.kept _ (by omega)).trans q2
    have q4 := ((e5.trans e6).kept _ (by omega)).trans q4
    have q5 := (e6.kept _ (by omega)).trans q5
    have hTn := hT.1
    have hNp : N ^ d.length ≤ 256 := Nat.le_trans (Nat.pow_le_pow_left hN4 _) (Nat.le_trans (Nat.pow_le_pow_right (by omega) (show d.length ≤ 4 by omega)) (by decide))
    rw [ld m6 _ _ q2, oOpt_e]
    refine all_sp (n := n + 28) (ce := 30) (N := N) (p := d.length) (X := fun c => c = m3.next) (J := wwJ m3.next N (finW N d.length)) hlf (by omega) hN1 (by omega) (by omega) (by omega) (fun c hc => by omega)
      (waysEach hlf (by omega) q2 q5 q6 (by omega) (by omega) (by omega) hN1 hN4 hpN (by omega)) (fun o a b hab hj => ?_) ⟨N ^ d.length, [], q4, fin_go hN1 hN4 hpN, (fun q hq => (by cases hq)), hNp⟩ fun m7 e7 j7 => ?_
    · cases o with
      | some l => obtain ⟨f, E, j1, j2⟩ := hj; exact ⟨f, E, (hab _ (by omega)).trans j1, j2⟩
      | none => exact ⟨(hab _ (by omega)).trans hj.1, hj.2⟩
    have n7 := e7.next
    obtain ⟨q4, hlow⟩ := j7
    have E7 : Gt m m7 := GtX.gt E6 e7 fun c hc => by omega
    have q2 := (e7.kept _ (by omega) (by omega)).trans q2
    have q5 := (e7.kept _ (by omega) (by omega)).trans q5
    have q6 := (e7.kept _ (by omega) (by omega)).trans q6
    have hsk : ∀ c, m2.next ≤ c → c < m3.next → m7.rd c = m3.rd c := fun c h1 h2 => (e7.kept c (by omega) (by omega)).trans (E36.kept c h2)
    have hs7 := hs.keepL hsk
    have hval := fin_val hN1 hN4 hpN hdN rfl hdn
    have hsum := fin_sum hN1 hN4 hpN
    obtain ⟨hwE, hwV⟩ := ways_yes hN1 (by omega) hdN hdn hpN
    have hlowd : Low d := fun x hx => by have := hdN x hx; omega
    have hlowF : ∀ q ∈ finW N d.length, Low q.1 := fun q hq => (hlow q hq).1
    have hcw : cntW N d.length 0 < 1000000000 := Nat.lt_of_le_of_lt (cntW_le (by omega) d.length 0) (Nat.lt_of_le_of_lt (Nat.pow_le_pow_right (by omega) (show d.length ≤ 4 by omega)) (by decide))
    generalize finW N d.length = F at q4 hval hsum hlowF
    rw [ld m7 _ _ q2, oOpt_e]
    refine ways_sp hlf (by omega) (show IL _ _ (ci d) from hs7.inn) (by rw [ci_length]; omega) fun m8 e8 => ?_
    have n8 := e8.next
    have q2 := (e8.kept _ (by omega)).trans q2
    have q4 := (e8.kept _ (by omega)).trans q4
    have q5 := (e8.kept _ (by omega)).trans q5
    have q6 := (e8.kept _ (by omega)).trans q6
    have hs8 := hs7.mono e8
    have E8 := E7.trans e8
    rw [ax0, oOpt_e, ax1, oOpt_e, hwE, oInt_neq, show (!decide ((0 : Int) = 0)) = false from rfl, join_e, oGF_f, ld m8 _ _ q5, oOpt_e, ld m8 _ _ q6, oOpt_e, oCallV_e (hf := rfl)]
    show runT (tab lf) (n + 59) 53 [s] m8.next m8 _ = some ()
    refine name_sp hlf hs8.inn hlowd (by omega) ?_
    rw [lookW (L := L) u60 u9s z3 q4 hlowd hlowF, oOpt_e, hwV, hval, oInt_neq, decide_eq_true rfl]
    dsimp only
    rw [uc_e, Bool.not_true, oPick_f, oIf_f, sum_e q5 q4 (by omega), oOpt_e, ld m8 _ _ q2, oOpt_e]
    have hok : cOk (N : Int) (d.length : Int) := ⟨⟨by omega, by omega⟩, ⟨by omega, by omega⟩⟩
    have hcX : cX (N : Int) (d.length : Int) = (cntW N d.length 0 : Int) := by unfold cX; rw [if_pos hok, Int.toNat_natCast, Int.toNat_natCast]
    have hcE : cE (N : Int) (d.length : Int) = 0 := if_pos hok
    refine count_sp (n := n + 48) hlf (by omega) fun m9 e9 => ?_
    have n9 := e9.next
    have q2 := (e9.kept _ (by omega)).trans q2
    have hs9 := hs8.mono e9
    have E9 := E8.trans e9
    have t0 : decide ((0 : Int) = 0) = true := rfl
    rw [ax0, oOpt_e, ax1, oOpt_e, hcX, hcE, hsum, oOpt_e, ld m9 _ _ q2, oOpt_e, oInt_lss, join_e]
    refine oGT_dec (fun hlt => ?_) (fun hlt => ?_)
    · rw [oInt_gtr]
      dsimp only
      rw [uc_e, decide_eq_true hlt, oPick_t, join_e]
      refine oIf_dec (fun hp0 => ?_) (fun hp0 => ?_)
      · have hd0 : 0 < d.length := by omega
        rw [ld m9 _ _ q2, oOpt_e]
        refine clone_sp (Nat.le_refl _) hs9 (by omega) fun u m10 e10 hu => ?_
        have n10 := e10.next
        have hs10 := hs9.mono e10
        have hia : ia 1 s (.int .i64 0) = some (ep 1 s 0) := hs10.inn.ia (i := 0) hd0
        have hld : ld1 m10 (ep 1 s 0) = some (.int .i64 (d[0] : Int)) := hs10.inn.ld (i := 0) hd0
        obtain ⟨x2, m11, g1, g2, g3, g4⟩ := GN.snoc (P := Tryd.prog) (t := 22) (L := L) (m0 := m9) d[0] ael22 (by omega) hu (by omega) (by omega) e10 (Nat.le_refl _)
        have n11 := g3.next
        have p10 := ((e10.trans (Mem.gt_push m10 ⟨1, [.int .i64 (d[0] : Int)], none⟩)).kept m1.next (by omega)).trans q2
        have p11 := (g3.kept m1.next (by omega)).trans q2
        have hbE : bEq (some ⟨1, [.int .i64 (N : Int)], none⟩) (some ⟨1, [.int .i64 (N : Int)], none⟩) = true := by rw [bEq_ss, veqL_cons, veqL_nil, veq_int, Bool.and_true]
        rw [hia, oOpt_e, hld, oOpt_e, bs22, oRes_e, g1, oRes_e, oSm_u, p10, p11, hbE, oIf_t]
        refine ways_sp hlf (by omega) (show IL _ _ (ci (d ++ [d[0]])) from g2.inn) (by rw [ci_length, List.length_append, List.length_singleton]; omega) fun m12 e12 => ?_
        have E12 := (E9.trans g3).trans e12
        rw [ax0, oOpt_e, ax1, oOpt_e, ways_twice hN1 (by omega) hdN hdn (by omega) (List.getElem_mem hd0), oInt_neq, show (!decide ((6 : Int) = 6)) = false from rfl, oIf_f]
        dsimp only
        rw [oInt_eql, t0, join_e, oGT_t, oInt_eql, decide_eq_true rfl]
        try simp (disch := first | omega | with_unfolding_all exact id rfl | with_unfolding_all exact Nat.le_of_ble_eq_true rfl | (simp only [Jd, Je, Jr, Js, Jt, Nat.reduceAdd, allOne, oneCell, Bool.and_self, Jc]; first | done | omega)) only [↓Qa, ↓Qb, Qd, Qe, Qf, Qg, Qh, Qi, Qj, Qk, Ql, Qm, Qn, Qo, Qp, Qq, Qr, Qs, Qt, Qu, Qv, Qw, Qx, Qy, ptrTo, Qz, QA, QB, QC, QD, QE, QF, QG, QH, QI, QJ, QK, QL, QM, QN, QO, QP, QQ, QR, QS, QT, QU, QV, QW, QX, QY, QZ, Ja, Jb, Jc, Jd, Je, Jf, Jg, Jh, Ji, Jj, Jk, Jl, Jm, Jn, Jo, Jp, Jq, Jr, Js, Jt, Nat.reduceAdd]
        repeat (rw [join_e]; try simp (disch := first | omega | with_unfolding_all exact id rfl | with_unfolding_all exact Nat.le_of_ble_eq_true rfl | (simp only [Jd, Je, Jr, Js, Jt, Nat.reduceAdd, allOne, oneCell, Bool.and_self, Jc]; first | done | omega)) only [↓Qa, ↓Qb, Qd, Qe, Qf, Qg, Qh, Qi, Qj, Qk, Ql, Qm, Qn, Qo, Qp, Qq, Qr, Qs, Qt, Qu, Qv, Qw, Qx, Qy, ptrTo, Qz, QA, QB, QC, QD, QE, QF, QG, QH, QI, QJ, QK, QL, QM, QN, QO, QP, QQ, QR, QS, QT, QU, QV, QW, QX, QY, QZ, Ja, Jb, Jc, Jd, Je, Jf, Jg, Jh, Ji, Jj, Jk, Jl, Jm, Jn, Jo, Jp, Jq, Jr, Js, Jt, Nat.reduceAdd])
        rw [r15]
        refine SClosed_sp (cK := runT (tab lf) (n + 59)) (L := L) (hT.mono E12) ?_
        try simp (disch := first | omega | with_unfolding_all exact id rfl | with_unfolding_all exact Nat.le_of_ble_eq_true rfl | (simp only [Jd, Je, Jr, Js, Jt, Nat.reduceAdd, allOne, oneCell, Bool.and_self, Jc]; first | done | omega)) only [↓Qa, ↓Qb, Qd, Qe, Qf, Qg, Qh, Qi, Qj, Qk, Ql, Qm, Qn, Qo, Qp, Qq, Qr, Qs, Qt, Qu, Qv, Qw, Qx, Qy, ptrTo, Qz, QA, QB, QC, QD, QE, QF, QG, QH, QI, QJ, QK, QL, QM, QN, QO, QP, QQ, QR, QS, QT, QU, QV, QW, QX, QY, QZ, Ja, Jb, Jc, Jd, Je, Jf, Jg, Jh, Ji, Jj, Jk, Jl, Jm, Jn, Jo, Jp, Jq, Jr, Js, Jt, Nat.reduceAdd]
        repeat (rw [join_e]; try simp (disch := first | omega | with_unfolding_all exact id rfl | with_unfolding_all exact Nat.le_of_ble_eq_true rfl | (simp only [Jd, Je, Jr, Js, Jt, Nat.reduceAdd, allOne, oneCell, Bool.and_self, Jc]; first | done | omega)) only [↓Qa, ↓Qb, Qd, Qe, Qf, Qg, Qh, Qi, Qj, Qk, Ql, Qm, Qn, Qo, Qp, Qq, Qr, Qs, Qt, Qu, Qv, Qw, Qx, Qy, ptrTo, Qz, QA, QB, QC, QD, QE, QF, QG, QH, QI, QJ, QK, QL, QM, QN, QO, QP, QQ, QR, QS, QT, QU, QV, QW, QX, QY, QZ, Ja, Jb, Jc, Jd, Je, Jf, Jg, Jh, Ji, Jj, Jk, Jl, Jm, Jn, Jo, Jp, Jq, Jr, Js, Jt, Nat.reduceAdd])
        exact hk _ E12
      · dsimp only
        rw [oInt_eql, t0, join_e, oGT_t, oInt_eql, decide_eq_true rfl]
        try simp (disch := first | omega | with_unfolding_all exact id rfl | with_unfolding_all exact Nat.le_of_ble_eq_true rfl | (simp only [Jd, Je, Jr, Js, Jt, Nat.reduceAdd, allOne, oneCell, Bool.and_self, Jc]; first | done | omega)) only [↓Qa, ↓Qb, Qd, Qe, Qf, Qg, Qh, Qi, Qj, Qk, Ql, Qm, Qn, Qo, Qp, Qq, Qr, Qs, Qt, Qu, Qv, Qw, Qx, Qy, ptrTo, Qz, QA, QB, QC, QD, QE, QF, QG, QH, QI, QJ, QK, QL, QM, QN, QO, QP, QQ, QR, QS, QT, QU, QV, QW, QX, QY, QZ, Ja, Jb, Jc, Jd, Je, Jf, Jg, Jh, Ji, Jj, Jk, Jl, Jm, Jn, Jo, Jp, Jq, Jr, Js, Jt, Nat.reduceAdd]
        repeat (rw [join_e]; try simp (disch := first | omega | with_unfolding_all exact id rfl | with_unfolding_all exact Nat.le_of_ble_eq_true rfl | (simp only [Jd, Je, Jr, Js, Jt, Nat.reduceAdd, allOne, oneCell, Bool.and_self, Jc]; first | done | omega)) only [↓Qa, ↓Qb, Qd, Qe, Qf, Qg, Qh, Qi, Qj, Qk, Ql, Qm, Qn, Qo, Qp, Qq, Qr, Qs, Qt, Qu, Qv, Qw, Qx, Qy, ptrTo, Qz, QA, QB, QC, QD, QE, QF, QG, QH, QI, QJ, QK, QL, QM, QN, QO, QP, QQ, QR, QS, QT, QU, QV, QW, QX, QY, QZ, Ja, Jb, Jc, Jd, Je, Jf, Jg, Jh, Ji, Jj, Jk, Jl, Jm, Jn, Jo, Jp, Jq, Jr, Js, Jt, Nat.reduceAdd])
        rw [r15]
        refine SClosed_sp (cK := runT (tab lf) (n + 59)) (L := L) (hT.mono E9) ?_
        try simp (disch := first | omega | with_unfolding_all exact id rfl | with_unfolding_all exact Nat.le_of_ble_eq_true rfl | (simp only [Jd, Je, Jr, Js, Jt, Nat.reduceAdd, allOne, oneCell, Bool.and_self, Jc]; first | done | omega)) only [↓Qa, ↓Qb, Qd, Qe, Qf, Qg, Qh, Qi, Qj, Qk, Ql, Qm, Qn, Qo, Qp, Qq, Qr, Qs, Qt, Qu, Qv, Qw, Qx, Qy, ptrTo, Qz, QA, QB, QC, QD, QE, QF, QG, QH, QI, QJ, QK, QL, QM, QN, QO, QP, QQ, QR, QS, QT, QU, QV, QW, QX, QY, QZ, Ja, Jb, Jc, Jd, Je, Jf, Jg, Jh, Ji, Jj, Jk, Jl, Jm, Jn, Jo, Jp, Jq, Jr, Js, Jt, Nat.reduceAdd]
        repeat (rw [join_e]; try simp (disch := first | omega | with_unfolding_all exact id rfl | with_unfolding_all exact Nat.le_of_ble_eq_true rfl | (simp only [Jd, Je, Jr, Js, Jt, Nat.reduceAdd, allOne, oneCell, Bool.and_self, Jc]; first | done | omega)) only [↓Qa, ↓Qb, Qd, Qe, Qf, Qg, Qh, Qi, Qj, Qk, Ql, Qm, Qn, Qo, Qp, Qq, Qr, Qs, Qt, Qu, Qv, Qw, Qx, Qy, ptrTo, Qz, QA, QB, QC, QD, QE, QF, QG, QH, QI, QJ, QK, QL, QM, QN, QO, QP, QQ, QR, QS, QT, QU, QV, QW, QX, QY, QZ, Ja, Jb, Jc, Jd, Je, Jf, Jg, Jh, Ji, Jj, Jk, Jl, Jm, Jn, Jo, Jp, Jq, Jr, Js, Jt, Nat.reduceAdd])
        exact hk _ E9
    · dsimp only
      rw [uc_e, decide_eq_false hlt, oPick_f, join_e, oIf_f]
      dsimp only
      rw [oInt_eql, t0, join_e, oGT_t, oInt_eql, decide_eq_true rfl]
      try simp (disch := first | omega | with_unfolding_all exact id rfl | with_unfolding_all exact Nat.le_of_ble_eq_true rfl | (simp only [Jd, Je, Jr, Js, Jt, Nat.reduceAdd, allOne, oneCell, Bool.and_self, Jc]; first | done | omega)) only [↓Qa, ↓Qb, Qd, Qe, Qf, Qg, Qh, Qi, Qj, Qk, Ql, Qm, Qn, Qo, Qp, Qq, Qr, Qs, Qt, Qu, Qv, Qw, Qx, Qy, ptrTo, Qz, QA, QB, QC, QD, QE, QF, QG, QH, QI, QJ, QK, QL, QM, QN, QO, QP, QQ, QR, QS, QT, QU, QV, QW, QX, QY, QZ, Ja, Jb, Jc, Jd, Je, Jf, Jg, Jh, Ji, Jj, Jk, Jl, Jm, Jn, Jo, Jp, Jq, Jr, Js, Jt, Nat.reduceAdd]
      repeat (rw [join_e]; try simp (disch := first | omega | with_unfolding_all exact id rfl | with_unfolding_all exact Nat.le_of_ble_eq_true rfl | (simp only [Jd, Je, Jr, Js, Jt, Nat.reduceAdd, allOne, oneCell, Bool.and_self, Jc]; first | done | omega)) only [↓Qa, ↓Qb, Qd, Qe, Qf, Qg, Qh, Qi, Qj, Qk, Ql, Qm, Qn, Qo, Qp, Qq, Qr, Qs, Qt, Qu, Qv, Qw, Qx, Qy, ptrTo, Qz, QA, QB, QC, QD, QE, QF, QG, QH, QI, QJ, QK, QL, QM, QN, QO, QP, QQ, QR, QS, QT, QU, QV, QW, QX, QY, QZ, Ja, Jb, Jc, Jd, Je, Jf, Jg, Jh, Ji, Jj, Jk, Jl, Jm, Jn, Jo, Jp, Jq, Jr, Js, Jt, Nat.reduceAdd])
      rw [r15]
      refine SClosed_sp (cK := runT (tab lf) (n + 59)) (L := L) (hT.mono E9) ?_
      try simp (disch := first | omega | with_unfolding_all exact id rfl | with_unfolding_all exact Nat.le_of_ble_eq_true rfl | (simp only [Jd, Je, Jr, Js, Jt, Nat.reduceAdd, allOne, oneCell, Bool.and_self, Jc]; first | done | omega)) only [↓Qa, ↓Qb, Qd, Qe, Qf, Qg, Qh, Qi, Qj, Qk, Ql, Qm, Qn, Qo, Qp, Qq, Qr, Qs, Qt, Qu, Qv, Qw, Qx, Qy, ptrTo, Qz, QA, QB, QC, QD, QE, QF, QG, QH, QI, QJ, QK, QL, QM, QN, QO, QP, QQ, QR, QS, QT, QU, QV, QW, QX, QY, QZ, Ja, Jb, Jc, Jd, Je, Jf, Jg, Jh, Ji, Jj, Jk, Jl, Jm, Jn, Jo, Jp, Jq, Jr, Js, Jt, Nat.reduceAdd]
      repeat (rw [join_e]; try simp (disch := first | omega | with_unfolding_all exact id rfl | with_unfolding_all exact Nat.le_of_ble_eq_true rfl | (simp only [Jd, Je, Jr, Js, Jt, Nat.reduceAdd, allOne, oneCell, Bool.and_self, Jc]; first | done | omega)) only [↓Qa, ↓Qb, Qd, Qe, Qf, Qg, Qh, Qi, Qj, Qk, Ql, Qm, Qn, Qo, Qp, Qq, Qr, Qs, Qt, Qu, Qv, Qw, Qx, Qy, ptrTo, Qz, QA, QB, QC, QD, QE, QF, QG, QH, QI, QJ, QK, QL, QM, QN, QO, QP, QQ, QR, QS, QT, QU, QV, QW, QX, QY, QZ, Ja, Jb, Jc, Jd, Je, Jf, Jg, Jh, Ji, Jj, Jk, Jl, Jm, Jn, Jo, Jp, Jq, Jr, Js, Jt, Nat.reduceAdd])
      exact hk _ E9
end
end Go.Vit
