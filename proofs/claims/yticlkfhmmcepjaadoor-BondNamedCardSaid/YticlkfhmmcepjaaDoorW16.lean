/- The law BondNamed: its walk. -/
import Derived.Test.YticlkfhmmcepjaaDoorP3
set_option linter.unusedSimpArgs false
set_option linter.unusedVariables false
set_option maxRecDepth 20000
namespace Go.Vit
open Go Go.Proofs
attribute [local irreducible] runT loopS
theorem iaA_e {N b o i : Nat} (hi : i < N) : iaA N 1 (.pointer (some ⟨b, o, none⟩)) (.int .i64 (i : Int)) = some (.pointer (some ⟨b, o + i * 1, none⟩)) := by
  have hb : Nat.blt i N = true := by simpa using hi
  show iaA N 1 _ (.int .i64 (Int.ofNat i)) = _
  simp only [iaA, hb, natK_eq]
  rfl
theorem GN.snoc3 {P : Program} {t : TypeId} {y L L0 : Nat} {m0 m : Mem} {v : Value} {l : List Nat} (x : Nat) (ht : aelem P t = some (1, y)) (hy : y ≤ 134217728) (h : GN L0 m v l) (hl : l.length < 1048576) (hL : L ≤ L0) (e : Gt m0 m) (hm : m0.next ≤ L0) :
    ∃ u m', aappend P L (m.push ⟨1, [.int .i64 (x : Int)], none⟩) t v (slTo 1 m.next) = some (u, m') ∧ GN m.next m' u (l ++ [x]) ∧ Gt m0 m' ∧ m.next ≤ m'.next ∧ (∀ c, c < m.next → bid v ≠ some c → m'.rd c = m.rd c) := by
  have h1 : Sl 1 (m.push ⟨1, [.int .i64 (x : Int)], none⟩) (slTo 1 m.next) 1 [.int .i64 (x : Int)] := Gs.sl (L := m.next) (.inr ⟨m.next, Nat.le_refl _, rfl, Mem.rd_push _ _, rfl, by omega⟩)
  have hlc : (ci l).length = l.length := ci_length l
  have gp := Mem.gt_push m ⟨1, [.int .i64 (x : Int)], none⟩
  obtain ⟨u, m', h2, h3, h4, h5, h8⟩ := Gs.append2 (P := P) (L := L) (m0 := m0) ht (Gs.mono h gp) h1 (by omega) rfl (roomy_of (by omega) hy) rfl hL (e.trans gp) hm
  have h6 := gp.next
  have h7 : Gs 1 m.next m' u ((ci l).length + 1) ((ci l).map (Value.int .i64) ++ [.int .i64 (x : Int)]) := Gs.le h3 h6
  have h7' : GN m.next m' u (l ++ [x]) := by
    have hh : ci (l ++ [x]) = ci l ++ [(x : Int)] := by simp [ci]
    unfold GN GL
    rw [hh]
    simpa using h7
  exact ⟨u, m', h2, h7', h4, by omega, fun c hc hb => (h8 c (by omega) hb).trans (gp.kept c hc)⟩
section
variable {lf n L : Nat} {m : Mem} {k : Value → Mem → Option Unit}
set_option maxHeartbeats 4000000 in
theorem named_sp {a0 a1 : Nat} {gl ol : List Nat} (hlf : 1000000 ≤ lf) (hT : TabOk mTab m) (hL : L ≤ m.next) (h0 : a0 < 256) (h1 : a1 < 256) (hlen : gl.length = 8) (hg : ∀ g ∈ gl, g < 256) (hol : ol.length = 6) (hog : ∀ g ∈ ol, g < 256)
    (hk : ∀ m', Gt m m' → k (.bool true) m' = some ()) : runT (tab lf) (n + 9) 13 [sealV a0 a1 gl, .agg ⟨ol.map fun (g : Nat) => .int .u8 (g : Int)⟩] L m k = some () := by
  rw [r13]
  dsimp only [S13, iofNat, inegSucc]
  have hcl : (Value.int .u8 (a0 : Int) :: .int .u8 (a1 : Int) :: gl.map fun (g : Nat) => .int .u8 (g : Int)).length = 10 := by simp [hlen]
  have hsv : sealV a0 a1 gl = .agg ⟨.int .u8 (a0 : Int) :: .int .u8 (a1 : Int) :: gl.map fun (g : Nat) => .int .u8 (g : Int)⟩ := rfl
  have g0 := Mem.gt_push m ⟨1, .int .u8 (a0 : Int) :: .int .u8 (a1 : Int) :: gl.map (fun (g : Nat) => .int .u8 (g : Int)), none⟩
  have hs0 := Mem.rd_push m ⟨1, .int .u8 (a0 : Int) :: .int .u8 (a1 : Int) :: gl.map (fun (g : Nat) => .int .u8 (g : Int)), none⟩
  rw [uc_e, uc_e, un0_e, hsv, abox_e, cells_agg, oRes_e]
  generalize m.push ⟨1, .int .u8 (a0 : Int) :: .int .u8 (a1 : Int) :: gl.map (fun (g : Nat) => .int .u8 (g : Int)), none⟩ = m0 at g0 hs0 ⊢
  have g1 := Mem.gt_push m0 ⟨1, ol.map fun (g : Nat) => .int .u8 (g : Int), none⟩
  have ho1 : At (m0.push ⟨1, ol.map fun (g : Nat) => .int .u8 (g : Int), none⟩) m0.next _ := At.push m0 (ol.map fun (g : Nat) => .int .u8 (g : Int))
  have hs1 := (g1.kept _ (Mem.rd_lt hs0)).trans hs0
  rw [abox_e, cells_agg, oRes_e]
  generalize m0.push ⟨1, ol.map fun (g : Nat) => .int .u8 (g : Int), none⟩ = m1 at g1 ho1 hs1 ⊢
  have G1 := g0.trans g1
  have n1 := G1.next
  simp only [ptrTo]
  rw [ldN_u, hs1, rdn_all hcl, oOpt_e, ← hsv]
  refine made_sp (most := 6) hlf (by omega) h0 h1 hlen hg (.inr rfl) fun u m2 e2 hu => ?_
  have hnlt : ∀ g ∈ madeL a0 a1 gl 6, g < 2 ^ (1 + a0 % 6) := fun g h => madeL_lt h
  have hll := madeL_len a0 a1 6 gl
  have hN1 : 1 ≤ 1 + a0 % 6 := by omega
  have hN6 : 1 + a0 % 6 ≤ 6 := by have := Nat.mod_lt a0 (show 0 < 6 by omega); omega
  generalize madeL a0 a1 gl 6 = l at hu hnlt hll ⊢
  generalize 1 + a0 % 6 = N at hN1 hN6 hnlt ⊢
  have hp := pow_le64 hN6
  have hpos := Nat.two_pow_pos N
  have hl64 : l.length ≤ 64 := by omega
  have hlt64 : ∀ x ∈ l, x < 64 := fun x hx => by have := hnlt x hx; omega
  have hv2 := hu.inn
  clear hu
  obtain ⟨pu, cu, rfl⟩ := hv2.ex
  have ho2 := ho1.mono e2
  have G2 := G1.trans e2
  have n2 := G2.next
  try simp (maxSteps := 4000000) (disch := first | omega | with_unfolding_all exact id rfl | with_unfolding_all exact Nat.le_of_ble_eq_true rfl | (simp only [Mem.push_next, Mem.put_next, List.length_cons, List.length_nil, Nat.zero_add, Nat.reduceAdd, allOne, oneCell, Bool.and_self, Bool.and_true]; first | done | omega)) only [↓uc_e, ↓un0_e, oOpt_e, oRes_e, oIf_t, oIf_f, oGT_t, oGT_f, oGT_u, oGF_t, oGF_f, oGF_u, oPick_t, oPick_f, oInt_eql, oInt_neq, oInt_lss, oInt_leq, oInt_gtr, oInt_geq, aun_not, aextract_e, fa_e, abox_e, ptrTo, oCallV_e, decide_true, decide_false, Bool.not_true, Bool.not_false, List.getElem?_cons_zero, List.getElem?_cons_succ, List.cons_append, List.nil_append, cells_agg, cells_int, cells_slice, cells_bool, cells_ptr, ld1_u, ldN_u, st1_u, rdo_e, rdn_e, stw_e, anew_eq, Mem.push_next, Mem.put_next, Mem.rd_push, Mem.rd_push_eq, Mem.rd_push_lt, Mem.rd_put_eq, Mem.rd_put, List.take_zero, List.drop_zero, List.take_succ_cons, List.drop_succ_cons, List.drop_nil, List.take_nil, List.append_nil, List.length_cons, List.length_nil, Nat.zero_add, Nat.reduceAdd]
  have e3 : Gt m2 ((m2.push ⟨1, [.int .i64 0], none⟩).put m2.next (some ⟨1, [.int .i64 (N : Int)], none⟩)) := Mem.put_gt (Mem.gt_push _ _) _ (Nat.le_refl _)
  have hn3 : At ((m2.push ⟨1, [.int .i64 0], none⟩).put m2.next (some ⟨1, [.int .i64 (N : Int)], none⟩)) m2.next [.int .i64 (N : Int)] := Mem.rd_put_eq _ _ (by rw [Mem.push_next]; omega)
  have hx3 : ((m2.push ⟨1, [.int .i64 0], none⟩).put m2.next (some ⟨1, [.int .i64 (N : Int)], none⟩)).next = m2.next + 1 := rfl
  generalize (m2.push ⟨1, [.int .i64 0], none⟩).put m2.next (some ⟨1, [.int .i64 (N : Int)], none⟩) = m3 at e3 hn3 hx3 ⊢
  have ho3 := ho2.mono e3
  have hv3 := hv2.mono e3
  have G3 := G2.trans e3
  have e4 := Mem.gt_push m3 ⟨1, [.slice none 0 0], none⟩
  have ht4 : At (m3.push ⟨1, [.slice none 0 0], none⟩) m3.next [.slice none 0 0] := At.push m3 _
  have hx4 : (m3.push ⟨1, [.slice none 0 0], none⟩).next = m3.next + 1 := Mem.push_next _ _
  generalize m3.push ⟨1, [.slice none 0 0], none⟩ = m4 at e4 ht4 hx4 ⊢
  rw [← hx3]
  refine loop_up N (fun i vs m' => ∃ u, vs = [u, .int .i64 (i : Int)] ∧ Gt m4 m' ∧ GN m4.next m' u (List.range i)) (by omega) ⟨_, rfl, Gt.refl _, GN.nil _ _⟩ ?_
  rintro i vs m5 hi ⟨w, rfl, e5, hw⟩ self hself
  have n5 := e5.next
  try simp (maxSteps := 4000000) (disch := first | omega | with_unfolding_all exact id rfl | with_unfolding_all exact Nat.le_of_ble_eq_true rfl | (simp only [Mem.push_next, Mem.put_next, List.length_cons, List.length_nil, Nat.zero_add, Nat.reduceAdd, allOne, oneCell, Bool.and_self, Bool.and_true]; first | done | omega)) only [↓uc_e, ↓un0_e, oOpt_e, oRes_e, oIf_t, oIf_f, oGT_t, oGT_f, oGT_u, oGF_t, oGF_f, oGF_u, oPick_t, oPick_f, oInt_eql, oInt_neq, oInt_lss, oInt_leq, oInt_gtr, oInt_geq, aun_not, aextract_e, fa_e, abox_e, ptrTo, oCallV_e, decide_true, decide_false, Bool.not_true, Bool.not_false, List.getElem?_cons_zero, List.getElem?_cons_succ, List.cons_append, List.nil_append, cells_agg, cells_int, cells_slice, cells_bool, cells_ptr, ld1_u, ldN_u, st1_u, rdo_e, rdn_e, stw_e, anew_eq, Mem.push_next, Mem.put_next, Mem.rd_push, Mem.rd_push_eq, Mem.rd_push_lt, Mem.rd_put_eq, Mem.rd_put, List.take_zero, List.drop_zero, List.take_succ_cons, List.drop_succ_cons, List.drop_nil, List.take_nil, List.append_nil, List.length_cons, List.length_nil, Nat.zero_add, Nat.reduceAdd]
  refine oIf_dec (fun h3 => ?_) (fun h3 => ?_)
  · have h4 : i < N := by omega
    obtain ⟨w2, m6, h8, h9, h10, h11⟩ := GN.snoc (P := Tryd.prog) (t := 22) (L := L) (m0 := m4) i ael22 (by omega) hw (by rw [List.length_range]; omega) (by have := G3.next; omega) e5 (Nat.le_refl _)
    rw [bs22, oRes_e, h8, oRes_e, oInt_add ⟨by omega, by omega⟩]
    refine hself h4 _ _ ⟨w2, rfl, h10, ?_⟩
    rw [List.range_succ]
    exact h9.le n5
  · have h4 : i = N := by omega
    subst h4
    clear hself h3
    obtain ⟨b, cs, hbb, rfl, hb5, hcs5, hcl5⟩ : ∃ b cs, m4.next ≤ b ∧ w = .slice (some ⟨b, 0, none⟩) i i ∧ m5.rd b = some ⟨1, cs, none⟩ ∧ cs = (ci (List.range i)).map (Value.int .i64) ∧ cs.length = i := by
      rcases hw with ⟨_, h2, _⟩ | ⟨b, h1, h2, h3, h4, _⟩
      · rw [ci_length, List.length_range] at h2; omega
      · rw [ci_length, List.length_range] at h2 h4
        exact ⟨b, _, h1, h2, h3, rfl, by omega⟩
    have hn5 := (hn3.mono e4).mono e5
    have ht5 := ht4.mono e5
    try simp (maxSteps := 4000000) (disch := first | omega | with_unfolding_all exact id rfl | with_unfolding_all exact Nat.le_of_ble_eq_true rfl | (simp only [Mem.push_next, Mem.put_next, List.length_cons, List.length_nil, Nat.zero_add, Nat.reduceAdd, allOne, oneCell, Bool.and_self, Bool.and_true]; first | done | omega)) only [hn5.rd, ↓uc_e, ↓un0_e, oOpt_e, oRes_e, oIf_t, oIf_f, oGT_t, oGT_f, oGT_u, oGF_t, oGF_f, oGF_u, oPick_t, oPick_f, oInt_eql, oInt_neq, oInt_lss, oInt_leq, oInt_gtr, oInt_geq, aun_not, aextract_e, fa_e, abox_e, ptrTo, oCallV_e, decide_true, decide_false, Bool.not_true, Bool.not_false, List.getElem?_cons_zero, List.getElem?_cons_succ, List.cons_append, List.nil_append, cells_agg, cells_int, cells_slice, cells_bool, cells_ptr, ld1_u, ldN_u, st1_u, rdo_e, rdn_e, stw_e, anew_eq, Mem.push_next, Mem.put_next, Mem.rd_push, Mem.rd_push_eq, Mem.rd_push_lt, Mem.rd_put_eq, Mem.rd_put, List.take_zero, List.drop_zero, List.take_succ_cons, List.drop_succ_cons, List.drop_nil, List.take_nil, List.append_nil, List.length_cons, List.length_nil, Nat.zero_add, Nat.reduceAdd]
    have n3 := G3.next
    have hi6 : i ≤ 6 := hN6
    have e35 : Gt m3 m5 := e4.trans e5
    refine loop_up i (fun h vs m' => ∃ w to left cs, vs = [.slice (some ⟨b, 0, none⟩) (i - h) i, .int .i64 (h : Int)] ∧ Gt m3 m' ∧ m'.rd m3.next = some ⟨1, [w], none⟩ ∧ GN m4.next m' w to ∧ m'.rd b = some ⟨1, cs, none⟩ ∧ cs.length = i ∧ left.length = i - h ∧ cs.take (i - h) = (ci left).map (Value.int .i64) ∧ (to ++ left).Perm (List.range i) ∧ bid w ≠ some b) (by omega)
      ⟨.slice none 0 0, [], List.range i, cs, rfl, e35, ht5, GN.nil _ _, hb5, hcl5, by rw [List.length_range]; rfl, by rw [Nat.sub_zero, List.take_of_length_le (by omega), hcs5], List.Perm.refl _, by intro h; cases h⟩ ?_
    clear hcs5 hcl5 cs hb5 ht5 hn5
    rintro h vs m7 hh ⟨w, to, left, cs, rfl, e7, ht7, hw7, hb7, hcl7, hll7, hct7, hpm, hbw⟩ self hself
    have hto := hpm.length_eq
    rw [List.length_append, List.length_range] at hto
    have hbm := Mem.rd_lt hb7
    have htm := Mem.rd_lt ht7
    have ho7 := ho3.mono e7
    try simp (maxSteps := 4000000) (disch := first | omega | with_unfolding_all exact id rfl | with_unfolding_all exact Nat.le_of_ble_eq_true rfl | (simp only [Mem.push_next, Mem.put_next, List.length_cons, List.length_nil, Nat.zero_add, Nat.reduceAdd, allOne, oneCell, Bool.and_self, Bool.and_true]; first | done | omega)) only [↓uc_e, ↓un0_e, oOpt_e, oRes_e, oIf_t, oIf_f, oGT_t, oGT_f, oGT_u, oGF_t, oGF_f, oGF_u, oPick_t, oPick_f, oInt_eql, oInt_neq, oInt_lss, oInt_leq, oInt_gtr, oInt_geq, aun_not, aextract_e, fa_e, abox_e, ptrTo, oCallV_e, decide_true, decide_false, Bool.not_true, Bool.not_false, List.getElem?_cons_zero, List.getElem?_cons_succ, List.cons_append, List.nil_append, cells_agg, cells_int, cells_slice, cells_bool, cells_ptr, ld1_u, ldN_u, st1_u, rdo_e, rdn_e, stw_e, anew_eq, Mem.push_next, Mem.put_next, Mem.rd_push, Mem.rd_push_eq, Mem.rd_push_lt, Mem.rd_put_eq, Mem.rd_put, List.take_zero, List.drop_zero, List.take_succ_cons, List.drop_succ_cons, List.drop_nil, List.take_nil, List.append_nil, List.length_cons, List.length_nil, Nat.zero_add, Nat.reduceAdd]
    refine oIf_dec (fun h3 => ?_) (fun h3 => ?_)
    · have h4 : h < i := by omega
      have h5 : h < ol.length := by omega
      have h6 := hog _ (List.getElem_mem h5)
      have hcell : (ol.map fun (g : Nat) => Value.int .u8 (g : Int))[0 + h * 1]? = some (.int .u8 (ol[h] : Int)) := by
        rw [show 0 + h * 1 = h by omega, List.getElem?_map, List.getElem?_eq_getElem h5]; rfl
      rw [iaA_e (by omega), oOpt_e, ld1_u, ho7.rd, rdo_e, hcell, oOpt_e, oCv_nat (by omega), ln_e, oOpt_e, oInt_remN (by omega)]
      have hq : ol[h] % (i - h) < i - h := Nat.mod_lt _ (by omega)
      generalize ol[h] % (i - h) = q at hq ⊢
      have hql : q < left.length := by omega
      have hcq : cs[0 + q * 1]? = some (.int .i64 ((left[q] : Nat) : Int)) := by
        have := congrArg (fun x => x[q]?) hct7
        simp only [List.getElem?_take, if_pos hq] at this
        rw [show 0 + q * 1 = q by omega, this]
        simp [ci, hql]
      rw [ht7, rdo_e, List.getElem?_cons_zero, oOpt_e, ia_e (sz := 1) hq, oOpt_e, ld1_u, hb7, rdo_e, hcq, oOpt_e]
      obtain ⟨u2, m8, h8, h9, e8, h10, hkeep⟩ := GN.snoc3 (P := Tryd.prog) (t := 22) (L := L) (m0 := m3) left[q] ael22 (by omega) hw7 (by omega) (by omega) e7 (by omega)
      have hfw : ∀ c, c < m4.next → bid w ≠ some c := fun c hc hb => by have := hw7.fr c hb; omega
      have ht8 : m8.rd m3.next = some ⟨1, [w], none⟩ := (hkeep _ htm (hfw _ (by omega))).trans ht7
      have hb8 : m8.rd b = some ⟨1, cs, none⟩ := (hkeep _ hbm hbw).trans hb7
      obtain ⟨p2, c2, hu2⟩ := h9.ex
      have hst := st_set (L := L) (x := u2) ht8 (q := 0) (by simp) (by omega) (by rw [hu2]; rfl) (by rw [hu2]; rfl)
      rw [st1_u] at hst
      rw [bs22, oRes_e, h8, oRes_e, hst, oRes_e, oInt_add ⟨by omega, by omega⟩]
      have ht9 : (m8.put m3.next (some ⟨1, [w].set 0 u2, none⟩)).rd m3.next = some ⟨1, [u2], none⟩ := Mem.rd_put_eq _ _ (Mem.rd_lt ht8)
      have hk9 : ∀ c, c ≠ m3.next → (m8.put m3.next (some ⟨1, [w].set 0 u2, none⟩)).rd c = m8.rd c := fun c hc => rd_other hc
      have hn9 : (m8.put m3.next (some ⟨1, [w].set 0 u2, none⟩)).next = m8.next := rfl
      generalize m8.put m3.next (some ⟨1, [w].set 0 u2, none⟩) = m9 at ht9 hk9 hn9 ⊢
      refine delete_sp (l := left) hlf (by omega) ((hk9 b (by omega)).trans hb8) hcl7 hi6 (by omega) hll7 hct7 hq fun m10 cs2 hk10 hn10 hb10 hcl10 hct10 => ?_
      rw [oInt_add ⟨by omega, by omega⟩]
      refine hself h4 _ _ ⟨u2, to ++ [left[q]], left.eraseIdx q, cs2, rfl, ⟨by have := e8.next; omega, fun c hc => ?_⟩, ?_, ?_, hb10, hcl10, ?_, ?_, ?_, ?_⟩
      · rw [hk10 c (by omega), hk9 c (by omega), e8.kept c hc]
      · rw [hk10 _ (by omega), ht9]
      · rcases h9 with ⟨a1, a2, a3⟩ | ⟨b2, a1, a2, a3, a4⟩
        · exact .inl ⟨a1, a2, a3⟩
        · refine .inr ⟨b2, by have := e7.next; have := e35.next; omega, a2, ?_, a4⟩
          rw [hk10 _ (by omega), hk9 _ (by omega), a3]
      · rw [List.length_eraseIdx, if_pos hql]; omega
      · rw [show i - (h + 1) = i - h - 1 by omega]; exact hct10
      · refine List.Perm.trans ?_ hpm
        rw [List.append_assoc]
        refine List.Perm.append_left _ ?_
        rw [erase_take]
        refine (List.perm_middle.symm : (left[q] :: (left.take q ++ left.drop (q + 1))).Perm _).trans ?_
        rw [← List.drop_eq_getElem_cons hql, List.take_append_drop]
      · intro hb; have := h9.fr b hb; omega
    · have h4 : h = i := by omega
      subst h4
      clear hself h3 hb7 hct7 hbm hbw
      have hle : left = [] := List.length_eq_zero_iff.1 (by omega)
      subst hle
      rw [List.append_nil] at hpm
      have R : Ren to h := ⟨hpm, hi6⟩
      have G7 := G3.trans e7
      have n7 := G7.next
      have hn7 := hn3.mono e7
      have hv7 := hv3.mono e7
      have htw : At m7 m3.next [w] := ht7
      have htl := R.len
      have hto6 : ∀ x ∈ to, x < 6 := fun x hx => by have := R.lt hx; omega
      have hwi := hw7.inn
      clear hw7 ht7
      try simp (maxSteps := 4000000) (disch := first | omega | with_unfolding_all exact id rfl | with_unfolding_all exact Nat.le_of_ble_eq_true rfl | (simp only [Mem.push_next, Mem.put_next, List.length_cons, List.length_nil, Nat.zero_add, Nat.reduceAdd, allOne, oneCell, Bool.and_self, Bool.and_true]; first | done | omega)) only [hn7.rd, ↓uc_e, ↓un0_e, oOpt_e, oRes_e, oIf_t, oIf_f, oGT_t, oGT_f, oGT_u, oGF_t, oGF_f, oGF_u, oPick_t, oPick_f, oInt_eql, oInt_neq, oInt_lss, oInt_leq, oInt_gtr, oInt_geq, aun_not, aextract_e, fa_e, abox_e, ptrTo, oCallV_e, decide_true, decide_false, Bool.not_true, Bool.not_false, List.getElem?_cons_zero, List.getElem?_cons_succ, List.cons_append, List.nil_append, cells_agg, cells_int, cells_slice, cells_bool, cells_ptr, ld1_u, ldN_u, st1_u, rdo_e, rdn_e, stw_e, anew_eq, Mem.push_next, Mem.put_next, Mem.rd_push, Mem.rd_push_eq, Mem.rd_push_lt, Mem.rd_put_eq, Mem.rd_put, List.take_zero, List.drop_zero, List.take_succ_cons, List.drop_succ_cons, List.drop_nil, List.take_nil, List.append_nil, List.length_cons, List.length_nil, Nat.zero_add, Nat.reduceAdd]
      refine rule_sp (l := ci l) (by omega) hv7 fun m8 e8 => ?_
      have n8 := e8.next
      try simp (maxSteps := 4000000) (disch := first | omega | with_unfolding_all exact id rfl | with_unfolding_all exact Nat.le_of_ble_eq_true rfl | (simp only [Mem.push_next, Mem.put_next, List.length_cons, List.length_nil, Nat.zero_add, Nat.reduceAdd, allOne, oneCell, Bool.and_self, Bool.and_true]; first | done | omega)) only [(hn7.mono e8).rd, ↓uc_e, ↓un0_e, oOpt_e, oRes_e, oIf_t, oIf_f, oGT_t, oGT_f, oGT_u, oGF_t, oGF_f, oGF_u, oPick_t, oPick_f, oInt_eql, oInt_neq, oInt_lss, oInt_leq, oInt_gtr, oInt_geq, aun_not, aextract_e, fa_e, abox_e, ptrTo, oCallV_e, decide_true, decide_false, Bool.not_true, Bool.not_false, List.getElem?_cons_zero, List.getElem?_cons_succ, List.cons_append, List.nil_append, cells_agg, cells_int, cells_slice, cells_bool, cells_ptr, ld1_u, ldN_u, st1_u, rdo_e, rdn_e, stw_e, anew_eq, Mem.push_next, Mem.put_next, Mem.rd_push, Mem.rd_push_eq, Mem.rd_push_lt, Mem.rd_put_eq, Mem.rd_put, List.take_zero, List.drop_zero, List.take_succ_cons, List.drop_succ_cons, List.drop_nil, List.take_nil, List.append_nil, List.length_cons, List.length_nil, Nat.zero_add, Nat.reduceAdd]
      refine moved_sp (to := to) (w := w) hlf (Nat.le_refl _) hi6 (hn7.mono e8) (htw.mono e8) (hwi.mono e8) hto6 htl (hv7.mono e8) hl64 hlt64 fun u9 m9 e9 hu9 => ?_
      have E9 := e8.trans e9
      have n9 := E9.next
      have hr : (l.map fun g => renTo to g h) = rens to h l := rfl
      rw [hr] at hu9
      have hrl : (rens to h l).length ≤ 64 := by unfold rens; rw [List.length_map]; exact hl64
      have hrlt : ∀ g ∈ rens to h l, g < 2 ^ h := fun g hg => rens_lt R hg
      refine rule_sp (l := ci (rens to h l)) (Nat.le_refl _) hu9.inn fun m10 e10 => ?_
      have E10 := E9.trans e10
      have n10 := (G7.trans E10).next
      have hu10 := hu9.inn.mono e10
      clear hu9
      obtain ⟨pv, cv, rfl⟩ := hu10.ex
      try simp (maxSteps := 4000000) (disch := first | omega | with_unfolding_all exact id rfl | with_unfolding_all exact Nat.le_of_ble_eq_true rfl | (simp only [Mem.push_next, Mem.put_next, List.length_cons, List.length_nil, Nat.zero_add, Nat.reduceAdd, allOne, oneCell, Bool.and_self, Bool.and_true]; first | done | omega)) only [↓uc_e, ↓un0_e, oOpt_e, oRes_e, oIf_t, oIf_f, oGT_t, oGT_f, oGT_u, oGF_t, oGF_f, oGF_u, oPick_t, oPick_f, oInt_eql, oInt_neq, oInt_lss, oInt_leq, oInt_gtr, oInt_geq, aun_not, aextract_e, fa_e, abox_e, ptrTo, oCallV_e, decide_true, decide_false, Bool.not_true, Bool.not_false, List.getElem?_cons_zero, List.getElem?_cons_succ, List.cons_append, List.nil_append, cells_agg, cells_int, cells_slice, cells_bool, cells_ptr, ld1_u, ldN_u, st1_u, rdo_e, rdn_e, stw_e, anew_eq, Mem.push_next, Mem.put_next, Mem.rd_push, Mem.rd_push_eq, Mem.rd_push_lt, Mem.rd_put_eq, Mem.rd_put, List.take_zero, List.drop_zero, List.take_succ_cons, List.drop_succ_cons, List.drop_nil, List.take_nil, List.append_nil, List.length_cons, List.length_nil, Nat.zero_add, Nat.reduceAdd]
      have e12 : Gt m10 ((((m10.push ⟨1, [.int .i64 0, .slice none 0 0], none⟩).push ⟨1, [.int .i64 0, .slice none 0 0], none⟩).put m10.next (some ⟨1, [.int .i64 (h : Int), .slice pu l.length cu], none⟩)).put (m10.next + 1) (some ⟨1, [.int .i64 (h : Int), .slice pv (rens to h l).length cv], none⟩)) := Mem.put_gt (Mem.put_gt ((Mem.gt_push _ _).trans (Mem.gt_push _ _)) _ (Nat.le_refl _)) _ (by omega)
      have hr12 : At ((((m10.push ⟨1, [.int .i64 0, .slice none 0 0], none⟩).push ⟨1, [.int .i64 0, .slice none 0 0], none⟩).put m10.next (some ⟨1, [.int .i64 (h : Int), .slice pu l.length cu], none⟩)).put (m10.next + 1) (some ⟨1, [.int .i64 (h : Int), .slice pv (rens to h l).length cv], none⟩)) m10.next [.int .i64 (h : Int), .slice pu l.length cu] := At.put (Mem.rd_put_eq _ _ (by rw [Mem.push_next, Mem.push_next]; omega)) (by omega) _
      have hq12 : At ((((m10.push ⟨1, [.int .i64 0, .slice none 0 0], none⟩).push ⟨1, [.int .i64 0, .slice none 0 0], none⟩).put m10.next (some ⟨1, [.int .i64 (h : Int), .slice pu l.length cu], none⟩)).put (m10.next + 1) (some ⟨1, [.int .i64 (h : Int), .slice pv (rens to h l).length cv], none⟩)) (m10.next + 1) [.int .i64 (h : Int), .slice pv (rens to h l).length cv] := Mem.rd_put_eq _ _ (by rw [Mem.put_next, Mem.push_next, Mem.push_next]; omega)
      generalize (((m10.push ⟨1, [.int .i64 0, .slice none 0 0], none⟩).push ⟨1, [.int .i64 0, .slice none 0 0], none⟩).put m10.next (some ⟨1, [.int .i64 (h : Int), .slice pu l.length cu], none⟩)).put (m10.next + 1) (some ⟨1, [.int .i64 (h : Int), .slice pv (rens to h l).length cv], none⟩) = m12 at e12 hr12 hq12 ⊢
      have E12 := E10.trans e12
      have G12 := G7.trans E12
      have n12 := G12.next
      have hv12 := hv7.mono E12
      have hu12 := hu10.mono e12
      have hn12 := hn7.mono E12
      have htw12 := htw.mono E12
      have hwi12 := hwi.mono E12
      have hT12 := hT.mono G12
      clear hv7 hu10 hn7 htw hwi
      try simp (maxSteps := 4000000) (disch := first | omega | with_unfolding_all exact id rfl | with_unfolding_all exact Nat.le_of_ble_eq_true rfl | (simp only [Mem.push_next, Mem.put_next, List.length_cons, List.length_nil, Nat.zero_add, Nat.reduceAdd, allOne, oneCell, Bool.and_self, Bool.and_true]; first | done | omega)) only [hr12.rd, ↓uc_e, ↓un0_e, oOpt_e, oRes_e, oIf_t, oIf_f, oGT_t, oGT_f, oGT_u, oGF_t, oGF_f, oGF_u, oPick_t, oPick_f, oInt_eql, oInt_neq, oInt_lss, oInt_leq, oInt_gtr, oInt_geq, aun_not, aextract_e, fa_e, abox_e, ptrTo, oCallV_e, decide_true, decide_false, Bool.not_true, Bool.not_false, List.getElem?_cons_zero, List.getElem?_cons_succ, List.cons_append, List.nil_append, cells_agg, cells_int, cells_slice, cells_bool, cells_ptr, ld1_u, ldN_u, st1_u, rdo_e, rdn_e, stw_e, anew_eq, Mem.push_next, Mem.put_next, Mem.rd_push, Mem.rd_push_eq, Mem.rd_push_lt, Mem.rd_put_eq, Mem.rd_put, List.take_zero, List.drop_zero, List.take_succ_cons, List.drop_succ_cons, List.drop_nil, List.take_nil, List.append_nil, List.length_cons, List.length_nil, Nat.zero_add, Nat.reduceAdd]
      refine barred1_sp (l := ci l) hlf (by omega) hv12 fun z1 m13 e13 hz1 => ?_
      have n13 := e13.next
      rw [chk_ci hN1 hN6 hl64 hnlt]
      rw [barredX_ci hN1 hN6 hl64 hnlt] at hz1
      try simp (maxSteps := 4000000) (disch := first | omega | with_unfolding_all exact id rfl | with_unfolding_all exact Nat.le_of_ble_eq_true rfl | (simp only [Mem.push_next, Mem.put_next, List.length_cons, List.length_nil, Nat.zero_add, Nat.reduceAdd, allOne, oneCell, Bool.and_self, Bool.and_true]; first | done | omega)) only [(hq12.mono e13).rd, ↓uc_e, ↓un0_e, oOpt_e, oRes_e, oIf_t, oIf_f, oGT_t, oGT_f, oGT_u, oGF_t, oGF_f, oGF_u, oPick_t, oPick_f, oInt_eql, oInt_neq, oInt_lss, oInt_leq, oInt_gtr, oInt_geq, aun_not, aextract_e, fa_e, abox_e, ptrTo, oCallV_e, decide_true, decide_false, Bool.not_true, Bool.not_false, List.getElem?_cons_zero, List.getElem?_cons_succ, List.cons_append, List.nil_append, cells_agg, cells_int, cells_slice, cells_bool, cells_ptr, ld1_u, ldN_u, st1_u, rdo_e, rdn_e, stw_e, anew_eq, Mem.push_next, Mem.put_next, Mem.rd_push, Mem.rd_push_eq, Mem.rd_push_lt, Mem.rd_put_eq, Mem.rd_put, List.take_zero, List.drop_zero, List.take_succ_cons, List.drop_succ_cons, List.drop_nil, List.take_nil, List.append_nil, List.length_cons, List.length_nil, Nat.zero_add, Nat.reduceAdd]
      refine barred1_sp (l := ci (rens to h l)) hlf (by omega) (hu12.mono e13) fun z2 m14 e14 hz2 => ?_
      have E14 := e13.trans e14
      have n14 := E14.next
      rw [chk_ci hN1 hN6 hrl hrlt]
      rw [barredX_ci hN1 hN6 hrl hrlt] at hz2
      try simp (maxSteps := 4000000) (disch := first | omega | with_unfolding_all exact id rfl | with_unfolding_all exact Nat.le_of_ble_eq_true rfl | (simp only [Mem.push_next, Mem.put_next, List.length_cons, List.length_nil, Nat.zero_add, Nat.reduceAdd, allOne, oneCell, Bool.and_self, Bool.and_true]; first | done | omega)) only [(hr12.mono E14).rd, ↓uc_e, ↓un0_e, oOpt_e, oRes_e, oIf_t, oIf_f, oGT_t, oGT_f, oGT_u, oGF_t, oGF_f, oGF_u, oPick_t, oPick_f, oInt_eql, oInt_neq, oInt_lss, oInt_leq, oInt_gtr, oInt_geq, aun_not, aextract_e, fa_e, abox_e, ptrTo, oCallV_e, decide_true, decide_false, Bool.not_true, Bool.not_false, List.getElem?_cons_zero, List.getElem?_cons_succ, List.cons_append, List.nil_append, cells_agg, cells_int, cells_slice, cells_bool, cells_ptr, ld1_u, ldN_u, st1_u, rdo_e, rdn_e, stw_e, anew_eq, Mem.push_next, Mem.put_next, Mem.rd_push, Mem.rd_push_eq, Mem.rd_push_lt, Mem.rd_put_eq, Mem.rd_put, List.take_zero, List.drop_zero, List.take_succ_cons, List.drop_succ_cons, List.drop_nil, List.take_nil, List.append_nil, List.length_cons, List.length_nil, Nat.zero_add, Nat.reduceAdd]
      refine make1_sp (l := ci l) hlf (by omega) (hv12.mono E14) fun z3 m15 e15 hz3 => ?_
      have E15 := E14.trans e15
      have n15 := E15.next
      have hsm3 : smallX (h : Int) (ci l) = hitl l := by unfold smallX; rw [if_pos (chk_ci hN1 hN6 hl64 hnlt), nn_ci]
      rw [chk_ci hN1 hN6 hl64 hnlt, if_pos rfl]
      rw [hsm3] at hz3
      obtain ⟨p3, c3, rfl⟩ := hz3.ex
      try simp (maxSteps := 4000000) (disch := first | omega | with_unfolding_all exact id rfl | with_unfolding_all exact Nat.le_of_ble_eq_true rfl | (simp only [Mem.push_next, Mem.put_next, List.length_cons, List.length_nil, Nat.zero_add, Nat.reduceAdd, allOne, oneCell, Bool.and_self, Bool.and_true]; first | done | omega)) only [Vit.hg, ↓uc_e, ↓un0_e, oOpt_e, oRes_e, oIf_t, oIf_f, oGT_t, oGT_f, oGT_u, oGF_t, oGF_f, oGF_u, oPick_t, oPick_f, oInt_eql, oInt_neq, oInt_lss, oInt_leq, oInt_gtr, oInt_geq, aun_not, aextract_e, fa_e, abox_e, ptrTo, oCallV_e, decide_true, decide_false, Bool.not_true, Bool.not_false, List.getElem?_cons_zero, List.getElem?_cons_succ, List.cons_append, List.nil_append, cells_agg, cells_int, cells_slice, cells_bool, cells_ptr, ld1_u, ldN_u, st1_u, rdo_e, rdn_e, stw_e, anew_eq, Mem.push_next, Mem.put_next, Mem.rd_push, Mem.rd_push_eq, Mem.rd_push_lt, Mem.rd_put_eq, Mem.rd_put, List.take_zero, List.drop_zero, List.take_succ_cons, List.drop_succ_cons, List.drop_nil, List.take_nil, List.append_nil, List.length_cons, List.length_nil, Nat.zero_add, Nat.reduceAdd]
      have e16 : Gt m15 ((m15.push ⟨1, [.int .i64 0, .slice none 0 0], none⟩).put m15.next (some ⟨1, [.int .i64 (h : Int), .slice p3 (hitl l).length c3], none⟩)) := Mem.put_gt (Mem.gt_push _ _) _ (Nat.le_refl _)
      have hp16 : At ((m15.push ⟨1, [.int .i64 0, .slice none 0 0], none⟩).put m15.next (some ⟨1, [.int .i64 (h : Int), .slice p3 (hitl l).length c3], none⟩)) m15.next [.int .i64 (h : Int), .slice p3 (hitl l).length c3] := Mem.rd_put_eq _ _ (by rw [Mem.push_next]; omega)
      generalize (m15.push ⟨1, [.int .i64 0, .slice none 0 0], none⟩).put m15.next (some ⟨1, [.int .i64 (h : Int), .slice p3 (hitl l).length c3], none⟩) = m16 at e16 hp16 ⊢
      have E16 := E15.trans e16
      have n16 := E16.next
      try simp (maxSteps := 4000000) (disch := first | omega | with_unfolding_all exact id rfl | with_unfolding_all exact Nat.le_of_ble_eq_true rfl | (simp only [Mem.push_next, Mem.put_next, List.length_cons, List.length_nil, Nat.zero_add, Nat.reduceAdd, allOne, oneCell, Bool.and_self, Bool.and_true]; first | done | omega)) only [(hq12.mono E16).rd, ↓uc_e, ↓un0_e, oOpt_e, oRes_e, oIf_t, oIf_f, oGT_t, oGT_f, oGT_u, oGF_t, oGF_f, oGF_u, oPick_t, oPick_f, oInt_eql, oInt_neq, oInt_lss, oInt_leq, oInt_gtr, oInt_geq, aun_not, aextract_e, fa_e, abox_e, ptrTo, oCallV_e, decide_true, decide_false, Bool.not_true, Bool.not_false, List.getElem?_cons_zero, List.getElem?_cons_succ, List.cons_append, List.nil_append, cells_agg, cells_int, cells_slice, cells_bool, cells_ptr, ld1_u, ldN_u, st1_u, rdo_e, rdn_e, stw_e, anew_eq, Mem.push_next, Mem.put_next, Mem.rd_push, Mem.rd_push_eq, Mem.rd_push_lt, Mem.rd_put_eq, Mem.rd_put, List.take_zero, List.drop_zero, List.take_succ_cons, List.drop_succ_cons, List.drop_nil, List.take_nil, List.append_nil, List.length_cons, List.length_nil, Nat.zero_add, Nat.reduceAdd]
      refine make1_sp (l := ci (rens to h l)) hlf (by omega) (hu12.mono E16) fun z4 m17 e17 hz4 => ?_
      have E17 := E16.trans e17
      have n17 := E17.next
      have hsm4 : smallX (h : Int) (ci (rens to h l)) = hitl (rens to h l) := by unfold smallX; rw [if_pos (chk_ci hN1 hN6 hrl hrlt), nn_ci]
      rw [chk_ci hN1 hN6 hrl hrlt, if_pos rfl]
      rw [hsm4] at hz4
      obtain ⟨p4, c4, rfl⟩ := hz4.ex
      try simp (maxSteps := 4000000) (disch := first | omega | with_unfolding_all exact id rfl | with_unfolding_all exact Nat.le_of_ble_eq_true rfl | (simp only [Mem.push_next, Mem.put_next, List.length_cons, List.length_nil, Nat.zero_add, Nat.reduceAdd, allOne, oneCell, Bool.and_self, Bool.and_true]; first | done | omega)) only [Vit.hg, ↓uc_e, ↓un0_e, oOpt_e, oRes_e, oIf_t, oIf_f, oGT_t, oGT_f, oGT_u, oGF_t, oGF_f, oGF_u, oPick_t, oPick_f, oInt_eql, oInt_neq, oInt_lss, oInt_leq, oInt_gtr, oInt_geq, aun_not, aextract_e, fa_e, abox_e, ptrTo, oCallV_e, decide_true, decide_false, Bool.not_true, Bool.not_false, List.getElem?_cons_zero, List.getElem?_cons_succ, List.cons_append, List.nil_append, cells_agg, cells_int, cells_slice, cells_bool, cells_ptr, ld1_u, ldN_u, st1_u, rdo_e, rdn_e, stw_e, anew_eq, Mem.push_next, Mem.put_next, Mem.rd_push, Mem.rd_push_eq, Mem.rd_push_lt, Mem.rd_put_eq, Mem.rd_put, List.take_zero, List.drop_zero, List.take_succ_cons, List.drop_succ_cons, List.drop_nil, List.take_nil, List.append_nil, List.length_cons, List.length_nil, Nat.zero_add, Nat.reduceAdd]
      have e18 : Gt m17 ((m17.push ⟨1, [.int .i64 0, .slice none 0 0], none⟩).put m17.next (some ⟨1, [.int .i64 (h : Int), .slice p4 (hitl (rens to h l)).length c4], none⟩)) := Mem.put_gt (Mem.gt_push _ _) _ (Nat.le_refl _)
      have hp18 : At ((m17.push ⟨1, [.int .i64 0, .slice none 0 0], none⟩).put m17.next (some ⟨1, [.int .i64 (h : Int), .slice p4 (hitl (rens to h l)).length c4], none⟩)) m17.next [.int .i64 (h : Int), .slice p4 (hitl (rens to h l)).length c4] := Mem.rd_put_eq _ _ (by rw [Mem.push_next]; omega)
      generalize (m17.push ⟨1, [.int .i64 0, .slice none 0 0], none⟩).put m17.next (some ⟨1, [.int .i64 (h : Int), .slice p4 (hitl (rens to h l)).length c4], none⟩) = m18 at e18 hp18 ⊢
      have E18 := E17.trans e18
      have n18 := E18.next
      have hz118 := hz1.mono (e14.trans (e15.trans (e16.trans (e17.trans e18))))
      have hz218 := hz2.mono (e15.trans (e16.trans (e17.trans e18)))
      have hz318 := hz3.mono (e16.trans (e17.trans e18))
      have hz418 := hz4.mono e18
      have hpp18 := hp16.mono (e17.trans e18)
      have len1 := range_filter_len (mostB (fun g => !mayB l g) (2 ^ h)) (2 ^ h)
      have len2 : (hitl l).length ≤ 64 := minl_len _
      have len4 := range_filter_len (mostB (fun g => !mayB (rens to h l) g) (2 ^ h)) (2 ^ h)
      have len3 : (hitl (rens to h l)).length ≤ 64 := minl_len _
      repeat (rw [join_e]; try simp (maxSteps := 4000000) (disch := first | omega | with_unfolding_all exact id rfl | with_unfolding_all exact Nat.le_of_ble_eq_true rfl | (simp only [Mem.push_next, Mem.put_next, List.length_cons, List.length_nil, Nat.zero_add, Nat.reduceAdd, allOne, oneCell, Bool.and_self, Bool.and_true]; first | done | omega)) only [↓uc_e, ↓un0_e, oOpt_e, oRes_e, oIf_t, oIf_f, oGT_t, oGT_f, oGT_u, oGF_t, oGF_f, oGF_u, oPick_t, oPick_f, oInt_eql, oInt_neq, oInt_lss, oInt_leq, oInt_gtr, oInt_geq, aun_not, aextract_e, fa_e, abox_e, ptrTo, oCallV_e, decide_true, decide_false, Bool.not_true, Bool.not_false, List.getElem?_cons_zero, List.getElem?_cons_succ, List.cons_append, List.nil_append, cells_agg, cells_int, cells_slice, cells_bool, cells_ptr, ld1_u, ldN_u, st1_u, rdo_e, rdn_e, stw_e, anew_eq, Mem.push_next, Mem.put_next, Mem.rd_push, Mem.rd_push_eq, Mem.rd_push_lt, Mem.rd_put_eq, Mem.rd_put, List.take_zero, List.drop_zero, List.take_succ_cons, List.drop_succ_cons, List.drop_nil, List.take_nil, List.append_nil, List.length_cons, List.length_nil, Nat.zero_add, Nat.reduceAdd])
      refine moved_sp (to := to) (w := w) hlf (by omega) hi6 (hn12.mono E18) (htw12.mono E18) (hwi12.mono E18) hto6 htl hz118 (by omega) (fun x hx => by have := List.mem_range.1 (List.mem_filter.1 hx).1; omega) fun u19 m19 e19 hu19 => ?_
      have n19 := e19.next
      try simp (maxSteps := 4000000) (disch := first | omega | with_unfolding_all exact id rfl | with_unfolding_all exact Nat.le_of_ble_eq_true rfl | (simp only [Mem.push_next, Mem.put_next, List.length_cons, List.length_nil, Nat.zero_add, Nat.reduceAdd, allOne, oneCell, Bool.and_self, Bool.and_true]; first | done | omega)) only [↓uc_e, ↓un0_e, oOpt_e, oRes_e, oIf_t, oIf_f, oGT_t, oGT_f, oGT_u, oGF_t, oGF_f, oGF_u, oPick_t, oPick_f, oInt_eql, oInt_neq, oInt_lss, oInt_leq, oInt_gtr, oInt_geq, aun_not, aextract_e, fa_e, abox_e, ptrTo, oCallV_e, decide_true, decide_false, Bool.not_true, Bool.not_false, List.getElem?_cons_zero, List.getElem?_cons_succ, List.cons_append, List.nil_append, cells_agg, cells_int, cells_slice, cells_bool, cells_ptr, ld1_u, ldN_u, st1_u, rdo_e, rdn_e, stw_e, anew_eq, Mem.push_next, Mem.put_next, Mem.rd_push, Mem.rd_push_eq, Mem.rd_push_lt, Mem.rd_put_eq, Mem.rd_put, List.take_zero, List.drop_zero, List.take_succ_cons, List.drop_succ_cons, List.drop_nil, List.take_nil, List.append_nil, List.length_cons, List.length_nil, Nat.zero_add, Nat.reduceAdd]
      refine sorted_sp (by omega) hu19 (by rw [List.length_map]; omega) fun u20 m20 e20 hu20 => ?_
      replace hu20 : IL m20 u20 (isortI (ci (rens to h ((List.range (2 ^ h)).filter (mostB (fun g => !mayB l g) (2 ^ h)))))) := hu20.il
      rw [barred_ren R hnlt] at hu20
      have E20 := e19.trans e20
      have n20 := E20.next
      try simp (maxSteps := 4000000) (disch := first | omega | with_unfolding_all exact id rfl | with_unfolding_all exact Nat.le_of_ble_eq_true rfl | (simp only [Mem.push_next, Mem.put_next, List.length_cons, List.length_nil, Nat.zero_add, Nat.reduceAdd, allOne, oneCell, Bool.and_self, Bool.and_true]; first | done | omega)) only [↓uc_e, ↓un0_e, oOpt_e, oRes_e, oIf_t, oIf_f, oGT_t, oGT_f, oGT_u, oGF_t, oGF_f, oGF_u, oPick_t, oPick_f, oInt_eql, oInt_neq, oInt_lss, oInt_leq, oInt_gtr, oInt_geq, aun_not, aextract_e, fa_e, abox_e, ptrTo, oCallV_e, decide_true, decide_false, Bool.not_true, Bool.not_false, List.getElem?_cons_zero, List.getElem?_cons_succ, List.cons_append, List.nil_append, cells_agg, cells_int, cells_slice, cells_bool, cells_ptr, ld1_u, ldN_u, st1_u, rdo_e, rdn_e, stw_e, anew_eq, Mem.push_next, Mem.put_next, Mem.rd_push, Mem.rd_push_eq, Mem.rd_push_lt, Mem.rd_put_eq, Mem.rd_put, List.take_zero, List.drop_zero, List.take_succ_cons, List.drop_succ_cons, List.drop_nil, List.take_nil, List.append_nil, List.length_cons, List.length_nil, Nat.zero_add, Nat.reduceAdd]
      refine same_sp hlf hu20 (hz218.mono E20) (by rw [ci_length]; omega) ?_
      rw [decide_eq_true rfl]
      try simp (maxSteps := 4000000) (disch := first | omega | with_unfolding_all exact id rfl | with_unfolding_all exact Nat.le_of_ble_eq_true rfl | (simp only [Mem.push_next, Mem.put_next, List.length_cons, List.length_nil, Nat.zero_add, Nat.reduceAdd, allOne, oneCell, Bool.and_self, Bool.and_true]; first | done | omega)) only [↓uc_e, ↓un0_e, oOpt_e, oRes_e, oIf_t, oIf_f, oGT_t, oGT_f, oGT_u, oGF_t, oGF_f, oGF_u, oPick_t, oPick_f, oInt_eql, oInt_neq, oInt_lss, oInt_leq, oInt_gtr, oInt_geq, aun_not, aextract_e, fa_e, abox_e, ptrTo, oCallV_e, decide_true, decide_false, Bool.not_true, Bool.not_false, List.getElem?_cons_zero, List.getElem?_cons_succ, List.cons_append, List.nil_append, cells_agg, cells_int, cells_slice, cells_bool, cells_ptr, ld1_u, ldN_u, st1_u, rdo_e, rdn_e, stw_e, anew_eq, Mem.push_next, Mem.put_next, Mem.rd_push, Mem.rd_push_eq, Mem.rd_push_lt, Mem.rd_put_eq, Mem.rd_put, List.take_zero, List.drop_zero, List.take_succ_cons, List.drop_succ_cons, List.drop_nil, List.take_nil, List.append_nil, List.length_cons, List.length_nil, Nat.zero_add, Nat.reduceAdd]
      repeat (rw [join_e]; try simp (maxSteps := 4000000) (disch := first | omega | with_unfolding_all exact id rfl | with_unfolding_all exact Nat.le_of_ble_eq_true rfl | (simp only [Mem.push_next, Mem.put_next, List.length_cons, List.length_nil, Nat.zero_add, Nat.reduceAdd, allOne, oneCell, Bool.and_self, Bool.and_true]; first | done | omega)) only [(hpp18.mono E20).rd, ↓uc_e, ↓un0_e, oOpt_e, oRes_e, oIf_t, oIf_f, oGT_t, oGT_f, oGT_u, oGF_t, oGF_f, oGF_u, oPick_t, oPick_f, oInt_eql, oInt_neq, oInt_lss, oInt_leq, oInt_gtr, oInt_geq, aun_not, aextract_e, fa_e, abox_e, ptrTo, oCallV_e, decide_true, decide_false, Bool.not_true, Bool.not_false, List.getElem?_cons_zero, List.getElem?_cons_succ, List.cons_append, List.nil_append, cells_agg, cells_int, cells_slice, cells_bool, cells_ptr, ld1_u, ldN_u, st1_u, rdo_e, rdn_e, stw_e, anew_eq, Mem.push_next, Mem.put_next, Mem.rd_push, Mem.rd_push_eq, Mem.rd_push_lt, Mem.rd_put_eq, Mem.rd_put, List.take_zero, List.drop_zero, List.take_succ_cons, List.drop_succ_cons, List.drop_nil, List.take_nil, List.append_nil, List.length_cons, List.length_nil, Nat.zero_add, Nat.reduceAdd])
      refine moved_sp (to := to) (w := w) hlf (Nat.le_refl _) hi6 (hn12.mono (E18.trans E20)) (htw12.mono (E18.trans E20)) (hwi12.mono (E18.trans E20)) hto6 htl (hz318.mono E20) len2 (fun x hx => minl_lt hx) fun u21 m21 e21 hu21 => ?_
      have n21 := e21.next
      try simp (maxSteps := 4000000) (disch := first | omega | with_unfolding_all exact id rfl | with_unfolding_all exact Nat.le_of_ble_eq_true rfl | (simp only [Mem.push_next, Mem.put_next, List.length_cons, List.length_nil, Nat.zero_add, Nat.reduceAdd, allOne, oneCell, Bool.and_self, Bool.and_true]; first | done | omega)) only [↓uc_e, ↓un0_e, oOpt_e, oRes_e, oIf_t, oIf_f, oGT_t, oGT_f, oGT_u, oGF_t, oGF_f, oGF_u, oPick_t, oPick_f, oInt_eql, oInt_neq, oInt_lss, oInt_leq, oInt_gtr, oInt_geq, aun_not, aextract_e, fa_e, abox_e, ptrTo, oCallV_e, decide_true, decide_false, Bool.not_true, Bool.not_false, List.getElem?_cons_zero, List.getElem?_cons_succ, List.cons_append, List.nil_append, cells_agg, cells_int, cells_slice, cells_bool, cells_ptr, ld1_u, ldN_u, st1_u, rdo_e, rdn_e, stw_e, anew_eq, Mem.push_next, Mem.put_next, Mem.rd_push, Mem.rd_push_eq, Mem.rd_push_lt, Mem.rd_put_eq, Mem.rd_put, List.take_zero, List.drop_zero, List.take_succ_cons, List.drop_succ_cons, List.drop_nil, List.take_nil, List.append_nil, List.length_cons, List.length_nil, Nat.zero_add, Nat.reduceAdd]
      refine sorted_sp (Nat.le_refl _) hu21 (by rw [List.length_map]; omega) fun u22 m22 e22 hu22 => ?_
      replace hu22 : IL m22 u22 (isortI (ci (rens to h (hitl l)))) := hu22.il
      rw [hitl_ren R hnlt] at hu22
      have E22 := (E20.trans e21).trans e22
      have n22 := E22.next
      try simp (maxSteps := 4000000) (disch := first | omega | with_unfolding_all exact id rfl | with_unfolding_all exact Nat.le_of_ble_eq_true rfl | (simp only [Mem.push_next, Mem.put_next, List.length_cons, List.length_nil, Nat.zero_add, Nat.reduceAdd, allOne, oneCell, Bool.and_self, Bool.and_true]; first | done | omega)) only [(hp18.mono E22).rd, ↓uc_e, ↓un0_e, oOpt_e, oRes_e, oIf_t, oIf_f, oGT_t, oGT_f, oGT_u, oGF_t, oGF_f, oGF_u, oPick_t, oPick_f, oInt_eql, oInt_neq, oInt_lss, oInt_leq, oInt_gtr, oInt_geq, aun_not, aextract_e, fa_e, abox_e, ptrTo, oCallV_e, decide_true, decide_false, Bool.not_true, Bool.not_false, List.getElem?_cons_zero, List.getElem?_cons_succ, List.cons_append, List.nil_append, cells_agg, cells_int, cells_slice, cells_bool, cells_ptr, ld1_u, ldN_u, st1_u, rdo_e, rdn_e, stw_e, anew_eq, Mem.push_next, Mem.put_next, Mem.rd_push, Mem.rd_push_eq, Mem.rd_push_lt, Mem.rd_put_eq, Mem.rd_put, List.take_zero, List.drop_zero, List.take_succ_cons, List.drop_succ_cons, List.drop_nil, List.take_nil, List.append_nil, List.length_cons, List.length_nil, Nat.zero_add, Nat.reduceAdd]
      refine same_sp hlf hu22 (hz418.mono E22) (by rw [ci_length]; omega) ?_
      rw [decide_eq_true rfl]
      try simp (maxSteps := 4000000) (disch := first | omega | with_unfolding_all exact id rfl | with_unfolding_all exact Nat.le_of_ble_eq_true rfl | (simp only [Mem.push_next, Mem.put_next, List.length_cons, List.length_nil, Nat.zero_add, Nat.reduceAdd, allOne, oneCell, Bool.and_self, Bool.and_true]; first | done | omega)) only [(hpp18.mono E22).rd, ↓uc_e, ↓un0_e, oOpt_e, oRes_e, oIf_t, oIf_f, oGT_t, oGT_f, oGT_u, oGF_t, oGF_f, oGF_u, oPick_t, oPick_f, oInt_eql, oInt_neq, oInt_lss, oInt_leq, oInt_gtr, oInt_geq, aun_not, aextract_e, fa_e, abox_e, ptrTo, oCallV_e, decide_true, decide_false, Bool.not_true, Bool.not_false, List.getElem?_cons_zero, List.getElem?_cons_succ, List.cons_append, List.nil_append, cells_agg, cells_int, cells_slice, cells_bool, cells_ptr, ld1_u, ldN_u, st1_u, rdo_e, rdn_e, stw_e, anew_eq, Mem.push_next, Mem.put_next, Mem.rd_push, Mem.rd_push_eq, Mem.rd_push_lt, Mem.rd_put_eq, Mem.rd_put, List.take_zero, List.drop_zero, List.take_succ_cons, List.drop_succ_cons, List.drop_nil, List.take_nil, List.append_nil, List.length_cons, List.length_nil, Nat.zero_add, Nat.reduceAdd]
      repeat (rw [join_e]; try simp (maxSteps := 4000000) (disch := first | omega | with_unfolding_all exact id rfl | with_unfolding_all exact Nat.le_of_ble_eq_true rfl | (simp only [Mem.push_next, Mem.put_next, List.length_cons, List.length_nil, Nat.zero_add, Nat.reduceAdd, allOne, oneCell, Bool.and_self, Bool.and_true]; first | done | omega)) only [(hpp18.mono E22).rd, ↓uc_e, ↓un0_e, oOpt_e, oRes_e, oIf_t, oIf_f, oGT_t, oGT_f, oGT_u, oGF_t, oGF_f, oGF_u, oPick_t, oPick_f, oInt_eql, oInt_neq, oInt_lss, oInt_leq, oInt_gtr, oInt_geq, aun_not, aextract_e, fa_e, abox_e, ptrTo, oCallV_e, decide_true, decide_false, Bool.not_true, Bool.not_false, List.getElem?_cons_zero, List.getElem?_cons_succ, List.cons_append, List.nil_append, cells_agg, cells_int, cells_slice, cells_bool, cells_ptr, ld1_u, ldN_u, st1_u, rdo_e, rdn_e, stw_e, anew_eq, Mem.push_next, Mem.put_next, Mem.rd_push, Mem.rd_push_eq, Mem.rd_push_lt, Mem.rd_put_eq, Mem.rd_put, List.take_zero, List.drop_zero, List.take_succ_cons, List.drop_succ_cons, List.drop_nil, List.take_nil, List.append_nil, List.length_cons, List.length_nil, Nat.zero_add, Nat.reduceAdd])
      have E22' := E18.trans E22
      have hlt1 : ∀ g ∈ hitl l, g < 2 ^ h := fun g hg => hitl_lt hN6 hnlt hg
      have hlt2 : ∀ g ∈ hitl (rens to h l), g < 2 ^ h := fun g hg => hitl_lt hN6 hrlt hg
      refine keys1_sp (l := ci (hitl l)) hlf (by omega) (hT12.mono E22') (hz318.mono E22) fun k1 m23 e23 hk1 => ?_
      have E23 := E22.trans e23
      have n23 := e23.next
      rw [chk_ci hN1 hN6 len2 hlt1]
      rw [keysX_ci hN1 hN6 len2 hlt1] at hk1
      try simp (maxSteps := 4000000) (disch := first | omega | with_unfolding_all exact id rfl | with_unfolding_all exact Nat.le_of_ble_eq_true rfl | (simp only [Mem.push_next, Mem.put_next, List.length_cons, List.length_nil, Nat.zero_add, Nat.reduceAdd, allOne, oneCell, Bool.and_self, Bool.and_true]; first | done | omega)) only [(hp18.mono E23).rd, ↓uc_e, ↓un0_e, oOpt_e, oRes_e, oIf_t, oIf_f, oGT_t, oGT_f, oGT_u, oGF_t, oGF_f, oGF_u, oPick_t, oPick_f, oInt_eql, oInt_neq, oInt_lss, oInt_leq, oInt_gtr, oInt_geq, aun_not, aextract_e, fa_e, abox_e, ptrTo, oCallV_e, decide_true, decide_false, Bool.not_true, Bool.not_false, List.getElem?_cons_zero, List.getElem?_cons_succ, List.cons_append, List.nil_append, cells_agg, cells_int, cells_slice, cells_bool, cells_ptr, ld1_u, ldN_u, st1_u, rdo_e, rdn_e, stw_e, anew_eq, Mem.push_next, Mem.put_next, Mem.rd_push, Mem.rd_push_eq, Mem.rd_push_lt, Mem.rd_put_eq, Mem.rd_put, List.take_zero, List.drop_zero, List.take_succ_cons, List.drop_succ_cons, List.drop_nil, List.take_nil, List.append_nil, List.length_cons, List.length_nil, Nat.zero_add, Nat.reduceAdd]
      refine keys1_sp (l := ci (hitl (rens to h l))) hlf (by omega) (hT12.mono (E18.trans E23)) (hz418.mono E23) fun k2 m24 e24 hk2 => ?_
      have E24 := E23.trans e24
      have F24 := E18.trans E24
      have hk1' := hk1.mono e24
      rw [chk_ci hN1 hN6 len3 hlt2]
      rw [keysX_ci hN1 hN6 len3 hlt2] at hk2
      have kl1 : ((List.range h).map (keyCount (hitl l))).length = h := by simp
      have kl2 : ((List.range h).map (keyCount (hitl (rens to h l)))).length = h := by simp
      have hln1 := hk1'.ln
      have hln2 := hk2.ln
      rw [kl1] at hln1
      rw [kl2] at hln2
      have hn24 := hn12.mono F24
      have htw24 := htw12.mono F24
      have hwi24 := hwi12.mono F24
      try simp (maxSteps := 4000000) (disch := first | omega | with_unfolding_all exact id rfl | with_unfolding_all exact Nat.le_of_ble_eq_true rfl | (simp only [Mem.push_next, Mem.put_next, List.length_cons, List.length_nil, Nat.zero_add, Nat.reduceAdd, allOne, oneCell, Bool.and_self, Bool.and_true]; first | done | omega)) only [hln1, hn24.rd, ↓uc_e, ↓un0_e, oOpt_e, oRes_e, oIf_t, oIf_f, oGT_t, oGT_f, oGT_u, oGF_t, oGF_f, oGF_u, oPick_t, oPick_f, oInt_eql, oInt_neq, oInt_lss, oInt_leq, oInt_gtr, oInt_geq, aun_not, aextract_e, fa_e, abox_e, ptrTo, oCallV_e, decide_true, decide_false, Bool.not_true, Bool.not_false, List.getElem?_cons_zero, List.getElem?_cons_succ, List.cons_append, List.nil_append, cells_agg, cells_int, cells_slice, cells_bool, cells_ptr, ld1_u, ldN_u, st1_u, rdo_e, rdn_e, stw_e, anew_eq, Mem.push_next, Mem.put_next, Mem.rd_push, Mem.rd_push_eq, Mem.rd_push_lt, Mem.rd_put_eq, Mem.rd_put, List.take_zero, List.drop_zero, List.take_succ_cons, List.drop_succ_cons, List.drop_nil, List.take_nil, List.append_nil, List.length_cons, List.length_nil, Nat.zero_add, Nat.reduceAdd]
      repeat (rw [join_e]; try simp (maxSteps := 4000000) (disch := first | omega | with_unfolding_all exact id rfl | with_unfolding_all exact Nat.le_of_ble_eq_true rfl | (simp only [Mem.push_next, Mem.put_next, List.length_cons, List.length_nil, Nat.zero_add, Nat.reduceAdd, allOne, oneCell, Bool.and_self, Bool.and_true]; first | done | omega)) only [hln1, hln2, hn24.rd, ↓uc_e, ↓un0_e, oOpt_e, oRes_e, oIf_t, oIf_f, oGT_t, oGT_f, oGT_u, oGF_t, oGF_f, oGF_u, oPick_t, oPick_f, oInt_eql, oInt_neq, oInt_lss, oInt_leq, oInt_gtr, oInt_geq, aun_not, aextract_e, fa_e, abox_e, ptrTo, oCallV_e, decide_true, decide_false, Bool.not_true, Bool.not_false, List.getElem?_cons_zero, List.getElem?_cons_succ, List.cons_append, List.nil_append, cells_agg, cells_int, cells_slice, cells_bool, cells_ptr, ld1_u, ldN_u, st1_u, rdo_e, rdn_e, stw_e, anew_eq, Mem.push_next, Mem.put_next, Mem.rd_push, Mem.rd_push_eq, Mem.rd_push_lt, Mem.rd_put_eq, Mem.rd_put, List.take_zero, List.drop_zero, List.take_succ_cons, List.drop_succ_cons, List.drop_nil, List.take_nil, List.append_nil, List.length_cons, List.length_nil, Nat.zero_add, Nat.reduceAdd])
      refine loop_up h (fun x vs m' => vs = [.int .i64 (x : Int)] ∧ m' = m24) (by omega) ⟨rfl, rfl⟩ ?_
      rintro x vs m24 hx ⟨rfl, rfl⟩ self hself
      try simp (maxSteps := 4000000) (disch := first | omega | with_unfolding_all exact id rfl | with_unfolding_all exact Nat.le_of_ble_eq_true rfl | (simp only [Mem.push_next, Mem.put_next, List.length_cons, List.length_nil, Nat.zero_add, Nat.reduceAdd, allOne, oneCell, Bool.and_self, Bool.and_true]; first | done | omega)) only [↓uc_e, ↓un0_e, oOpt_e, oRes_e, oIf_t, oIf_f, oGT_t, oGT_f, oGT_u, oGF_t, oGF_f, oGF_u, oPick_t, oPick_f, oInt_eql, oInt_neq, oInt_lss, oInt_leq, oInt_gtr, oInt_geq, aun_not, aextract_e, fa_e, abox_e, ptrTo, oCallV_e, decide_true, decide_false, Bool.not_true, Bool.not_false, List.getElem?_cons_zero, List.getElem?_cons_succ, List.cons_append, List.nil_append, cells_agg, cells_int, cells_slice, cells_bool, cells_ptr, ld1_u, ldN_u, st1_u, rdo_e, rdn_e, stw_e, anew_eq, Mem.push_next, Mem.put_next, Mem.rd_push, Mem.rd_push_eq, Mem.rd_push_lt, Mem.rd_put_eq, Mem.rd_put, List.take_zero, List.drop_zero, List.take_succ_cons, List.drop_succ_cons, List.drop_nil, List.take_nil, List.append_nil, List.length_cons, List.length_nil, Nat.zero_add, Nat.reduceAdd]
      refine oIf_dec (fun h3 => ?_) (fun h3 => ?_)
      · have h4 : x < h := by omega
        have h5 : x < to.length := by omega
        have h6 := R.lt (List.getElem_mem h5)
        have h7 : x < ((List.range h).map (keyCount (hitl l))).length := by omega
        have h8 : to[x] < ((List.range h).map (keyCount (hitl (rens to h l)))).length := by omega
        have h9 := hk1'.ld h7
        have h10 := hk2.ld h8
        rw [show ((List.range h).map (keyCount (hitl l)))[x] = keyCount (hitl l) x by simp] at h9
        have h11 := keyCount_ren R hnlt h4
        rw [List.getElem?_eq_getElem h5, Option.getD_some] at h11
        rw [show ((List.range h).map (keyCount (hitl (rens to h l))))[to[x]] = keyCount (hitl (rens to h l)) to[x] by simp, h11] at h10
        try simp (maxSteps := 4000000) (disch := first | omega | with_unfolding_all exact id rfl | with_unfolding_all exact Nat.le_of_ble_eq_true rfl | (simp only [Mem.push_next, Mem.put_next, List.length_cons, List.length_nil, Nat.zero_add, Nat.reduceAdd, allOne, oneCell, Bool.and_self, Bool.and_true]; first | done | omega)) only [hk1'.ia h7, h9, htw24.rd, hwi24.ia h5, hwi24.ld h5, hk2.ia h8, h10, ↓uc_e, ↓un0_e, oOpt_e, oRes_e, oIf_t, oIf_f, oGT_t, oGT_f, oGT_u, oGF_t, oGF_f, oGF_u, oPick_t, oPick_f, oInt_eql, oInt_neq, oInt_lss, oInt_leq, oInt_gtr, oInt_geq, aun_not, aextract_e, fa_e, abox_e, ptrTo, oCallV_e, decide_true, decide_false, Bool.not_true, Bool.not_false, List.getElem?_cons_zero, List.getElem?_cons_succ, List.cons_append, List.nil_append, cells_agg, cells_int, cells_slice, cells_bool, cells_ptr, ld1_u, ldN_u, st1_u, rdo_e, rdn_e, stw_e, anew_eq, Mem.push_next, Mem.put_next, Mem.rd_push, Mem.rd_push_eq, Mem.rd_push_lt, Mem.rd_put_eq, Mem.rd_put, List.take_zero, List.drop_zero, List.take_succ_cons, List.drop_succ_cons, List.drop_nil, List.take_nil, List.append_nil, List.length_cons, List.length_nil, Nat.zero_add, Nat.reduceAdd]
        rw [oInt_add ⟨by omega, by omega⟩]
        exact hself h4 _ _ ⟨rfl, rfl⟩
      · exact works_sp (hT12.mono F24) (hk _ (G12.trans F24))
end
end Go.Vit
