/- The law DutySummed, walked. -/
import Derived.Test.YtcaoifacidnhcaaDoorW3
import Derived.Test.YtcaoifacidnhcaaDoorVitAA
set_option linter.unusedSimpArgs false
set_option linter.unusedVariables false
set_option maxRecDepth 20000
namespace Go.Vit
open Go Go.Proofs
attribute [local irreducible] runT loopS
theorem quad_of {ns : List (IntKind × Int)} (h : ns.map (·.1) = [.u16, .u16, .u16, .u16] ∧ ∀ p ∈ ns, p.1.has p.2) : ∃ bs : List Nat, Value.agg ⟨intsV ns⟩ = quad bs ∧ bs.length = 4 ∧ ∀ g ∈ bs, g < 65536 := by
  match ns, h with
  | [(_, a), (_, b), (_, c), (_, d)], h =>
    obtain ⟨h1, h2⟩ := h
    cases h1
    have key : ∀ x : Int, IntKind.u16.has x → ∃ g : Nat, x = (g : Int) ∧ g < 65536 := fun x hx => by
      have h3 : IntKind.u16.min ≤ x ∧ x ≤ IntKind.u16.max := hx
      have h4 : (0 : Int) ≤ x := h3.1
      have h5 : x ≤ (65535 : Int) := h3.2
      exact ⟨x.toNat, by omega, by omega⟩
    obtain ⟨a, rfl, ha⟩ := key a (h2 (.u16, a) (by simp))
    obtain ⟨b, rfl, hb⟩ := key b (h2 (.u16, b) (by simp))
    obtain ⟨c, rfl, hc⟩ := key c (h2 (.u16, c) (by simp))
    obtain ⟨d, rfl, hd⟩ := key d (h2 (.u16, d) (by simp))
    exact ⟨[a, b, c, d], rfl, rfl, by simp [ha, hb, hc, hd]⟩
section
variable {lf n L : Nat} {m : Mem} {k : Value → Mem → Option Unit}
theorem rdn_all {s : Nat} {cs : List Value} {n : Nat} (h : cs.length = n) : rdn (some ⟨s, cs, none⟩) 0 n = some (.agg ⟨cs⟩) := by
  rw [rdn_e _ _ _ _ (by omega), List.drop_zero, List.take_of_length_le (by omega)]
theorem summed_sp {bs : List Nat} {q : Nat} (hlf : 1000000 ≤ lf) (hT : TabOk mTab m) (hL : L ≤ m.next) (hbs : bs.length = 4) (hg : ∀ g ∈ bs, g < 65536) (hq : q < 256)
    (hk : ∀ m', k (.bool true) m' = some ()) : runT (tab lf) (n + 101) 11 [quad bs, .int .u8 (q : Int)] L m k = some () := by
  rw [r11]; dsimp only [S11, iofNat, inegSucc]
  have g1 := Mem.gt_push m ⟨1, bs.map (fun (g : Nat) => .int .u16 (g : Int)), none⟩
  have g1n := g1.next
  have hb : At (m.push ⟨1, bs.map (fun (g : Nat) => .int .u16 (g : Int)), none⟩) m.next _ := At.push m _
  try simp (disch := first | omega | with_unfolding_all exact id rfl | with_unfolding_all exact Nat.le_of_ble_eq_true rfl | (simp only [Mem.push_next, Mem.put_next, List.length_cons, List.length_nil, Nat.zero_add, Nat.reduceAdd, allOne, oneCell, Bool.and_self, Bool.and_true]; first | done | omega)) only [↓uc_e, ↓un0_e, ↓join_e, oOpt_e, oRes_e, oIf_t, oIf_f, oGT_t, oGT_f, oGT_u, oGF_t, oGF_f, oGF_u, oPick_t, oPick_f, oInt_eql, oInt_neq, oInt_lss, oInt_leq, oInt_gtr, oInt_geq, aun_not, aextract_e, fa_e, abox_e, ptrTo, oCallV_e, decide_true, decide_false, Bool.not_true, Bool.not_false, List.getElem?_cons_zero, List.getElem?_cons_succ, List.cons_append, List.nil_append, cells_agg, cells_int, cells_slice, cells_bool, cells_ptr, ld1_u, ldN_u, st1_u, rdo_e, rdn_e, stw_e, anew_eq, Mem.push_next, Mem.put_next, Mem.rd_push, Mem.rd_push_eq, Mem.rd_push_lt, Mem.rd_put_eq, Mem.rd_put, List.take_zero, List.drop_zero, List.take_succ_cons, List.drop_succ_cons, List.drop_nil, List.take_nil, List.append_nil, List.length_cons, List.length_nil, Nat.zero_add, Nat.reduceAdd]
  generalize m.push ⟨1, bs.map (fun (g : Nat) => .int .u16 (g : Int)), none⟩ = m1 at hb g1 g1n ⊢
  rw [rdn_all (by simpa using hbs), oOpt_e, oCv_nat (by omega), show (5 : Int) = ((5 : Nat) : Int) from rfl, oInt_remN (by omega)]
  refine some_sp hlf (by omega) hbs hg (by have := Nat.mod_lt q (show 0 < 5 by omega); omega) fun u m2 l e2 hu hl => ?_
  have hT2 := (hT.mono g1).mono e2
  have hv := hu.inn
  have hlen := hl.len
  have hB := prodN_bound hl.len fun p hp => (hl.rng p hp).2
  have hA := partsN_bound hl
  have hB0 := prodN_pos fun p hp => Nat.lt_of_lt_of_le (by omega) (hl.rng p hp).1
  refine sum_sp hlf hv hl ?_
  try simp (disch := first | omega | with_unfolding_all exact id rfl | with_unfolding_all exact Nat.le_of_ble_eq_true rfl | (simp only [Mem.push_next, Mem.put_next, List.length_cons, List.length_nil, Nat.zero_add, Nat.reduceAdd, allOne, oneCell, Bool.and_self, Bool.and_true]; first | done | omega)) only [hv.ln, ↓uc_e, ↓un0_e, ↓join_e, oOpt_e, oRes_e, oIf_t, oIf_f, oGT_t, oGT_f, oGT_u, oGF_t, oGF_f, oGF_u, oPick_t, oPick_f, oInt_eql, oInt_neq, oInt_lss, oInt_leq, oInt_gtr, oInt_geq, aun_not, aextract_e, fa_e, abox_e, ptrTo, oCallV_e, decide_true, decide_false, Bool.not_true, Bool.not_false, List.getElem?_cons_zero, List.getElem?_cons_succ, List.cons_append, List.nil_append, cells_agg, cells_int, cells_slice, cells_bool, cells_ptr, ld1_u, ldN_u, st1_u, rdo_e, rdn_e, stw_e, anew_eq, Mem.push_next, Mem.put_next, Mem.rd_push, Mem.rd_push_eq, Mem.rd_push_lt, Mem.rd_put_eq, Mem.rd_put, List.take_zero, List.drop_zero, List.take_succ_cons, List.drop_succ_cons, List.drop_nil, List.take_nil, List.append_nil, List.length_cons, List.length_nil, Nat.zero_add, Nat.reduceAdd]
  refine loop_up l.length (fun i vs m' => vs = [.int .i64 (partsN (l.take i) : Int), .int .i64 (prodN (l.take i) : Int), .int .i64 (i : Int)] ∧ m' = m2) (by omega) ⟨rfl, rfl⟩ ?_
  rintro i vs m3 hi ⟨rfl, rfl⟩ self hself
  try simp (disch := first | omega | with_unfolding_all exact id rfl | with_unfolding_all exact Nat.le_of_ble_eq_true rfl | (simp only [Mem.push_next, Mem.put_next, List.length_cons, List.length_nil, Nat.zero_add, Nat.reduceAdd, allOne, oneCell, Bool.and_self, Bool.and_true]; first | done | omega)) only [↓uc_e, ↓un0_e, ↓join_e, oOpt_e, oRes_e, oIf_t, oIf_f, oGT_t, oGT_f, oGT_u, oGF_t, oGF_f, oGF_u, oPick_t, oPick_f, oInt_eql, oInt_neq, oInt_lss, oInt_leq, oInt_gtr, oInt_geq, aun_not, aextract_e, fa_e, abox_e, ptrTo, oCallV_e, decide_true, decide_false, Bool.not_true, Bool.not_false, List.getElem?_cons_zero, List.getElem?_cons_succ, List.cons_append, List.nil_append, cells_agg, cells_int, cells_slice, cells_bool, cells_ptr, ld1_u, ldN_u, st1_u, rdo_e, rdn_e, stw_e, anew_eq, Mem.push_next, Mem.put_next, Mem.rd_push, Mem.rd_push_eq, Mem.rd_push_lt, Mem.rd_put_eq, Mem.rd_put, List.take_zero, List.drop_zero, List.take_succ_cons, List.drop_succ_cons, List.drop_nil, List.take_nil, List.append_nil, List.length_cons, List.length_nil, Nat.zero_add, Nat.reduceAdd]
  refine oIf_dec (fun h => ?_) (fun h => ?_)
  · have hil : i < l.length := by omega
    have hr := hl.rng _ (List.getElem_mem hil)
    have hsn := take_snoc hil
    have hps := partsN_snoc (l := l.take i) (p := l[i]) (by omega) fun p hp => Nat.lt_of_lt_of_le (by omega) (hl.rng p (List.mem_of_mem_take hp)).1
    have hvi : ∀ j, Val (l.take j) := fun j => ⟨by rw [List.length_take]; omega, fun p hp => hl.rng p (List.mem_of_mem_take hp), hl.ord.sublist (List.take_sublist _ _)⟩
    have b1 := partsN_bound (hvi (i + 1))
    have b2 := prodN_bound (hvi (i + 1)).len fun p hp => ((hvi (i + 1)).rng p hp).2
    rw [hsn, hps, prodN_snoc] at b1
    rw [hsn, prodN_snoc] at b2
    rw [hv.ia hil, oOpt_e, hv.ld hil, oOpt_e, oInt_mulN (by omega), oInt_addN (by omega), oInt_mulN (by omega), oInt_add ⟨by omega, by omega⟩]
    refine hself hil _ _ ⟨?_, rfl⟩
    rw [hsn, hps, prodN_snoc]
    rfl
  · have hie : i = l.length := by omega
    subst hie
    rw [List.take_length]
    have h60 : (2 : Nat) ^ 60 = 1152921504606846976 := by decide
    refine gcd44 hlf (by omega) (by omega) ?_
    have hgp : 0 < Nat.gcd (partsN l) (prodN l) := Nat.gcd_pos_of_pos_right _ hB0
    try simp (disch := first | omega | with_unfolding_all exact id rfl | with_unfolding_all exact Nat.le_of_ble_eq_true rfl | (simp only [Mem.push_next, Mem.put_next, List.length_cons, List.length_nil, Nat.zero_add, Nat.reduceAdd, allOne, oneCell, Bool.and_self, Bool.and_true]; first | done | omega)) only [↓uc_e, ↓un0_e, ↓join_e, oOpt_e, oRes_e, oIf_t, oIf_f, oGT_t, oGT_f, oGT_u, oGF_t, oGF_f, oGF_u, oPick_t, oPick_f, oInt_eql, oInt_neq, oInt_lss, oInt_leq, oInt_gtr, oInt_geq, aun_not, aextract_e, fa_e, abox_e, ptrTo, oCallV_e, decide_true, decide_false, Bool.not_true, Bool.not_false, List.getElem?_cons_zero, List.getElem?_cons_succ, List.cons_append, List.nil_append, cells_agg, cells_int, cells_slice, cells_bool, cells_ptr, ld1_u, ldN_u, st1_u, rdo_e, rdn_e, stw_e, anew_eq, Mem.push_next, Mem.put_next, Mem.rd_push, Mem.rd_push_eq, Mem.rd_push_lt, Mem.rd_put_eq, Mem.rd_put, List.take_zero, List.drop_zero, List.take_succ_cons, List.drop_succ_cons, List.drop_nil, List.take_nil, List.append_nil, List.length_cons, List.length_nil, Nat.zero_add, Nat.reduceAdd]
    refine check_ok hlf hv hl ?_
    try simp (disch := first | omega | with_unfolding_all exact id rfl | with_unfolding_all exact Nat.le_of_ble_eq_true rfl | (simp only [Mem.push_next, Mem.put_next, List.length_cons, List.length_nil, Nat.zero_add, Nat.reduceAdd, allOne, oneCell, Bool.and_self, Bool.and_true]; first | done | omega)) only [↓uc_e, ↓un0_e, ↓join_e, oOpt_e, oRes_e, oIf_t, oIf_f, oGT_t, oGT_f, oGT_u, oGF_t, oGF_f, oGF_u, oPick_t, oPick_f, oInt_eql, oInt_neq, oInt_lss, oInt_leq, oInt_gtr, oInt_geq, aun_not, aextract_e, fa_e, abox_e, ptrTo, oCallV_e, decide_true, decide_false, Bool.not_true, Bool.not_false, List.getElem?_cons_zero, List.getElem?_cons_succ, List.cons_append, List.nil_append, cells_agg, cells_int, cells_slice, cells_bool, cells_ptr, ld1_u, ldN_u, st1_u, rdo_e, rdn_e, stw_e, anew_eq, Mem.push_next, Mem.put_next, Mem.rd_push, Mem.rd_push_eq, Mem.rd_push_lt, Mem.rd_put_eq, Mem.rd_put, List.take_zero, List.drop_zero, List.take_succ_cons, List.drop_succ_cons, List.drop_nil, List.take_nil, List.append_nil, List.length_cons, List.length_nil, Nat.zero_add, Nat.reduceAdd]
    rw [oInt_quoN hgp (by omega)]
    try simp (disch := first | omega | with_unfolding_all exact id rfl | with_unfolding_all exact Nat.le_of_ble_eq_true rfl | (simp only [Mem.push_next, Mem.put_next, List.length_cons, List.length_nil, Nat.zero_add, Nat.reduceAdd, allOne, oneCell, Bool.and_self, Bool.and_true]; first | done | omega)) only [↓uc_e, ↓un0_e, ↓join_e, oOpt_e, oRes_e, oIf_t, oIf_f, oGT_t, oGT_f, oGT_u, oGF_t, oGF_f, oGF_u, oPick_t, oPick_f, oInt_eql, oInt_neq, oInt_lss, oInt_leq, oInt_gtr, oInt_geq, aun_not, aextract_e, fa_e, abox_e, ptrTo, oCallV_e, decide_true, decide_false, Bool.not_true, Bool.not_false, List.getElem?_cons_zero, List.getElem?_cons_succ, List.cons_append, List.nil_append, cells_agg, cells_int, cells_slice, cells_bool, cells_ptr, ld1_u, ldN_u, st1_u, rdo_e, rdn_e, stw_e, anew_eq, Mem.push_next, Mem.put_next, Mem.rd_push, Mem.rd_push_eq, Mem.rd_push_lt, Mem.rd_put_eq, Mem.rd_put, List.take_zero, List.drop_zero, List.take_succ_cons, List.drop_succ_cons, List.drop_nil, List.take_nil, List.append_nil, List.length_cons, List.length_nil, Nat.zero_add, Nat.reduceAdd]
    rw [oInt_quoN hgp (by omega)]
    try simp (disch := first | omega | with_unfolding_all exact id rfl | with_unfolding_all exact Nat.le_of_ble_eq_true rfl | (simp only [Mem.push_next, Mem.put_next, List.length_cons, List.length_nil, Nat.zero_add, Nat.reduceAdd, allOne, oneCell, Bool.and_self, Bool.and_true]; first | done | omega)) only [↓uc_e, ↓un0_e, ↓join_e, oOpt_e, oRes_e, oIf_t, oIf_f, oGT_t, oGT_f, oGT_u, oGF_t, oGF_f, oGF_u, oPick_t, oPick_f, oInt_eql, oInt_neq, oInt_lss, oInt_leq, oInt_gtr, oInt_geq, aun_not, aextract_e, fa_e, abox_e, ptrTo, oCallV_e, decide_true, decide_false, Bool.not_true, Bool.not_false, List.getElem?_cons_zero, List.getElem?_cons_succ, List.cons_append, List.nil_append, cells_agg, cells_int, cells_slice, cells_bool, cells_ptr, ld1_u, ldN_u, st1_u, rdo_e, rdn_e, stw_e, anew_eq, Mem.push_next, Mem.put_next, Mem.rd_push, Mem.rd_push_eq, Mem.rd_push_lt, Mem.rd_put_eq, Mem.rd_put, List.take_zero, List.drop_zero, List.take_succ_cons, List.drop_succ_cons, List.drop_nil, List.take_nil, List.append_nil, List.length_cons, List.length_nil, Nat.zero_add, Nat.reduceAdd]
    rw [r27]
    refine SClosed_sp hT2 ?_
    try simp (disch := first | omega | with_unfolding_all exact id rfl | with_unfolding_all exact Nat.le_of_ble_eq_true rfl | (simp only [Mem.push_next, Mem.put_next, List.length_cons, List.length_nil, Nat.zero_add, Nat.reduceAdd, allOne, oneCell, Bool.and_self, Bool.and_true]; first | done | omega)) only [↓uc_e, ↓un0_e, ↓join_e, oOpt_e, oRes_e, oIf_t, oIf_f, oGT_t, oGT_f, oGT_u, oGF_t, oGF_f, oGF_u, oPick_t, oPick_f, oInt_eql, oInt_neq, oInt_lss, oInt_leq, oInt_gtr, oInt_geq, aun_not, aextract_e, fa_e, abox_e, ptrTo, oCallV_e, decide_true, decide_false, Bool.not_true, Bool.not_false, List.getElem?_cons_zero, List.getElem?_cons_succ, List.cons_append, List.nil_append, cells_agg, cells_int, cells_slice, cells_bool, cells_ptr, ld1_u, ldN_u, st1_u, rdo_e, rdn_e, stw_e, anew_eq, Mem.push_next, Mem.put_next, Mem.rd_push, Mem.rd_push_eq, Mem.rd_push_lt, Mem.rd_put_eq, Mem.rd_put, List.take_zero, List.drop_zero, List.take_succ_cons, List.drop_succ_cons, List.drop_nil, List.take_nil, List.append_nil, List.length_cons, List.length_nil, Nat.zero_add, Nat.reduceAdd]
    exact hk _
end
end Go.Vit
namespace Go.Proofs.YtcaoifacidnhcaaDoor.DutySummed
open Go Go.Vit Go.Proofs
theorem runs {bs : List Nat} {q : Nat} (hbs : bs.length = 4) (hg : ∀ g ∈ bs, g < 65536) (hq : q < 256) (hT : TabOk mTab mTab) : Vit.runT (tab 1000000) 200 11 [quad bs, .int .u8 (q : Int)] mTab.next mTab isTrue = some () :=
  summed_sp (n := 99) (Nat.le_refl _) hT (Nat.le_refl _) hbs hg hq fun _ => rfl
end Go.Proofs.YtcaoifacidnhcaaDoor.DutySummed
