/- The law DutyPaid, walked. -/
import Derived.Test.YtcaoifacidnhcaaDoorW4
import Derived.Test.YtcaoifacidnhcaaDoorDutySummedAll
set_option linter.unusedSimpArgs false
set_option linter.unusedVariables false
set_option maxRecDepth 20000
namespace Go.Vit
open Go Go.Proofs
attribute [local irreducible] runT loopS
theorem eachN_length (c : Nat) (l : List Nat) : (eachN c l).length = l.length := List.length_map _
theorem dec_self (x : Int) : decide (x = x) = true := decide_eq_true rfl
theorem totalN_le (c : Nat) : ∀ l : List Nat, totalN (eachN c l) ≤ l.length * c
  | [] => by simp [eachN, totalN]
  | p :: l => by
    have ih := totalN_le c l
    have h1 : c / p ≤ c := Nat.div_le_self _ _
    simp only [eachN, List.map_cons, totalN, List.length_cons, Nat.add_mul, Nat.one_mul] at ih ⊢
    omega
theorem totalN_tk {c : Nat} {l : List Nat} (i : Nat) (hl : l.length ≤ 4) (hc : c ≤ 100000) : totalN (eachN c (l.take i)) ≤ 400000 := by
  have h1 := totalN_le c (l.take i)
  have h2 : (l.take i).length ≤ 4 := by rw [List.length_take]; omega
  have h3 : (l.take i).length * c ≤ 4 * c := Nat.mul_le_mul_right _ h2
  omega
/-- Cents of the reduced sum. -/
theorem cents_eq {c : Nat} {l : List Nat} (hl : ∀ q ∈ l, 0 < q) : c * (partsN l / Nat.gcd (partsN l) (prodN l)) / (prodN l / Nat.gcd (partsN l) (prodN l)) = totalN (eachN c l) + leftN c (prodN l) l / prodN l := by
  have hB := prodN_pos hl
  have hg : 0 < Nat.gcd (partsN l) (prodN l) := Nat.gcd_pos_of_pos_right _ hB
  have h1 := Nat.div_mul_cancel (Nat.gcd_dvd_left (partsN l) (prodN l))
  have h2 := Nat.div_mul_cancel (Nat.gcd_dvd_right (partsN l) (prodN l))
  have h3 := left_eq (c := c) (B := prodN l) (l := l) fun q hq => ⟨dvd_prodN hq, hl q hq⟩
  rw [← Nat.mul_div_mul_right _ _ hg, Nat.mul_assoc, h1, h2]
  show c * sumN (prodN l) l / prodN l = _
  rw [h3, Nat.mul_add_div hB]
section
variable {lf n L : Nat} {m : Mem} {k : Value → Mem → Option Unit}
theorem paid_sp {bs : List Nat} {q y : Nat} (hlf : 1000000 ≤ lf) (hT : TabOk mTab m) (hL : L ≤ m.next) (hbs : bs.length = 4) (hg : ∀ g ∈ bs, g < 65536) (hq : q < 256) (hy : y < 4294967296)
    (hk : ∀ m', k (.bool true) m' = some ()) : runT (tab lf) (n + 101) 13 [quad bs, .int .u8 (q : Int), .int .u32 (y : Int)] L m k = some () := by
  rw [r13]; dsimp only [S13, iofNat, inegSucc]
  have g1 := Mem.gt_push m ⟨1, bs.map (fun (g : Nat) => .int .u16 (g : Int)), none⟩
  have g1n := g1.next
  have hb : At (m.push ⟨1, bs.map (fun (g : Nat) => .int .u16 (g : Int)), none⟩) m.next _ := At.push m _
  rw [uc_e, uc_e, uc_e, un0_e, abox_e, oRes_e, cells_agg]
  generalize m.push ⟨1, bs.map (fun (g : Nat) => .int .u16 (g : Int)), none⟩ = m1 at hb g1 g1n ⊢
  unfold ptrTo
  rw [ldN_u, hb.rd, rdn_all (by simpa using hbs), oOpt_e, oCv_nat (by omega), show (5 : Int) = ((5 : Nat) : Int) from rfl, oInt_remN (by omega)]
  refine some_sp hlf (by omega) hbs hg (by have := Nat.mod_lt q (show 0 < 5 by omega); omega) fun u m2 l e2 hu hl => ?_
  have e2n := e2.next
  have hT2 := (hT.mono g1).mono e2
  have hlen := hl.len
  have hB := prodN_bound hl.len fun p hp => (hl.rng p hp).2
  have hA := partsN_bound hl
  have hl0 : ∀ p ∈ l, 0 < p := fun p hp => Nat.lt_of_lt_of_le (by omega) (hl.rng p hp).1
  have hB0 := prodN_pos hl0
  rw [oCv_nat (by omega), show (100001 : Int) = ((100001 : Nat) : Int) from rfl, oInt_remN (by omega)]
  have hc : y % 100001 ≤ 100000 := by have := Nat.mod_lt y (show 0 < 100001 by omega); omega
  generalize y % 100001 = c at hc ⊢
  refine cents_sp hlf (by omega) hu.inn hl hc fun u2 m3 e3 hu2 => ?_
  have hT3 := hT2.mono e3
  have hv := (hu.mono e3).inn
  have hw := hu2.inn
  rw [aextract_e, aextract_e, aextract_e]
  simp only [List.getElem?_cons_zero, List.getElem?_cons_succ, oOpt_e]
  refine sum_sp hlf hv hl ?_
  have hgp : 0 < Nat.gcd (partsN l) (prodN l) := Nat.gcd_pos_of_pos_right _ hB0
  have hce := cents_eq (c := c) hl0
  have ha1 : partsN l / Nat.gcd (partsN l) (prodN l) ≤ partsN l := Nat.div_le_self _ _
  have hb1 : prodN l / Nat.gcd (partsN l) (prodN l) ≤ prodN l := Nat.div_le_self _ _
  have hb0 : 0 < prodN l / Nat.gcd (partsN l) (prodN l) := Nat.div_pos (Nat.le_of_dvd hB0 (Nat.gcd_dvd_right _ _)) hgp
  have ha2 : partsN l / Nat.gcd (partsN l) (prodN l) ≤ 2 * (prodN l / Nat.gcd (partsN l) (prodN l)) := by
    have h1 := Nat.div_mul_cancel (Nat.gcd_dvd_right (partsN l) (prodN l))
    refine (Nat.div_le_iff_le_mul_add_pred hgp).2 ?_
    have h2 : Nat.gcd (partsN l) (prodN l) * (2 * (prodN l / Nat.gcd (partsN l) (prodN l))) = 2 * (prodN l / Nat.gcd (partsN l) (prodN l) * Nat.gcd (partsN l) (prodN l)) := by
      rw [Nat.mul_left_comm, Nat.mul_comm (Nat.gcd _ _)]
    omega
  generalize partsN l / Nat.gcd (partsN l) (prodN l) = A at hce ha1 ha2 ⊢
  generalize prodN l / Nat.gcd (partsN l) (prodN l) = B at hce hb1 hb0 ha2 ⊢
  have hov : leftN c (prodN l) l / prodN l ≤ 4 := by
    have hle := leftN_le (c := c) (B := prodN l) l hl0
    have hle2 : l.length * prodN l ≤ 4 * prodN l := Nat.mul_le_mul_right _ hlen
    exact (Nat.div_le_iff_le_mul_add_pred hB0).2 (by rw [Nat.mul_comm]; omega)
  have hlt : l ≠ [] → leftN c (prodN l) l / prodN l < l.length := fun hne => (Nat.div_lt_iff_lt_mul hB0).2 (left_lt (c := c) hB0 (fun q hq => ⟨dvd_prodN hq, hl0 q hq⟩) hne)
  have hnil : l = [] → leftN c (prodN l) l / prodN l = 0 := fun e => by subst e; simp [leftN]
  generalize leftN c (prodN l) l / prodN l = V at hce hov hlt hnil ⊢
  have c1 : ¬ ((B : Int) < 1) := by omega
  have c2 : ¬ ((A : Int) < 0) := by omega
  have c3 : ¬ ((17592186044416 : Int) < (B : Int)) := by omega
  have c4 : ¬ (2 * (B : Int) < (A : Int)) := by omega
  have hm2 : ∀ K : Value → Option Unit, oInt .mul .i64 (.int .i64 2) (.int .i64 (B : Int)) K = K (.int .i64 (2 * (B : Int))) := fun K => oInt_mul ⟨by omega, by omega⟩ K
  try simp (disch := first | omega | with_unfolding_all exact id rfl | with_unfolding_all exact Nat.le_of_ble_eq_true rfl | (simp only [Mem.push_next, Mem.put_next, List.length_cons, List.length_nil, Nat.zero_add, Nat.reduceAdd, allOne, oneCell, Bool.and_self, Bool.and_true]; first | done | omega)) only [hw.ln, hv.ln, eachN_length, dec_self, c1, c2, c3, c4, hm2, ↓uc_e, ↓un0_e, oOpt_e, oRes_e, oIf_t, oIf_f, oGT_t, oGT_f, oGT_u, oGF_t, oGF_f, oGF_u, oPick_t, oPick_f, oInt_eql, oInt_neq, oInt_lss, oInt_leq, oInt_gtr, oInt_geq, aun_not, aextract_e, fa_e, abox_e, ptrTo, oCallV_e, decide_true, decide_false, Bool.not_true, Bool.not_false, List.getElem?_cons_zero, List.getElem?_cons_succ, List.cons_append, List.nil_append, cells_agg, cells_int, cells_slice, cells_bool, cells_ptr, ld1_u, ldN_u, st1_u, rdo_e, rdn_e, stw_e, anew_eq, Mem.push_next, Mem.put_next, Mem.rd_push, Mem.rd_push_eq, Mem.rd_push_lt, Mem.rd_put_eq, Mem.rd_put, List.take_zero, List.drop_zero, List.take_succ_cons, List.drop_succ_cons, List.drop_nil, List.take_nil, List.append_nil, List.length_cons, List.length_nil, Nat.zero_add, Nat.reduceAdd]
  repeat (rw [join_e]; try simp (disch := first | omega | with_unfolding_all exact id rfl | with_unfolding_all exact Nat.le_of_ble_eq_true rfl | (simp only [Mem.push_next, Mem.put_next, List.length_cons, List.length_nil, Nat.zero_add, Nat.reduceAdd, allOne, oneCell, Bool.and_self, Bool.and_true]; first | done | omega)) only [hw.ln, hv.ln, eachN_length, dec_self, c1, c2, c3, c4, hm2, ↓uc_e, ↓un0_e, oOpt_e, oRes_e, oIf_t, oIf_f, oGT_t, oGT_f, oGT_u, oGF_t, oGF_f, oGF_u, oPick_t, oPick_f, oInt_eql, oInt_neq, oInt_lss, oInt_leq, oInt_gtr, oInt_geq, aun_not, aextract_e, fa_e, abox_e, ptrTo, oCallV_e, decide_true, decide_false, Bool.not_true, Bool.not_false, List.getElem?_cons_zero, List.getElem?_cons_succ, List.cons_append, List.nil_append, cells_agg, cells_int, cells_slice, cells_bool, cells_ptr, ld1_u, ldN_u, st1_u, rdo_e, rdn_e, stw_e, anew_eq, Mem.push_next, Mem.put_next, Mem.rd_push, Mem.rd_push_eq, Mem.rd_push_lt, Mem.rd_put_eq, Mem.rd_put, List.take_zero, List.drop_zero, List.take_succ_cons, List.drop_succ_cons, List.drop_nil, List.take_nil, List.append_nil, List.length_cons, List.length_nil, Nat.zero_add, Nat.reduceAdd])
  have htk : ∀ i, totalN (eachN c (l.take i)) ≤ 400000 := fun i => totalN_tk i hlen (by omega)
  refine loop_up l.length (fun i vs m' => vs = [.int .i64 (totalN (eachN c (l.take i)) : Int), .int .i64 (i : Int)] ∧ m' = m3) (by omega) ⟨rfl, rfl⟩ ?_
  rintro i vs m4 hi ⟨rfl, rfl⟩ self hself
  try simp (disch := first | omega | with_unfolding_all exact id rfl | with_unfolding_all exact Nat.le_of_ble_eq_true rfl | (simp only [Mem.push_next, Mem.put_next, List.length_cons, List.length_nil, Nat.zero_add, Nat.reduceAdd, allOne, oneCell, Bool.and_self, Bool.and_true]; first | done | omega)) only [↓uc_e, ↓un0_e, ↓join_e, oOpt_e, oRes_e, oIf_t, oIf_f, oGT_t, oGT_f, oGT_u, oGF_t, oGF_f, oGF_u, oPick_t, oPick_f, oInt_eql, oInt_neq, oInt_lss, oInt_leq, oInt_gtr, oInt_geq, aun_not, aextract_e, fa_e, abox_e, ptrTo, oCallV_e, decide_true, decide_false, Bool.not_true, Bool.not_false, List.getElem?_cons_zero, List.getElem?_cons_succ, List.cons_append, List.nil_append, cells_agg, cells_int, cells_slice, cells_bool, cells_ptr, ld1_u, ldN_u, st1_u, rdo_e, rdn_e, stw_e, anew_eq, Mem.push_next, Mem.put_next, Mem.rd_push, Mem.rd_push_eq, Mem.rd_push_lt, Mem.rd_put_eq, Mem.rd_put, List.take_zero, List.drop_zero, List.take_succ_cons, List.drop_succ_cons, List.drop_nil, List.take_nil, List.append_nil, List.length_cons, List.length_nil, Nat.zero_add, Nat.reduceAdd]
  refine oIf_dec (fun h => ?_) (fun h => ?_)
  · have hil : i < l.length := by omega
    have hil2 : i < (eachN c l).length := by rw [eachN_length]; exact hil
    have hr := hl.rng _ (List.getElem_mem hil)
    have hge : (eachN c l)[i] = c / l[i] := by simp [eachN]
    have hsn := take_snoc hil
    have hti := htk (i + 1)
    have htt : totalN (eachN c (l.take (i + 1))) = totalN (eachN c (l.take i)) + c / l[i] := by
      rw [hsn]; unfold eachN; rw [List.map_append]; exact totalN_snoc _ _
    rw [hw.ia hil2, oOpt_e, hw.ld hil2, oOpt_e, hv.ia hil, oOpt_e, hv.ld hil, oOpt_e, oInt_quoN (by omega) (by omega), hge, oInt_neq, dec_self, Bool.not_true, oIf_f, oInt_addN (by omega), oInt_add ⟨by omega, by omega⟩]
    refine hself hil _ _ ⟨?_, rfl⟩
    rw [htt]
    rfl
  · have hie : i = l.length := by omega
    subst hie
    rw [List.take_length]
    have hcA : c * A < 9223372036854775808 := by
      have : c * A ≤ 100000 * 32000000000000 := Nat.mul_le_mul hc (by omega)
      omega
    rw [oInt_mulN hcA, oInt_quoN hb0 hcA, hce, oInt_sub ⟨by have := htk l.length; rw [List.take_length] at this; omega, by have := htk l.length; rw [List.take_length] at this; omega⟩, oInt_eql]
    rw [show ((totalN (eachN c l) + V : Nat) : Int) - (totalN (eachN c l) : Int) = (V : Int) by omega, dec_self]
    have d1 : (0 : Int) ≤ (V : Int) := by omega
    by_cases he : l = []
    · have hV := hnil he
      subst he
      subst hV
      have d2 : ¬ (((0 : Nat) : Int) < ((0 : Nat) : Int)) := by simp
      have d3 : decide ((([] : List Nat).length : Int) = 0) = true := by simp
      have d4 : decide (((0 : Nat) : Int) = 0) = true := by simp
      try simp (disch := first | omega | with_unfolding_all exact id rfl | with_unfolding_all exact Nat.le_of_ble_eq_true rfl | (simp only [Mem.push_next, Mem.put_next, List.length_cons, List.length_nil, Nat.zero_add, Nat.reduceAdd, allOne, oneCell, Bool.and_self, Bool.and_true]; first | done | omega)) only [hv.ln, d1, d2, d3, d4, ↓uc_e, ↓un0_e, oOpt_e, oRes_e, oIf_t, oIf_f, oGT_t, oGT_f, oGT_u, oGF_t, oGF_f, oGF_u, oPick_t, oPick_f, oInt_eql, oInt_neq, oInt_lss, oInt_leq, oInt_gtr, oInt_geq, aun_not, aextract_e, fa_e, abox_e, ptrTo, oCallV_e, decide_true, decide_false, Bool.not_true, Bool.not_false, List.getElem?_cons_zero, List.getElem?_cons_succ, List.cons_append, List.nil_append, cells_agg, cells_int, cells_slice, cells_bool, cells_ptr, ld1_u, ldN_u, st1_u, rdo_e, rdn_e, stw_e, anew_eq, Mem.push_next, Mem.put_next, Mem.rd_push, Mem.rd_push_eq, Mem.rd_push_lt, Mem.rd_put_eq, Mem.rd_put, List.take_zero, List.drop_zero, List.take_succ_cons, List.drop_succ_cons, List.drop_nil, List.take_nil, List.append_nil, List.length_cons, List.length_nil, Nat.zero_add, Nat.reduceAdd]
      repeat (rw [join_e]; try simp (disch := first | omega | with_unfolding_all exact id rfl | with_unfolding_all exact Nat.le_of_ble_eq_true rfl | (simp only [Mem.push_next, Mem.put_next, List.length_cons, List.length_nil, Nat.zero_add, Nat.reduceAdd, allOne, oneCell, Bool.and_self, Bool.and_true]; first | done | omega)) only [hv.ln, d1, d2, d3, d4, ↓uc_e, ↓un0_e, oOpt_e, oRes_e, oIf_t, oIf_f, oGT_t, oGT_f, oGT_u, oGF_t, oGF_f, oGF_u, oPick_t, oPick_f, oInt_eql, oInt_neq, oInt_lss, oInt_leq, oInt_gtr, oInt_geq, aun_not, aextract_e, fa_e, abox_e, ptrTo, oCallV_e, decide_true, decide_false, Bool.not_true, Bool.not_false, List.getElem?_cons_zero, List.getElem?_cons_succ, List.cons_append, List.nil_append, cells_agg, cells_int, cells_slice, cells_bool, cells_ptr, ld1_u, ldN_u, st1_u, rdo_e, rdn_e, stw_e, anew_eq, Mem.push_next, Mem.put_next, Mem.rd_push, Mem.rd_push_eq, Mem.rd_push_lt, Mem.rd_put_eq, Mem.rd_put, List.take_zero, List.drop_zero, List.take_succ_cons, List.drop_succ_cons, List.drop_nil, List.take_nil, List.append_nil, List.length_cons, List.length_nil, Nat.zero_add, Nat.reduceAdd])
      rw [r27]
      refine SClosed_sp hT3 ?_
      try simp (disch := first | omega | with_unfolding_all exact id rfl | with_unfolding_all exact Nat.le_of_ble_eq_true rfl | (simp only [Mem.push_next, Mem.put_next, List.length_cons, List.length_nil, Nat.zero_add, Nat.reduceAdd, allOne, oneCell, Bool.and_self, Bool.and_true]; first | done | omega)) only [↓uc_e, ↓un0_e, oOpt_e, oRes_e, oIf_t, oIf_f, oGT_t, oGT_f, oGT_u, oGF_t, oGF_f, oGF_u, oPick_t, oPick_f, oInt_eql, oInt_neq, oInt_lss, oInt_leq, oInt_gtr, oInt_geq, aun_not, aextract_e, fa_e, abox_e, ptrTo, oCallV_e, decide_true, decide_false, Bool.not_true, Bool.not_false, List.getElem?_cons_zero, List.getElem?_cons_succ, List.cons_append, List.nil_append, cells_agg, cells_int, cells_slice, cells_bool, cells_ptr, ld1_u, ldN_u, st1_u, rdo_e, rdn_e, stw_e, anew_eq, Mem.push_next, Mem.put_next, Mem.rd_push, Mem.rd_push_eq, Mem.rd_push_lt, Mem.rd_put_eq, Mem.rd_put, List.take_zero, List.drop_zero, List.take_succ_cons, List.drop_succ_cons, List.drop_nil, List.take_nil, List.append_nil, List.length_cons, List.length_nil, Nat.zero_add, Nat.reduceAdd]
      repeat (rw [join_e]; try simp (disch := first | omega | with_unfolding_all exact id rfl | with_unfolding_all exact Nat.le_of_ble_eq_true rfl | (simp only [Mem.push_next, Mem.put_next, List.length_cons, List.length_nil, Nat.zero_add, Nat.reduceAdd, allOne, oneCell, Bool.and_self, Bool.and_true]; first | done | omega)) only [↓uc_e, ↓un0_e, oOpt_e, oRes_e, oIf_t, oIf_f, oGT_t, oGT_f, oGT_u, oGF_t, oGF_f, oGF_u, oPick_t, oPick_f, oInt_eql, oInt_neq, oInt_lss, oInt_leq, oInt_gtr, oInt_geq, aun_not, aextract_e, fa_e, abox_e, ptrTo, oCallV_e, decide_true, decide_false, Bool.not_true, Bool.not_false, List.getElem?_cons_zero, List.getElem?_cons_succ, List.cons_append, List.nil_append, cells_agg, cells_int, cells_slice, cells_bool, cells_ptr, ld1_u, ldN_u, st1_u, rdo_e, rdn_e, stw_e, anew_eq, Mem.push_next, Mem.put_next, Mem.rd_push, Mem.rd_push_eq, Mem.rd_push_lt, Mem.rd_put_eq, Mem.rd_put, List.take_zero, List.drop_zero, List.take_succ_cons, List.drop_succ_cons, List.drop_nil, List.take_nil, List.append_nil, List.length_cons, List.length_nil, Nat.zero_add, Nat.reduceAdd])
      exact hk _
    · have d2 : (V : Int) < (l.length : Int) := by have := hlt he; omega
      try simp (disch := first | omega | with_unfolding_all exact id rfl | with_unfolding_all exact Nat.le_of_ble_eq_true rfl | (simp only [Mem.push_next, Mem.put_next, List.length_cons, List.length_nil, Nat.zero_add, Nat.reduceAdd, allOne, oneCell, Bool.and_self, Bool.and_true]; first | done | omega)) only [hv.ln, d1, d2, ↓uc_e, ↓un0_e, oOpt_e, oRes_e, oIf_t, oIf_f, oGT_t, oGT_f, oGT_u, oGF_t, oGF_f, oGF_u, oPick_t, oPick_f, oInt_eql, oInt_neq, oInt_lss, oInt_leq, oInt_gtr, oInt_geq, aun_not, aextract_e, fa_e, abox_e, ptrTo, oCallV_e, decide_true, decide_false, Bool.not_true, Bool.not_false, List.getElem?_cons_zero, List.getElem?_cons_succ, List.cons_append, List.nil_append, cells_agg, cells_int, cells_slice, cells_bool, cells_ptr, ld1_u, ldN_u, st1_u, rdo_e, rdn_e, stw_e, anew_eq, Mem.push_next, Mem.put_next, Mem.rd_push, Mem.rd_push_eq, Mem.rd_push_lt, Mem.rd_put_eq, Mem.rd_put, List.take_zero, List.drop_zero, List.take_succ_cons, List.drop_succ_cons, List.drop_nil, List.take_nil, List.append_nil, List.length_cons, List.length_nil, Nat.zero_add, Nat.reduceAdd]
      repeat (rw [join_e]; try simp (disch := first | omega | with_unfolding_all exact id rfl | with_unfolding_all exact Nat.le_of_ble_eq_true rfl | (simp only [Mem.push_next, Mem.put_next, List.length_cons, List.length_nil, Nat.zero_add, Nat.reduceAdd, allOne, oneCell, Bool.and_self, Bool.and_true]; first | done | omega)) only [hv.ln, d1, d2, ↓uc_e, ↓un0_e, oOpt_e, oRes_e, oIf_t, oIf_f, oGT_t, oGT_f, oGT_u, oGF_t, oGF_f, oGF_u, oPick_t, oPick_f, oInt_eql, oInt_neq, oInt_lss, oInt_leq, oInt_gtr, oInt_geq, aun_not, aextract_e, fa_e, abox_e, ptrTo, oCallV_e, decide_true, decide_false, Bool.not_true, Bool.not_false, List.getElem?_cons_zero, List.getElem?_cons_succ, List.cons_append, List.nil_append, cells_agg, cells_int, cells_slice, cells_bool, cells_ptr, ld1_u, ldN_u, st1_u, rdo_e, rdn_e, stw_e, anew_eq, Mem.push_next, Mem.put_next, Mem.rd_push, Mem.rd_push_eq, Mem.rd_push_lt, Mem.rd_put_eq, Mem.rd_put, List.take_zero, List.drop_zero, List.take_succ_cons, List.drop_succ_cons, List.drop_nil, List.take_nil, List.append_nil, List.length_cons, List.length_nil, Nat.zero_add, Nat.reduceAdd])
      rw [r27]
      refine SClosed_sp hT3 ?_
      try simp (disch := first | omega | with_unfolding_all exact id rfl | with_unfolding_all exact Nat.le_of_ble_eq_true rfl | (simp only [Mem.push_next, Mem.put_next, List.length_cons, List.length_nil, Nat.zero_add, Nat.reduceAdd, allOne, oneCell, Bool.and_self, Bool.and_true]; first | done | omega)) only [↓uc_e, ↓un0_e, oOpt_e, oRes_e, oIf_t, oIf_f, oGT_t, oGT_f, oGT_u, oGF_t, oGF_f, oGF_u, oPick_t, oPick_f, oInt_eql, oInt_neq, oInt_lss, oInt_leq, oInt_gtr, oInt_geq, aun_not, aextract_e, fa_e, abox_e, ptrTo, oCallV_e, decide_true, decide_false, Bool.not_true, Bool.not_false, List.getElem?_cons_zero, List.getElem?_cons_succ, List.cons_append, List.nil_append, cells_agg, cells_int, cells_slice, cells_bool, cells_ptr, ld1_u, ldN_u, st1_u, rdo_e, rdn_e, stw_e, anew_eq, Mem.push_next, Mem.put_next, Mem.rd_push, Mem.rd_push_eq, Mem.rd_push_lt, Mem.rd_put_eq, Mem.rd_put, List.take_zero, List.drop_zero, List.take_succ_cons, List.drop_succ_cons, List.drop_nil, List.take_nil, List.append_nil, List.length_cons, List.length_nil, Nat.zero_add, Nat.reduceAdd]
      repeat (rw [join_e]; try simp (disch := first | omega | with_unfolding_all exact id rfl | with_unfolding_all exact Nat.le_of_ble_eq_true rfl | (simp only [Mem.push_next, Mem.put_next, List.length_cons, List.length_nil, Nat.zero_add, Nat.reduceAdd, allOne, oneCell, Bool.and_self, Bool.and_true]; first | done | omega)) only [↓uc_e, ↓un0_e, oOpt_e, oRes_e, oIf_t, oIf_f, oGT_t, oGT_f, oGT_u, oGF_t, oGF_f, oGF_u, oPick_t, oPick_f, oInt_eql, oInt_neq, oInt_lss, oInt_leq, oInt_gtr, oInt_geq, aun_not, aextract_e, fa_e, abox_e, ptrTo, oCallV_e, decide_true, decide_false, Bool.not_true, Bool.not_false, List.getElem?_cons_zero, List.getElem?_cons_succ, List.cons_append, List.nil_append, cells_agg, cells_int, cells_slice, cells_bool, cells_ptr, ld1_u, ldN_u, st1_u, rdo_e, rdn_e, stw_e, anew_eq, Mem.push_next, Mem.put_next, Mem.rd_push, Mem.rd_push_eq, Mem.rd_push_lt, Mem.rd_put_eq, Mem.rd_put, List.take_zero, List.drop_zero, List.take_succ_cons, List.drop_succ_cons, List.drop_nil, List.take_nil, List.append_nil, List.length_cons, List.length_nil, Nat.zero_add, Nat.reduceAdd])
      exact hk _
end
end Go.Vit
namespace Go.Proofs.YtcaoifacidnhcaaDoor.DutyPaid
open Go Go.Vit Go.Proofs
theorem u32_nat {x : Int} (h : (Lit.int .u32 x).wf = true) : ∃ a : Nat, x = a ∧ a < 4294967296 := by
  have h1 : IntKind.u32.min ≤ x ∧ x ≤ IntKind.u32.max := by simpa [Lit.wf] using h
  have h2 : (0 : Int) ≤ x := h1.1
  have h3 : x ≤ (4294967295 : Int) := h1.2
  exact ⟨x.toNat, by omega, by omega⟩
theorem runs {bs : List Nat} {q y : Nat} (hbs : bs.length = 4) (hg : ∀ g ∈ bs, g < 65536) (hq : q < 256) (hy : y < 4294967296) (hT : TabOk mTab mTab) : Vit.runT (tab 1000000) 200 13 [quad bs, .int .u8 (q : Int), .int .u32 (y : Int)] mTab.next mTab isTrue = some () :=
  paid_sp (n := 99) (Nat.le_refl _) hT (Nat.le_refl _) hbs hg hq hy fun _ => rfl
end Go.Proofs.YtcaoifacidnhcaaDoor.DutyPaid
