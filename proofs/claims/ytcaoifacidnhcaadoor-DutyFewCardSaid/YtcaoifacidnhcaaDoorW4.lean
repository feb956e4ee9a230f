/- Walks: cents. -/
import Derived.Test.YtcaoifacidnhcaaDoorW3
set_option linter.unusedSimpArgs false
set_option linter.unusedVariables false
set_option maxRecDepth 20000
namespace Go.Vit
open Go Go.Proofs
attribute [local irreducible] runT loopS
/-- What is left of each part, in the product of all. -/
def leftN (c B : Nat) : List Nat → Nat
  | [] => 0
  | p :: l => c % p * (B / p) + leftN c B l
theorem leftN_snoc (c B : Nat) (l : List Nat) (p : Nat) : leftN c B (l ++ [p]) = leftN c B l + c % p * (B / p) := by
  induction l with
  | nil => simp [leftN]
  | cons q l ih => simp only [List.cons_append, leftN, ih, Nat.add_assoc]
def eachN (c : Nat) (l : List Nat) : List Nat := l.map fun p => c / p
def totalN : List Nat → Nat
  | [] => 0
  | p :: l => p + totalN l
theorem totalN_snoc (l : List Nat) (p : Nat) : totalN (l ++ [p]) = totalN l + p := by
  induction l with
  | nil => simp [totalN]
  | cons q l ih => simp only [List.cons_append, totalN, ih, Nat.add_assoc]
/-- All together: whole cents and what is left. -/
theorem left_eq {c B : Nat} : ∀ {l : List Nat}, (∀ q ∈ l, q ∣ B ∧ 0 < q) → c * sumN B l = B * totalN (eachN c l) + leftN c B l
  | [], _ => by simp [sumN, eachN, totalN, leftN]
  | p :: l, h => by
    obtain ⟨⟨d, rfl⟩, hp⟩ := h p (by simp)
    have ih := left_eq (c := c) (B := p * d) (l := l) fun x hx => h x (by simp [hx])
    simp only [eachN] at ih
    simp only [sumN, eachN, List.map_cons, totalN, leftN, Nat.mul_add, ih, Nat.mul_div_cancel_left _ hp]
    have h1 := Nat.div_add_mod c p
    have h2 : c * d = p * d * (c / p) + c % p * d := by
      calc c * d = (p * (c / p) + c % p) * d := by rw [h1]
        _ = p * d * (c / p) + c % p * d := by rw [Nat.add_mul, Nat.mul_right_comm]
    omega
theorem left_lt {c B : Nat} (hB : 0 < B) : ∀ {l : List Nat}, (∀ q ∈ l, q ∣ B ∧ 0 < q) → l ≠ [] → leftN c B l < l.length * B
  | [p], h, _ => by
    obtain ⟨⟨d, rfl⟩, hp⟩ := h p (by simp)
    have hd : 0 < d := Nat.pos_of_mul_pos_left hB
    simp only [leftN, Nat.mul_div_cancel_left _ hp, List.length_cons, List.length_nil, Nat.add_zero, Nat.zero_add, Nat.one_mul]
    exact Nat.mul_lt_mul_of_pos_right (Nat.mod_lt _ hp) hd
  | p :: q :: l, h, _ => by
    have ih := left_lt (c := c) hB (l := q :: l) (fun x hx => h x (by simp [hx])) (by simp)
    obtain ⟨⟨d, hd'⟩, hp⟩ := h p (by simp)
    have hd : 0 < d := by
      rcases Nat.eq_zero_or_pos d with h0 | h0
      · subst h0; simp at hd'; omega
      · exact h0
    have h1 : c % p * (B / p) < B := by
      rw [hd', Nat.mul_div_cancel_left _ hp]
      exact Nat.mul_lt_mul_of_pos_right (Nat.mod_lt _ hp) hd
    rw [show leftN c B (p :: q :: l) = c % p * (B / p) + leftN c B (q :: l) from rfl, List.length_cons, Nat.add_mul, Nat.one_mul]
    omega
theorem leftN_le {c B : Nat} : ∀ (l : List Nat), (∀ q ∈ l, 0 < q) → leftN c B l ≤ l.length * B
  | [], _ => by simp [leftN]
  | p :: l, h => by
    have ih := leftN_le (c := c) (B := B) l fun x hx => h x (by simp [hx])
    have h1 : c % p * (B / p) ≤ p * (B / p) := Nat.mul_le_mul_right _ (Nat.le_of_lt (Nat.mod_lt _ (h p (by simp))))
    have h2 := Nat.mul_div_le B p
    simp only [leftN, List.length_cons, Nat.add_mul, Nat.one_mul]
    omega
section
variable {lf n L : Nat} {m : Mem} {k : Value → Mem → Option Unit}
theorem cents_sp {v : Value} {l : List Nat} {c : Nat} (hlf : 1000000 ≤ lf) (hL : L ≤ m.next) (hv : IN m v l) (hl : Val l) (hc : c ≤ 100000)
    (hk : ∀ u m', Gt m m' → GN m.next m' u (eachN c l) → k (.tuple ⟨[u, .int .i64 ((leftN c (prodN l) l / prodN l : Nat) : Int), .int .i64 0]⟩) m' = some ()) : runT (tab lf) (n + 3) 36 [.int .i64 (c : Int), v] L m k = some () := by
  have hlen := hl.len
  have hB := prodN_bound hl.len fun p hp => (hl.rng p hp).2
  have hB0 := prodN_pos fun p hp => Nat.lt_of_lt_of_le (by omega) (hl.rng p hp).1
  rw [r36]; dsimp only [S36, iofNat, inegSucc]
  try simp (disch := first | omega | with_unfolding_all exact id rfl | with_unfolding_all exact Nat.le_of_ble_eq_true rfl | (simp only [Mem.push_next, Mem.put_next, List.length_cons, List.length_nil, Nat.zero_add, Nat.reduceAdd, allOne, oneCell, Bool.and_self, Bool.and_true]; first | done | omega)) only [↓uc_e, ↓un0_e, ↓join_e, oOpt_e, oRes_e, oIf_t, oIf_f, oGT_t, oGT_f, oGT_u, oGF_t, oGF_f, oGF_u, oPick_t, oPick_f, oInt_eql, oInt_neq, oInt_lss, oInt_leq, oInt_gtr, oInt_geq, aun_not, aextract_e, fa_e, abox_e, ptrTo, oCallV_e, decide_true, decide_false, Bool.not_true, Bool.not_false, List.getElem?_cons_zero, List.getElem?_cons_succ, List.cons_append, List.nil_append, cells_agg, cells_int, cells_slice, cells_bool, cells_ptr, ld1_u, ldN_u, st1_u, rdo_e, rdn_e, stw_e, anew_eq, Mem.push_next, Mem.put_next, Mem.rd_push, Mem.rd_push_eq, Mem.rd_push_lt, Mem.rd_put_eq, Mem.rd_put, List.take_zero, List.drop_zero, List.take_succ_cons, List.drop_succ_cons, List.drop_nil, List.take_nil, List.append_nil, List.length_cons, List.length_nil, Nat.zero_add, Nat.reduceAdd]
  refine within_sp ?_
  rw [decide_eq_true ⟨by omega, by omega⟩]
  try simp (disch := first | omega | with_unfolding_all exact id rfl | with_unfolding_all exact Nat.le_of_ble_eq_true rfl | (simp only [Mem.push_next, Mem.put_next, List.length_cons, List.length_nil, Nat.zero_add, Nat.reduceAdd, allOne, oneCell, Bool.and_self, Bool.and_true]; first | done | omega)) only [↓uc_e, ↓un0_e, ↓join_e, oOpt_e, oRes_e, oIf_t, oIf_f, oGT_t, oGT_f, oGT_u, oGF_t, oGF_f, oGF_u, oPick_t, oPick_f, oInt_eql, oInt_neq, oInt_lss, oInt_leq, oInt_gtr, oInt_geq, aun_not, aextract_e, fa_e, abox_e, ptrTo, oCallV_e, decide_true, decide_false, Bool.not_true, Bool.not_false, List.getElem?_cons_zero, List.getElem?_cons_succ, List.cons_append, List.nil_append, cells_agg, cells_int, cells_slice, cells_bool, cells_ptr, ld1_u, ldN_u, st1_u, rdo_e, rdn_e, stw_e, anew_eq, Mem.push_next, Mem.put_next, Mem.rd_push, Mem.rd_push_eq, Mem.rd_push_lt, Mem.rd_put_eq, Mem.rd_put, List.take_zero, List.drop_zero, List.take_succ_cons, List.drop_succ_cons, List.drop_nil, List.take_nil, List.append_nil, List.length_cons, List.length_nil, Nat.zero_add, Nat.reduceAdd]
  refine check_ok hlf hv hl ?_
  try simp (disch := first | omega | with_unfolding_all exact id rfl | with_unfolding_all exact Nat.le_of_ble_eq_true rfl | (simp only [Mem.push_next, Mem.put_next, List.length_cons, List.length_nil, Nat.zero_add, Nat.reduceAdd, allOne, oneCell, Bool.and_self, Bool.and_true]; first | done | omega)) only [↓uc_e, ↓un0_e, ↓join_e, oOpt_e, oRes_e, oIf_t, oIf_f, oGT_t, oGT_f, oGT_u, oGF_t, oGF_f, oGF_u, oPick_t, oPick_f, oInt_eql, oInt_neq, oInt_lss, oInt_leq, oInt_gtr, oInt_geq, aun_not, aextract_e, fa_e, abox_e, ptrTo, oCallV_e, decide_true, decide_false, Bool.not_true, Bool.not_false, List.getElem?_cons_zero, List.getElem?_cons_succ, List.cons_append, List.nil_append, cells_agg, cells_int, cells_slice, cells_bool, cells_ptr, ld1_u, ldN_u, st1_u, rdo_e, rdn_e, stw_e, anew_eq, Mem.push_next, Mem.put_next, Mem.rd_push, Mem.rd_push_eq, Mem.rd_push_lt, Mem.rd_put_eq, Mem.rd_put, List.take_zero, List.drop_zero, List.take_succ_cons, List.drop_succ_cons, List.drop_nil, List.take_nil, List.append_nil, List.length_cons, List.length_nil, Nat.zero_add, Nat.reduceAdd]
  refine total_sp hlf hv hl ?_
  try simp (disch := first | omega | with_unfolding_all exact id rfl | with_unfolding_all exact Nat.le_of_ble_eq_true rfl | (simp only [Mem.push_next, Mem.put_next, List.length_cons, List.length_nil, Nat.zero_add, Nat.reduceAdd, allOne, oneCell, Bool.and_self, Bool.and_true]; first | done | omega)) only [hv.ln, ↓uc_e, ↓un0_e, ↓join_e, oOpt_e, oRes_e, oIf_t, oIf_f, oGT_t, oGT_f, oGT_u, oGF_t, oGF_f, oGF_u, oPick_t, oPick_f, oInt_eql, oInt_neq, oInt_lss, oInt_leq, oInt_gtr, oInt_geq, aun_not, aextract_e, fa_e, abox_e, ptrTo, oCallV_e, decide_true, decide_false, Bool.not_true, Bool.not_false, List.getElem?_cons_zero, List.getElem?_cons_succ, List.cons_append, List.nil_append, cells_agg, cells_int, cells_slice, cells_bool, cells_ptr, ld1_u, ldN_u, st1_u, rdo_e, rdn_e, stw_e, anew_eq, Mem.push_next, Mem.put_next, Mem.rd_push, Mem.rd_push_eq, Mem.rd_push_lt, Mem.rd_put_eq, Mem.rd_put, List.take_zero, List.drop_zero, List.take_succ_cons, List.drop_succ_cons, List.drop_nil, List.take_nil, List.append_nil, List.length_cons, List.length_nil, Nat.zero_add, Nat.reduceAdd]
  refine loop_up l.length (fun i vs m' => ∃ u, vs = [u, .int .i64 (leftN c (prodN l) (l.take i) : Int), .int .i64 (i : Int)] ∧ Gt m m' ∧ GN m.next m' u (eachN c (l.take i))) (by omega) ⟨_, rfl, Gt.refl _, GN.nil _ _⟩ ?_
  rintro i vs m2 hi ⟨u, rfl, e2, hu⟩ self hself
  have e2n := e2.next
  have hv2 := hv.mono e2
  try simp (disch := first | omega | with_unfolding_all exact id rfl | with_unfolding_all exact Nat.le_of_ble_eq_true rfl | (simp only [Mem.push_next, Mem.put_next, List.length_cons, List.length_nil, Nat.zero_add, Nat.reduceAdd, allOne, oneCell, Bool.and_self, Bool.and_true]; first | done | omega)) only [↓uc_e, ↓un0_e, ↓join_e, oOpt_e, oRes_e, oIf_t, oIf_f, oGT_t, oGT_f, oGT_u, oGF_t, oGF_f, oGF_u, oPick_t, oPick_f, oInt_eql, oInt_neq, oInt_lss, oInt_leq, oInt_gtr, oInt_geq, aun_not, aextract_e, fa_e, abox_e, ptrTo, oCallV_e, decide_true, decide_false, Bool.not_true, Bool.not_false, List.getElem?_cons_zero, List.getElem?_cons_succ, List.cons_append, List.nil_append, cells_agg, cells_int, cells_slice, cells_bool, cells_ptr, ld1_u, ldN_u, st1_u, rdo_e, rdn_e, stw_e, anew_eq, Mem.push_next, Mem.put_next, Mem.rd_push, Mem.rd_push_eq, Mem.rd_push_lt, Mem.rd_put_eq, Mem.rd_put, List.take_zero, List.drop_zero, List.take_succ_cons, List.drop_succ_cons, List.drop_nil, List.take_nil, List.append_nil, List.length_cons, List.length_nil, Nat.zero_add, Nat.reduceAdd]
  refine oIf_dec (fun h => ?_) (fun h => ?_)
  · have hil : i < l.length := by omega
    have hr := hl.rng _ (List.getElem_mem hil)
    have hsn := take_snoc hil
    have hle := leftN_le (c := c) (B := prodN l) (l.take (i + 1)) fun p hp => Nat.lt_of_lt_of_le (by omega) (hl.rng p (List.mem_of_mem_take hp)).1
    have hle2 : (l.take (i + 1)).length * prodN l ≤ 4 * prodN l := Nat.mul_le_mul_right _ (by rw [List.length_take]; omega)
    rw [hsn, leftN_snoc] at hle
    rw [hv2.ia hil, oOpt_e, hv2.ld hil, oOpt_e, oInt_quoN (by omega) (by omega)]
    obtain ⟨x2, m3, h8, h9, e7, h10⟩ := GN.snoc (P := Tryd.prog) (t := 30) (L := L) (m0 := m) (c / l[i]) ael30 (by omega) hu (by unfold eachN; rw [List.length_map, List.length_take]; omega) (by omega) e2 (Nat.le_refl _)
    rw [bs30, oRes_e, h8, oRes_e, oInt_remN (by omega), oInt_quoN (by omega) (by omega), oInt_mulN (by rw [hsn] at hle2; omega), oInt_addN (by rw [hsn] at hle2; omega), oInt_add ⟨by omega, by omega⟩]
    refine hself hil _ _ ⟨x2, ?_, e7, ?_⟩
    · rw [hsn, leftN_snoc]; rfl
    · rw [hsn]
      unfold eachN at h9 ⊢
      rw [List.map_append]
      exact h9.le e2n
  · have hie : i = l.length := by omega
    subst hie
    rw [List.take_length] at hu ⊢
    have hle := leftN_le (c := c) (B := prodN l) l fun p hp => Nat.lt_of_lt_of_le (by omega) (hl.rng p hp).1
    have hle2 : l.length * prodN l ≤ 4 * prodN l := Nat.mul_le_mul_right _ (by omega)
    rw [oInt_quoN hB0 (by omega)]
    exact hk u m2 e2 hu
end
end Go.Vit
