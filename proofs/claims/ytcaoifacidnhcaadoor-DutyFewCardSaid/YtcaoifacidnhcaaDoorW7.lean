/- Walks: the reference's sum. -/
import Derived.Test.YtcaoifacidnhcaaDoorW6
set_option linter.unusedSimpArgs false
set_option linter.unusedVariables false
set_option maxRecDepth 20000
namespace Go.Vit
open Go Go.Proofs
attribute [local irreducible] runT loopS
theorem bu24 (a b : Int) : bu Tryd.prog 24 [(0, .int .i64 a), (1, .int .i64 b)] = some (.agg ⟨[.int .i64 a, .int .i64 b]⟩) := by kernel_rfl
theorem af240 (a b : Int) : afieldV Tryd.prog 24 (.agg ⟨[.int .i64 a, .int .i64 b]⟩) 0 = some (.int .i64 a) := by kernel_rfl
theorem af241 (a b : Int) : afieldV Tryd.prog 24 (.agg ⟨[.int .i64 a, .int .i64 b]⟩) 1 = some (.int .i64 b) := by kernel_rfl
/-- The reduced sum. -/
def upN (l : List Nat) : Nat := partsN l / Nat.gcd (partsN l) (prodN l)
def dnN (l : List Nat) : Nat := prodN l / Nat.gcd (partsN l) (prodN l)
theorem red_snoc {l : List Nat} {p : Nat} (hp : 0 < p) (hl : ∀ q ∈ l, 0 < q) :
    upN (l ++ [p]) = (upN l * p + dnN l) / Nat.gcd (upN l * p + dnN l) (dnN l * p) ∧ dnN (l ++ [p]) = dnN l * p / Nat.gcd (upN l * p + dnN l) (dnN l * p) := by
  have hB := prodN_pos hl
  have hg : 0 < Nat.gcd (partsN l) (prodN l) := Nat.gcd_pos_of_pos_right _ hB
  have h1 : upN l * Nat.gcd (partsN l) (prodN l) = partsN l := Nat.div_mul_cancel (Nat.gcd_dvd_left _ _)
  have h2 : dnN l * Nat.gcd (partsN l) (prodN l) = prodN l := Nat.div_mul_cancel (Nat.gcd_dvd_right _ _)
  have h3 : partsN l * p + prodN l = (upN l * p + dnN l) * Nat.gcd (partsN l) (prodN l) := by
    rw [Nat.add_mul, h2, Nat.mul_right_comm, h1]
  have h4 : prodN l * p = dnN l * p * Nat.gcd (partsN l) (prodN l) := by
    rw [Nat.mul_right_comm, h2]
  unfold upN dnN at h3 h4 ⊢
  rw [partsN_snoc hp hl, prodN_snoc]
  generalize Nat.gcd (partsN l) (prodN l) = g at hg h3 h4 ⊢
  generalize partsN l / g * p + prodN l / g = x at h3 ⊢
  generalize prodN l / g * p = y at h4 ⊢
  rw [h3, h4, Nat.gcd_mul_right, Nat.mul_div_mul_right _ _ hg, Nat.mul_div_mul_right _ _ hg]
  exact ⟨rfl, rfl⟩
section
variable {lf n L : Nat} {m : Mem} {k : Value → Mem → Option Unit}
theorem reduced_sp {a b : Nat} (hlf : 1000000 ≤ lf) (hL : L ≤ m.next) (ha : a < 2 ^ 60) (hb : b < 2 ^ 60) (hb0 : 0 < b)
    (hk : ∀ m', Gt m m' → k (.agg ⟨[.int .i64 ((a / Nat.gcd a b : Nat) : Int), .int .i64 ((b / Nat.gcd a b : Nat) : Int)]⟩) m' = some ()) :
    runT (tab lf) (n + 2) 53 [.agg ⟨[.int .i64 (a : Int), .int .i64 (b : Int)]⟩] L m k = some () := by
  rw [r53]; dsimp only [S53, iofNat, inegSucc]
  have hg : 0 < Nat.gcd a b := Nat.gcd_pos_of_pos_right _ hb0
  have h60 : (2 : Nat) ^ 60 = 1152921504606846976 := by decide
  have q1 : ∀ K : Value → Option Unit, oInt .quo .i64 (.int .i64 (a : Int)) (.int .i64 (Nat.gcd a b : Nat)) K = K (.int .i64 ((a / Nat.gcd a b : Nat) : Int)) := fun K => oInt_quoN hg (by omega) K
  have q2 : ∀ K : Value → Option Unit, oInt .quo .i64 (.int .i64 (b : Int)) (.int .i64 (Nat.gcd a b : Nat)) K = K (.int .i64 ((b / Nat.gcd a b : Nat) : Int)) := fun K => oInt_quoN hg (by omega) K
  try simp (disch := first | omega | with_unfolding_all exact id rfl | with_unfolding_all exact Nat.le_of_ble_eq_true rfl | (simp only [Mem.push_next, Mem.put_next, List.length_cons, List.length_nil, Nat.zero_add, Nat.reduceAdd, allOne, oneCell, Bool.and_self, Bool.and_true]; first | done | omega)) only [↓uc_e, ↓un0_e, ↓join_e, oOpt_e, oRes_e, oIf_t, oIf_f, oGT_t, oGT_f, oGT_u, oGF_t, oGF_f, oGF_u, oPick_t, oPick_f, oInt_eql, oInt_neq, oInt_lss, oInt_leq, oInt_gtr, oInt_geq, aun_not, aextract_e, fa_e, abox_e, ptrTo, oCallV_e, decide_true, decide_false, Bool.not_true, Bool.not_false, List.getElem?_cons_zero, List.getElem?_cons_succ, List.cons_append, List.nil_append, cells_agg, cells_int, cells_slice, cells_bool, cells_ptr, ld1_u, ldN_u, st1_u, rdo_e, rdn_e, stw_e, anew_eq, Mem.push_next, Mem.put_next, Mem.rd_push, Mem.rd_push_eq, Mem.rd_push_lt, Mem.rd_put_eq, Mem.rd_put, List.take_zero, List.drop_zero, List.take_succ_cons, List.drop_succ_cons, List.drop_nil, List.take_nil, List.append_nil, List.length_cons, List.length_nil, Nat.zero_add, Nat.reduceAdd]
  refine gcd60 hlf ha hb ?_
  try simp (disch := first | omega | with_unfolding_all exact id rfl | with_unfolding_all exact Nat.le_of_ble_eq_true rfl | (simp only [Mem.push_next, Mem.put_next, List.length_cons, List.length_nil, Nat.zero_add, Nat.reduceAdd, allOne, oneCell, Bool.and_self, Bool.and_true]; first | done | omega)) only [q1, q2, bu24, ↓uc_e, ↓un0_e, ↓join_e, oOpt_e, oRes_e, oIf_t, oIf_f, oGT_t, oGT_f, oGT_u, oGF_t, oGF_f, oGF_u, oPick_t, oPick_f, oInt_eql, oInt_neq, oInt_lss, oInt_leq, oInt_gtr, oInt_geq, aun_not, aextract_e, fa_e, abox_e, ptrTo, oCallV_e, decide_true, decide_false, Bool.not_true, Bool.not_false, List.getElem?_cons_zero, List.getElem?_cons_succ, List.cons_append, List.nil_append, cells_agg, cells_int, cells_slice, cells_bool, cells_ptr, ld1_u, ldN_u, st1_u, rdo_e, rdn_e, stw_e, anew_eq, Mem.push_next, Mem.put_next, Mem.rd_push, Mem.rd_push_eq, Mem.rd_push_lt, Mem.rd_put_eq, Mem.rd_put, List.take_zero, List.drop_zero, List.take_succ_cons, List.drop_succ_cons, List.drop_nil, List.take_nil, List.append_nil, List.length_cons, List.length_nil, Nat.zero_add, Nat.reduceAdd]
  refine hk _ (Mem.put_gt ((Mem.gt_push _ _).trans (Mem.gt_push _ _)) _ ?_)
  try simp only [Mem.push_next]
  omega
theorem sum68_sp {v : Value} {l : List Nat} (hlf : 1000000 ≤ lf) (hL : L ≤ m.next) (hv : IN m v l) (hl : Val l)
    (hk : ∀ m', Gt m m' → k (.agg ⟨[.int .i64 ((upN l : Nat) : Int), .int .i64 ((dnN l : Nat) : Int)]⟩) m' = some ()) : runT (tab lf) (n + 3) 68 [v] L m k = some () := by
  have hlen := hl.len
  rw [r68]; dsimp only [S68, iofNat, inegSucc]
  try simp (disch := first | omega | with_unfolding_all exact id rfl | with_unfolding_all exact Nat.le_of_ble_eq_true rfl | (simp only [Mem.push_next, Mem.put_next, List.length_cons, List.length_nil, Nat.zero_add, Nat.reduceAdd, allOne, oneCell, Bool.and_self, Bool.and_true]; first | done | omega)) only [bu24, ↓uc_e, ↓un0_e, ↓join_e, oOpt_e, oRes_e, oIf_t, oIf_f, oGT_t, oGT_f, oGT_u, oGF_t, oGF_f, oGF_u, oPick_t, oPick_f, oInt_eql, oInt_neq, oInt_lss, oInt_leq, oInt_gtr, oInt_geq, aun_not, aextract_e, fa_e, abox_e, ptrTo, oCallV_e, decide_true, decide_false, Bool.not_true, Bool.not_false, List.getElem?_cons_zero, List.getElem?_cons_succ, List.cons_append, List.nil_append, cells_agg, cells_int, cells_slice, cells_bool, cells_ptr, ld1_u, ldN_u, st1_u, rdo_e, rdn_e, stw_e, anew_eq, Mem.push_next, Mem.put_next, Mem.rd_push, Mem.rd_push_eq, Mem.rd_push_lt, Mem.rd_put_eq, Mem.rd_put, List.take_zero, List.drop_zero, List.take_succ_cons, List.drop_succ_cons, List.drop_nil, List.take_nil, List.append_nil, List.length_cons, List.length_nil, Nat.zero_add, Nat.reduceAdd]
  have hgt : Gt m (((m.push ⟨1, [.int .i64 0, .int .i64 0], none⟩).push ⟨1, [.int .i64 0, .int .i64 0], none⟩).put (m.next + 1) (some ⟨1, [.int .i64 0, .int .i64 1], none⟩)) := Mem.put_gt ((Mem.gt_push _ _).trans (Mem.gt_push _ _)) _ (by omega)
  have hA : At (((m.push ⟨1, [.int .i64 0, .int .i64 0], none⟩).push ⟨1, [.int .i64 0, .int .i64 0], none⟩).put (m.next + 1) (some ⟨1, [.int .i64 0, .int .i64 1], none⟩)) m.next [.int .i64 0, .int .i64 0] :=
    At.put ((Mem.gt_push (m.push ⟨1, [.int .i64 0, .int .i64 0], none⟩) _).kept m.next (by rw [Mem.push_next]; omega) |>.trans (Mem.rd_push _ _)) (by omega) _
  have hB : At (((m.push ⟨1, [.int .i64 0, .int .i64 0], none⟩).push ⟨1, [.int .i64 0, .int .i64 0], none⟩).put (m.next + 1) (some ⟨1, [.int .i64 0, .int .i64 1], none⟩)) (m.next + 1) [.int .i64 0, .int .i64 1] := Mem.rd_put_eq _ _ (by simp only [Mem.push_next]; omega)
  generalize ((m.push ⟨1, [.int .i64 0, .int .i64 0], none⟩).push ⟨1, [.int .i64 0, .int .i64 0], none⟩).put (m.next + 1) (some ⟨1, [.int .i64 0, .int .i64 1], none⟩) = m1 at hgt hA hB ⊢
  refine loop_up l.length (fun i vs m' => vs = [.int .i64 (i : Int)] ∧ Gt m m' ∧ At m' m.next [.int .i64 0, .int .i64 0] ∧ At m' (m.next + 1) [.int .i64 (upN (l.take i) : Int), .int .i64 (dnN (l.take i) : Int)]) (by omega) ⟨rfl, hgt, hA, by rw [List.take_zero]; exact hB⟩ ?_
  rintro i vs m2 hi ⟨rfl, e2, hA2, hB2⟩ self hself
  clear hgt hA hB
  have hv2 := hv.mono e2
  have hltB := Mem.rd_lt hB2.rd
  try simp (disch := first | omega | with_unfolding_all exact id rfl | with_unfolding_all exact Nat.le_of_ble_eq_true rfl | (simp only [Mem.push_next, Mem.put_next, List.length_cons, List.length_nil, Nat.zero_add, Nat.reduceAdd, allOne, oneCell, Bool.and_self, Bool.and_true]; first | done | omega)) only [hv2.ln, ↓uc_e, ↓un0_e, ↓join_e, oOpt_e, oRes_e, oIf_t, oIf_f, oGT_t, oGT_f, oGT_u, oGF_t, oGF_f, oGF_u, oPick_t, oPick_f, oInt_eql, oInt_neq, oInt_lss, oInt_leq, oInt_gtr, oInt_geq, aun_not, aextract_e, fa_e, abox_e, ptrTo, oCallV_e, decide_true, decide_false, Bool.not_true, Bool.not_false, List.getElem?_cons_zero, List.getElem?_cons_succ, List.cons_append, List.nil_append, cells_agg, cells_int, cells_slice, cells_bool, cells_ptr, ld1_u, ldN_u, st1_u, rdo_e, rdn_e, stw_e, anew_eq, Mem.push_next, Mem.put_next, Mem.rd_push, Mem.rd_push_eq, Mem.rd_push_lt, Mem.rd_put_eq, Mem.rd_put, List.take_zero, List.drop_zero, List.take_succ_cons, List.drop_succ_cons, List.drop_nil, List.take_nil, List.append_nil, List.length_cons, List.length_nil, Nat.zero_add, Nat.reduceAdd]
  refine oIf_dec (fun h => ?_) (fun h => ?_)
  · have hil : i < l.length := by omega
    have hr := hl.rng _ (List.getElem_mem hil)
    have hsn := take_snoc hil
    have hvi : Val (l.take i) := ⟨by rw [List.length_take]; omega, fun p hp => hl.rng p (List.mem_of_mem_take hp), hl.ord.sublist (List.take_sublist _ _)⟩
    have h0 : ∀ p ∈ l.take i, 0 < p := fun p hp => Nat.lt_of_lt_of_le (by omega) (hvi.rng p hp).1
    have b1 := partsN_bound hvi
    have b2 := prodN_bound hvi.len fun p hp => (hvi.rng p hp).2
    have b3 := prodN_pos h0
    have hg : 0 < Nat.gcd (partsN (l.take i)) (prodN (l.take i)) := Nat.gcd_pos_of_pos_right _ b3
    have u1 : upN (l.take i) ≤ partsN (l.take i) := Nat.div_le_self _ _
    have u2 : dnN (l.take i) ≤ prodN (l.take i) := Nat.div_le_self _ _
    have u3 : 0 < dnN (l.take i) := Nat.div_pos (Nat.le_of_dvd b3 (Nat.gcd_dvd_right _ _)) hg
    have hred := red_snoc (l := l.take i) (p := l[i]) (by omega) h0
    rw [← hsn] at hred
    have h60 : (2 : Nat) ^ 60 = 1152921504606846976 := by decide
    have hia := hv2.ia hil
    have hld := hv2.ld hil
    have hap : upN (l.take i) * l[i] ≤ 32000000000000 * 2000 := Nat.mul_le_mul (by omega) hr.2
    have hbp : dnN (l.take i) * l[i] ≤ 16000000000000 * 2000 := Nat.mul_le_mul (by omega) hr.2
    have hbp0 : 0 < dnN (l.take i) * l[i] := Nat.mul_pos u3 (by omega)
    generalize upN (l.take i) = a at *
    generalize dnN (l.take i) = b at *
    generalize l[i] = p at *
    have q1 : ∀ K : Value → Option Unit, oInt .mul .i64 (.int .i64 (a : Int)) (.int .i64 (p : Int)) K = K (.int .i64 ((a * p : Nat) : Int)) := fun K => oInt_mulN (by omega) K
    have q2 : ∀ K : Value → Option Unit, oInt .mul .i64 (.int .i64 (b : Int)) (.int .i64 (p : Int)) K = K (.int .i64 ((b * p : Nat) : Int)) := fun K => oInt_mulN (by omega) K
    have q3 : ∀ K : Value → Option Unit, oInt .add .i64 (.int .i64 ((a * p : Nat) : Int)) (.int .i64 (b : Int)) K = K (.int .i64 ((a * p + b : Nat) : Int)) := fun K => oInt_addN (by omega) K
    try simp (disch := first | omega | with_unfolding_all exact id rfl | with_unfolding_all exact Nat.le_of_ble_eq_true rfl | (simp only [Mem.push_next, Mem.put_next, List.length_cons, List.length_nil, Nat.zero_add, Nat.reduceAdd, allOne, oneCell, Bool.and_self, Bool.and_true]; first | done | omega)) only [hia, hld, hB2.rd, q1, q2, q3, bu24, ↓uc_e, ↓un0_e, ↓join_e, oOpt_e, oRes_e, oIf_t, oIf_f, oGT_t, oGT_f, oGT_u, oGF_t, oGF_f, oGF_u, oPick_t, oPick_f, oInt_eql, oInt_neq, oInt_lss, oInt_leq, oInt_gtr, oInt_geq, aun_not, aextract_e, fa_e, abox_e, ptrTo, oCallV_e, decide_true, decide_false, Bool.not_true, Bool.not_false, List.getElem?_cons_zero, List.getElem?_cons_succ, List.cons_append, List.nil_append, cells_agg, cells_int, cells_slice, cells_bool, cells_ptr, ld1_u, ldN_u, st1_u, rdo_e, rdn_e, stw_e, anew_eq, Mem.push_next, Mem.put_next, Mem.rd_push, Mem.rd_push_eq, Mem.rd_push_lt, Mem.rd_put_eq, Mem.rd_put, List.take_zero, List.drop_zero, List.take_succ_cons, List.drop_succ_cons, List.drop_nil, List.take_nil, List.append_nil, List.length_cons, List.length_nil, Nat.zero_add, Nat.reduceAdd]
    refine reduced_sp hlf (by have := e2.next; omega) (by omega) (by omega) hbp0 fun m3 e3 => ?_
    have hB3 := hB2.mono e3
    have hA3 := hA2.mono e3
    have e3n := e3.next
    have e2n := e2.next
    try simp (disch := first | omega | with_unfolding_all exact id rfl | with_unfolding_all exact Nat.le_of_ble_eq_true rfl | (simp only [Mem.push_next, Mem.put_next, List.length_cons, List.length_nil, Nat.zero_add, Nat.reduceAdd, allOne, oneCell, Bool.and_self, Bool.and_true]; first | done | omega)) only [hB3.rd, ↓uc_e, ↓un0_e, ↓join_e, oOpt_e, oRes_e, oIf_t, oIf_f, oGT_t, oGT_f, oGT_u, oGF_t, oGF_f, oGF_u, oPick_t, oPick_f, oInt_eql, oInt_neq, oInt_lss, oInt_leq, oInt_gtr, oInt_geq, aun_not, aextract_e, fa_e, abox_e, ptrTo, oCallV_e, decide_true, decide_false, Bool.not_true, Bool.not_false, List.getElem?_cons_zero, List.getElem?_cons_succ, List.cons_append, List.nil_append, cells_agg, cells_int, cells_slice, cells_bool, cells_ptr, ld1_u, ldN_u, st1_u, rdo_e, rdn_e, stw_e, anew_eq, Mem.push_next, Mem.put_next, Mem.rd_push, Mem.rd_push_eq, Mem.rd_push_lt, Mem.rd_put_eq, Mem.rd_put, List.take_zero, List.drop_zero, List.take_succ_cons, List.drop_succ_cons, List.drop_nil, List.take_nil, List.append_nil, List.length_cons, List.length_nil, Nat.zero_add, Nat.reduceAdd]
    rw [oInt_add ⟨by omega, by omega⟩]
    refine hself hil _ _ ⟨rfl, Mem.put_gt (e2.trans e3) _ (by omega), hA3.put (by omega) _, ?_⟩
    rw [hred.1, hred.2]
    exact Mem.rd_put_eq _ _ (by omega)
  · have hie : i = l.length := by omega
    subst hie
    rw [List.take_length] at hB2
    have e2n := e2.next
    try simp (disch := first | omega | with_unfolding_all exact id rfl | with_unfolding_all exact Nat.le_of_ble_eq_true rfl | (simp only [Mem.push_next, Mem.put_next, List.length_cons, List.length_nil, Nat.zero_add, Nat.reduceAdd, allOne, oneCell, Bool.and_self, Bool.and_true]; first | done | omega)) only [hB2.rd, hA2.rd, ↓uc_e, ↓un0_e, ↓join_e, oOpt_e, oRes_e, oIf_t, oIf_f, oGT_t, oGT_f, oGT_u, oGF_t, oGF_f, oGF_u, oPick_t, oPick_f, oInt_eql, oInt_neq, oInt_lss, oInt_leq, oInt_gtr, oInt_geq, aun_not, aextract_e, fa_e, abox_e, ptrTo, oCallV_e, decide_true, decide_false, Bool.not_true, Bool.not_false, List.getElem?_cons_zero, List.getElem?_cons_succ, List.cons_append, List.nil_append, cells_agg, cells_int, cells_slice, cells_bool, cells_ptr, ld1_u, ldN_u, st1_u, rdo_e, rdn_e, stw_e, anew_eq, Mem.push_next, Mem.put_next, Mem.rd_push, Mem.rd_push_eq, Mem.rd_push_lt, Mem.rd_put_eq, Mem.rd_put, List.take_zero, List.drop_zero, List.take_succ_cons, List.drop_succ_cons, List.drop_nil, List.take_nil, List.append_nil, List.length_cons, List.length_nil, Nat.zero_add, Nat.reduceAdd]
    exact hk _ (Mem.put_gt e2 _ (by omega))
theorem sum33_sp {v : Value} {l : List Nat} (hlf : 1000000 ≤ lf) (hL : L ≤ m.next) (hv : IN m v l) (hl : Val l) (h0 : chkI (ci l) = 0)
    (hk : ∀ m', Gt m m' → k (.tuple ⟨[.int .i64 ((upN l : Nat) : Int), .int .i64 ((dnN l : Nat) : Int), .int .i64 0]⟩) m' = some ()) : runT (tab lf) (n + 4) 33 [v] L m k = some () := by
  rw [r33]; dsimp only [S33, iofNat, inegSucc]
  try simp (disch := first | omega | with_unfolding_all exact id rfl | with_unfolding_all exact Nat.le_of_ble_eq_true rfl | (simp only [Mem.push_next, Mem.put_next, List.length_cons, List.length_nil, Nat.zero_add, Nat.reduceAdd, allOne, oneCell, Bool.and_self, Bool.and_true]; first | done | omega)) only [↓uc_e, ↓un0_e, ↓join_e, oOpt_e, oRes_e, oIf_t, oIf_f, oGT_t, oGT_f, oGT_u, oGF_t, oGF_f, oGF_u, oPick_t, oPick_f, oInt_eql, oInt_neq, oInt_lss, oInt_leq, oInt_gtr, oInt_geq, aun_not, aextract_e, fa_e, abox_e, ptrTo, oCallV_e, decide_true, decide_false, Bool.not_true, Bool.not_false, List.getElem?_cons_zero, List.getElem?_cons_succ, List.cons_append, List.nil_append, cells_agg, cells_int, cells_slice, cells_bool, cells_ptr, ld1_u, ldN_u, st1_u, rdo_e, rdn_e, stw_e, anew_eq, Mem.push_next, Mem.put_next, Mem.rd_push, Mem.rd_push_eq, Mem.rd_push_lt, Mem.rd_put_eq, Mem.rd_put, List.take_zero, List.drop_zero, List.take_succ_cons, List.drop_succ_cons, List.drop_nil, List.take_nil, List.append_nil, List.length_cons, List.length_nil, Nat.zero_add, Nat.reduceAdd]
  refine check39_sp hlf hv ?_
  rw [h0]
  try simp (disch := first | omega | with_unfolding_all exact id rfl | with_unfolding_all exact Nat.le_of_ble_eq_true rfl | (simp only [Mem.push_next, Mem.put_next, List.length_cons, List.length_nil, Nat.zero_add, Nat.reduceAdd, allOne, oneCell, Bool.and_self, Bool.and_true]; first | done | omega)) only [↓uc_e, ↓un0_e, ↓join_e, oOpt_e, oRes_e, oIf_t, oIf_f, oGT_t, oGT_f, oGT_u, oGF_t, oGF_f, oGF_u, oPick_t, oPick_f, oInt_eql, oInt_neq, oInt_lss, oInt_leq, oInt_gtr, oInt_geq, aun_not, aextract_e, fa_e, abox_e, ptrTo, oCallV_e, decide_true, decide_false, Bool.not_true, Bool.not_false, List.getElem?_cons_zero, List.getElem?_cons_succ, List.cons_append, List.nil_append, cells_agg, cells_int, cells_slice, cells_bool, cells_ptr, ld1_u, ldN_u, st1_u, rdo_e, rdn_e, stw_e, anew_eq, Mem.push_next, Mem.put_next, Mem.rd_push, Mem.rd_push_eq, Mem.rd_push_lt, Mem.rd_put_eq, Mem.rd_put, List.take_zero, List.drop_zero, List.take_succ_cons, List.drop_succ_cons, List.drop_nil, List.take_nil, List.append_nil, List.length_cons, List.length_nil, Nat.zero_add, Nat.reduceAdd]
  refine sum68_sp hlf hL hv hl fun m2 e2 => ?_
  try simp (disch := first | omega | with_unfolding_all exact id rfl | with_unfolding_all exact Nat.le_of_ble_eq_true rfl | (simp only [Mem.push_next, Mem.put_next, List.length_cons, List.length_nil, Nat.zero_add, Nat.reduceAdd, allOne, oneCell, Bool.and_self, Bool.and_true]; first | done | omega)) only [af240, ↓uc_e, ↓un0_e, ↓join_e, oOpt_e, oRes_e, oIf_t, oIf_f, oGT_t, oGT_f, oGT_u, oGF_t, oGF_f, oGF_u, oPick_t, oPick_f, oInt_eql, oInt_neq, oInt_lss, oInt_leq, oInt_gtr, oInt_geq, aun_not, aextract_e, fa_e, abox_e, ptrTo, oCallV_e, decide_true, decide_false, Bool.not_true, Bool.not_false, List.getElem?_cons_zero, List.getElem?_cons_succ, List.cons_append, List.nil_append, cells_agg, cells_int, cells_slice, cells_bool, cells_ptr, ld1_u, ldN_u, st1_u, rdo_e, rdn_e, stw_e, anew_eq, Mem.push_next, Mem.put_next, Mem.rd_push, Mem.rd_push_eq, Mem.rd_push_lt, Mem.rd_put_eq, Mem.rd_put, List.take_zero, List.drop_zero, List.take_succ_cons, List.drop_succ_cons, List.drop_nil, List.take_nil, List.append_nil, List.length_cons, List.length_nil, Nat.zero_add, Nat.reduceAdd]
  refine sum68_sp hlf (by have := e2.next; omega) (hv.mono e2) hl fun m3 e3 => ?_
  try simp (disch := first | omega | with_unfolding_all exact id rfl | with_unfolding_all exact Nat.le_of_ble_eq_true rfl | (simp only [Mem.push_next, Mem.put_next, List.length_cons, List.length_nil, Nat.zero_add, Nat.reduceAdd, allOne, oneCell, Bool.and_self, Bool.and_true]; first | done | omega)) only [af241, ↓uc_e, ↓un0_e, ↓join_e, oOpt_e, oRes_e, oIf_t, oIf_f, oGT_t, oGT_f, oGT_u, oGF_t, oGF_f, oGF_u, oPick_t, oPick_f, oInt_eql, oInt_neq, oInt_lss, oInt_leq, oInt_gtr, oInt_geq, aun_not, aextract_e, fa_e, abox_e, ptrTo, oCallV_e, decide_true, decide_false, Bool.not_true, Bool.not_false, List.getElem?_cons_zero, List.getElem?_cons_succ, List.cons_append, List.nil_append, cells_agg, cells_int, cells_slice, cells_bool, cells_ptr, ld1_u, ldN_u, st1_u, rdo_e, rdn_e, stw_e, anew_eq, Mem.push_next, Mem.put_next, Mem.rd_push, Mem.rd_push_eq, Mem.rd_push_lt, Mem.rd_put_eq, Mem.rd_put, List.take_zero, List.drop_zero, List.take_succ_cons, List.drop_succ_cons, List.drop_nil, List.take_nil, List.append_nil, List.length_cons, List.length_nil, Nat.zero_add, Nat.reduceAdd]
  exact hk _ (e2.trans e3)
end
end Go.Vit
