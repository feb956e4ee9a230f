/- Walks: a fraction is checked and reduced. -/
import Derived.Test.YtcaoifacidnhcaaDoorW7
import Derived.Test.YtcaoifacidnhcaaDoorP4
set_option linter.unusedSimpArgs false
set_option linter.unusedVariables false
set_option maxRecDepth 20000
namespace Go.Vit
open Go Go.Proofs
attribute [local irreducible] runT loopS
def frV (a b : Int) : Value := .agg ⟨[.int .i64 a, .int .i64 b]⟩
/-- A fraction that passes. -/
def Frac (a b : Int) : Prop := 1 ≤ a ∧ a < b ∧ b ≤ 30
instance (a b : Int) : Decidable (Frac a b) := inferInstanceAs (Decidable (1 ≤ a ∧ a < b ∧ b ≤ 30))
def frE (a b : Int) : Int := if Frac a b then 0 else 1
theorem bu23 (a b : Int) : bu Tryd.prog 23 [(0, .int .i64 a), (1, .int .i64 b)] = some (.agg ⟨[.int .i64 a, .int .i64 b]⟩) := by kernel_rfl
theorem bu230 : bu Tryd.prog 23 [] = some (.agg ⟨[.int .i64 0, .int .i64 0]⟩) := by kernel_rfl
def prs : List Nat := [2, 3, 5, 7, 11, 13, 17, 19, 23, 29, 31, 37]
def prV : Value := .agg ⟨prs.map fun (g : Nat) => .int .i64 (g : Int)⟩
theorem rdn_k0 : rdn (mTab.rd 0) 0 12 = some prV := by kernel_rfl
theorem ai101 : ∀ i : Nat, i < 12 → aindex Tryd.prog 101 prV (.int .i64 (i : Int)) = some (.int .i64 ((prs.getD i 0 : Nat) : Int))
  | 0, _ => by kernel_rfl
  | 1, _ => by kernel_rfl
  | 2, _ => by kernel_rfl
  | 3, _ => by kernel_rfl
  | 4, _ => by kernel_rfl
  | 5, _ => by kernel_rfl
  | 6, _ => by kernel_rfl
  | 7, _ => by kernel_rfl
  | 8, _ => by kernel_rfl
  | 9, _ => by kernel_rfl
  | 10, _ => by kernel_rfl
  | 11, _ => by kernel_rfl
  | n + 12, h => absurd h (by omega)
theorem prs_ge : ∀ i : Nat, i < 12 → 2 ≤ prs.getD i 0 := by decide
theorem prs_all : ∀ g, g < 31 → 2 ≤ g → ∃ i, i < 12 ∧ prs.getD i 0 ∣ g := by
  intro g hg h2
  have h : ∀ g, g < 31 → 2 ≤ g → (List.range 12).any (fun i => g % prs.getD i 0 == 0) = true := by decide
  have h1 := h g hg h2
  rw [List.any_eq_true] at h1
  obtain ⟨i, hi, he⟩ := h1
  exact ⟨i, List.mem_range.1 hi, Nat.dvd_of_mod_eq_zero (by simpa using he)⟩
theorem gcd_one_of {x y : Nat} (hx : 0 < x) (hxy : x < y) (hy : y ≤ 30) (h : ∀ i, i < 12 → ¬ (x % prs.getD i 0 = 0 ∧ y % prs.getD i 0 = 0)) : Nat.gcd x y = 1 := by
  by_cases h1 : Nat.gcd x y = 1
  · exact h1
  have hpos : 0 < Nat.gcd x y := Nat.gcd_pos_of_pos_left _ hx
  have hle : Nat.gcd x y ≤ x := Nat.le_of_dvd hx (Nat.gcd_dvd_left _ _)
  obtain ⟨i, hi, hd⟩ := prs_all (Nat.gcd x y) (by omega) (by omega)
  exact absurd ⟨Nat.mod_eq_zero_of_dvd (Nat.dvd_trans hd (Nat.gcd_dvd_left _ _)), Nat.mod_eq_zero_of_dvd (Nat.dvd_trans hd (Nat.gcd_dvd_right _ _))⟩ (h i hi)
section
variable {lf n L : Nat} {m : Mem} {k : Value → Mem → Option Unit}
theorem check21_sp {a b : Int} (hk : ∀ m', Gt m m' → k (.int .i64 (frE a b)) m' = some ()) : runT (tab lf) (n + 1) 21 [frV a b] L m k = some () := by
  rw [r21]; dsimp only [S21, iofNat, inegSucc]
  unfold frV
  have e1 := Mem.gt_push m ⟨1, [.int .i64 a, .int .i64 b], none⟩
  have hk1 := hk _ e1
  unfold frE at hk1
  by_cases h1 : a < 1
  · rw [if_neg (by unfold Frac; omega)] at hk1
    have d1 : decide (a < 1) = true := decide_eq_true h1
    try simp (disch := first | omega | with_unfolding_all exact id rfl | with_unfolding_all exact Nat.le_of_ble_eq_true rfl | (simp only [Mem.push_next, Mem.put_next, List.length_cons, List.length_nil, Nat.zero_add, Nat.reduceAdd, allOne, oneCell, Bool.and_self, Bool.and_true]; first | done | omega)) only [d1, ↓uc_e, ↓un0_e, oOpt_e, oRes_e, oIf_t, oIf_f, oGT_t, oGT_f, oGT_u, oGF_t, oGF_f, oGF_u, oPick_t, oPick_f, oInt_eql, oInt_neq, oInt_lss, oInt_leq, oInt_gtr, oInt_geq, aun_not, aextract_e, fa_e, abox_e, ptrTo, oCallV_e, decide_true, decide_false, Bool.not_true, Bool.not_false, List.getElem?_cons_zero, List.getElem?_cons_succ, List.cons_append, List.nil_append, cells_agg, cells_int, cells_slice, cells_bool, cells_ptr, ld1_u, ldN_u, st1_u, rdo_e, rdn_e, stw_e, anew_eq, Mem.push_next, Mem.put_next, Mem.rd_push, Mem.rd_push_eq, Mem.rd_push_lt, Mem.rd_put_eq, Mem.rd_put, List.take_zero, List.drop_zero, List.take_succ_cons, List.drop_succ_cons, List.drop_nil, List.take_nil, List.append_nil, List.length_cons, List.length_nil, Nat.zero_add, Nat.reduceAdd]
    repeat (rw [join_e]; try simp (disch := first | omega | with_unfolding_all exact id rfl | with_unfolding_all exact Nat.le_of_ble_eq_true rfl | (simp only [Mem.push_next, Mem.put_next, List.length_cons, List.length_nil, Nat.zero_add, Nat.reduceAdd, allOne, oneCell, Bool.and_self, Bool.and_true]; first | done | omega)) only [d1, ↓uc_e, ↓un0_e, oOpt_e, oRes_e, oIf_t, oIf_f, oGT_t, oGT_f, oGT_u, oGF_t, oGF_f, oGF_u, oPick_t, oPick_f, oInt_eql, oInt_neq, oInt_lss, oInt_leq, oInt_gtr, oInt_geq, aun_not, aextract_e, fa_e, abox_e, ptrTo, oCallV_e, decide_true, decide_false, Bool.not_true, Bool.not_false, List.getElem?_cons_zero, List.getElem?_cons_succ, List.cons_append, List.nil_append, cells_agg, cells_int, cells_slice, cells_bool, cells_ptr, ld1_u, ldN_u, st1_u, rdo_e, rdn_e, stw_e, anew_eq, Mem.push_next, Mem.put_next, Mem.rd_push, Mem.rd_push_eq, Mem.rd_push_lt, Mem.rd_put_eq, Mem.rd_put, List.take_zero, List.drop_zero, List.take_succ_cons, List.drop_succ_cons, List.drop_nil, List.take_nil, List.append_nil, List.length_cons, List.length_nil, Nat.zero_add, Nat.reduceAdd])
    exact hk1
  have d1 : decide (a < 1) = false := decide_eq_false h1
  by_cases h2 : b ≤ a
  · rw [if_neg (by unfold Frac; omega)] at hk1
    have d2 : decide (b ≤ a) = true := decide_eq_true h2
    try simp (disch := first | omega | with_unfolding_all exact id rfl | with_unfolding_all exact Nat.le_of_ble_eq_true rfl | (simp only [Mem.push_next, Mem.put_next, List.length_cons, List.length_nil, Nat.zero_add, Nat.reduceAdd, allOne, oneCell, Bool.and_self, Bool.and_true]; first | done | omega)) only [d1, d2, ↓uc_e, ↓un0_e, oOpt_e, oRes_e, oIf_t, oIf_f, oGT_t, oGT_f, oGT_u, oGF_t, oGF_f, oGF_u, oPick_t, oPick_f, oInt_eql, oInt_neq, oInt_lss, oInt_leq, oInt_gtr, oInt_geq, aun_not, aextract_e, fa_e, abox_e, ptrTo, oCallV_e, decide_true, decide_false, Bool.not_true, Bool.not_false, List.getElem?_cons_zero, List.getElem?_cons_succ, List.cons_append, List.nil_append, cells_agg, cells_int, cells_slice, cells_bool, cells_ptr, ld1_u, ldN_u, st1_u, rdo_e, rdn_e, stw_e, anew_eq, Mem.push_next, Mem.put_next, Mem.rd_push, Mem.rd_push_eq, Mem.rd_push_lt, Mem.rd_put_eq, Mem.rd_put, List.take_zero, List.drop_zero, List.take_succ_cons, List.drop_succ_cons, List.drop_nil, List.take_nil, List.append_nil, List.length_cons, List.length_nil, Nat.zero_add, Nat.reduceAdd]
    repeat (rw [join_e]; try simp (disch := first | omega | with_unfolding_all exact id rfl | with_unfolding_all exact Nat.le_of_ble_eq_true rfl | (simp only [Mem.push_next, Mem.put_next, List.length_cons, List.length_nil, Nat.zero_add, Nat.reduceAdd, allOne, oneCell, Bool.and_self, Bool.and_true]; first | done | omega)) only [d1, d2, ↓uc_e, ↓un0_e, oOpt_e, oRes_e, oIf_t, oIf_f, oGT_t, oGT_f, oGT_u, oGF_t, oGF_f, oGF_u, oPick_t, oPick_f, oInt_eql, oInt_neq, oInt_lss, oInt_leq, oInt_gtr, oInt_geq, aun_not, aextract_e, fa_e, abox_e, ptrTo, oCallV_e, decide_true, decide_false, Bool.not_true, Bool.not_false, List.getElem?_cons_zero, List.getElem?_cons_succ, List.cons_append, List.nil_append, cells_agg, cells_int, cells_slice, cells_bool, cells_ptr, ld1_u, ldN_u, st1_u, rdo_e, rdn_e, stw_e, anew_eq, Mem.push_next, Mem.put_next, Mem.rd_push, Mem.rd_push_eq, Mem.rd_push_lt, Mem.rd_put_eq, Mem.rd_put, List.take_zero, List.drop_zero, List.take_succ_cons, List.drop_succ_cons, List.drop_nil, List.take_nil, List.append_nil, List.length_cons, List.length_nil, Nat.zero_add, Nat.reduceAdd])
    exact hk1
  have d2 : decide (b ≤ a) = false := decide_eq_false h2
  by_cases h3 : (30 : Int) < b
  · rw [if_neg (by unfold Frac; omega)] at hk1
    have d3 : decide ((30 : Int) < b) = true := decide_eq_true h3
    try simp (disch := first | omega | with_unfolding_all exact id rfl | with_unfolding_all exact Nat.le_of_ble_eq_true rfl | (simp only [Mem.push_next, Mem.put_next, List.length_cons, List.length_nil, Nat.zero_add, Nat.reduceAdd, allOne, oneCell, Bool.and_self, Bool.and_true]; first | done | omega)) only [d1, d2, d3, ↓uc_e, ↓un0_e, oOpt_e, oRes_e, oIf_t, oIf_f, oGT_t, oGT_f, oGT_u, oGF_t, oGF_f, oGF_u, oPick_t, oPick_f, oInt_eql, oInt_neq, oInt_lss, oInt_leq, oInt_gtr, oInt_geq, aun_not, aextract_e, fa_e, abox_e, ptrTo, oCallV_e, decide_true, decide_false, Bool.not_true, Bool.not_false, List.getElem?_cons_zero, List.getElem?_cons_succ, List.cons_append, List.nil_append, cells_agg, cells_int, cells_slice, cells_bool, cells_ptr, ld1_u, ldN_u, st1_u, rdo_e, rdn_e, stw_e, anew_eq, Mem.push_next, Mem.put_next, Mem.rd_push, Mem.rd_push_eq, Mem.rd_push_lt, Mem.rd_put_eq, Mem.rd_put, List.take_zero, List.drop_zero, List.take_succ_cons, List.drop_succ_cons, List.drop_nil, List.take_nil, List.append_nil, List.length_cons, List.length_nil, Nat.zero_add, Nat.reduceAdd]
    repeat (rw [join_e]; try simp (disch := first | omega | with_unfolding_all exact id rfl | with_unfolding_all exact Nat.le_of_ble_eq_true rfl | (simp only [Mem.push_next, Mem.put_next, List.length_cons, List.length_nil, Nat.zero_add, Nat.reduceAdd, allOne, oneCell, Bool.and_self, Bool.and_true]; first | done | omega)) only [d1, d2, d3, ↓uc_e, ↓un0_e, oOpt_e, oRes_e, oIf_t, oIf_f, oGT_t, oGT_f, oGT_u, oGF_t, oGF_f, oGF_u, oPick_t, oPick_f, oInt_eql, oInt_neq, oInt_lss, oInt_leq, oInt_gtr, oInt_geq, aun_not, aextract_e, fa_e, abox_e, ptrTo, oCallV_e, decide_true, decide_false, Bool.not_true, Bool.not_false, List.getElem?_cons_zero, List.getElem?_cons_succ, List.cons_append, List.nil_append, cells_agg, cells_int, cells_slice, cells_bool, cells_ptr, ld1_u, ldN_u, st1_u, rdo_e, rdn_e, stw_e, anew_eq, Mem.push_next, Mem.put_next, Mem.rd_push, Mem.rd_push_eq, Mem.rd_push_lt, Mem.rd_put_eq, Mem.rd_put, List.take_zero, List.drop_zero, List.take_succ_cons, List.drop_succ_cons, List.drop_nil, List.take_nil, List.append_nil, List.length_cons, List.length_nil, Nat.zero_add, Nat.reduceAdd])
    exact hk1
  have d3 : decide ((30 : Int) < b) = false := decide_eq_false h3
  rw [if_pos (by unfold Frac; omega)] at hk1
  try simp (disch := first | omega | with_unfolding_all exact id rfl | with_unfolding_all exact Nat.le_of_ble_eq_true rfl | (simp only [Mem.push_next, Mem.put_next, List.length_cons, List.length_nil, Nat.zero_add, Nat.reduceAdd, allOne, oneCell, Bool.and_self, Bool.and_true]; first | done | omega)) only [d1, d2, d3, ↓uc_e, ↓un0_e, oOpt_e, oRes_e, oIf_t, oIf_f, oGT_t, oGT_f, oGT_u, oGF_t, oGF_f, oGF_u, oPick_t, oPick_f, oInt_eql, oInt_neq, oInt_lss, oInt_leq, oInt_gtr, oInt_geq, aun_not, aextract_e, fa_e, abox_e, ptrTo, oCallV_e, decide_true, decide_false, Bool.not_true, Bool.not_false, List.getElem?_cons_zero, List.getElem?_cons_succ, List.cons_append, List.nil_append, cells_agg, cells_int, cells_slice, cells_bool, cells_ptr, ld1_u, ldN_u, st1_u, rdo_e, rdn_e, stw_e, anew_eq, Mem.push_next, Mem.put_next, Mem.rd_push, Mem.rd_push_eq, Mem.rd_push_lt, Mem.rd_put_eq, Mem.rd_put, List.take_zero, List.drop_zero, List.take_succ_cons, List.drop_succ_cons, List.drop_nil, List.take_nil, List.append_nil, List.length_cons, List.length_nil, Nat.zero_add, Nat.reduceAdd]
  repeat (rw [join_e]; try simp (disch := first | omega | with_unfolding_all exact id rfl | with_unfolding_all exact Nat.le_of_ble_eq_true rfl | (simp only [Mem.push_next, Mem.put_next, List.length_cons, List.length_nil, Nat.zero_add, Nat.reduceAdd, allOne, oneCell, Bool.and_self, Bool.and_true]; first | done | omega)) only [d1, d2, d3, ↓uc_e, ↓un0_e, oOpt_e, oRes_e, oIf_t, oIf_f, oGT_t, oGT_f, oGT_u, oGF_t, oGF_f, oGF_u, oPick_t, oPick_f, oInt_eql, oInt_neq, oInt_lss, oInt_leq, oInt_gtr, oInt_geq, aun_not, aextract_e, fa_e, abox_e, ptrTo, oCallV_e, decide_true, decide_false, Bool.not_true, Bool.not_false, List.getElem?_cons_zero, List.getElem?_cons_succ, List.cons_append, List.nil_append, cells_agg, cells_int, cells_slice, cells_bool, cells_ptr, ld1_u, ldN_u, st1_u, rdo_e, rdn_e, stw_e, anew_eq, Mem.push_next, Mem.put_next, Mem.rd_push, Mem.rd_push_eq, Mem.rd_push_lt, Mem.rd_put_eq, Mem.rd_put, List.take_zero, List.drop_zero, List.take_succ_cons, List.drop_succ_cons, List.drop_nil, List.take_nil, List.append_nil, List.length_cons, List.length_nil, Nat.zero_add, Nat.reduceAdd])
  exact hk1
theorem check22_sp {a b : Int} (hk : ∀ m', Gt m m' → k (.int .i64 (frE a b)) m' = some ()) : runT (tab lf) (n + 1) 22 [frV a b] L m k = some () := by
  have h : S22 (β := Unit) lf = S21 lf := rfl
  rw [r22, h, ← r21 (n := n)]
  exact check21_sp hk
/-- One pass over the table: divide and begin again, or end. -/
theorem pass_sp {x y : Nat} {m1 : Mem} {jf : List Value → Mem → Option Unit} (hlf : 1000000 ≤ lf) (hL : L ≤ m.next) (hx : 0 < x) (hxy : x < y) (hy : y ≤ 30) (e1 : Gt m m1)
    (hA : At m1 m.next [.int .i64 (x : Int), .int .i64 (y : Int)]) (hB : At m1 (m.next + 1) [.int .i64 0, .int .i64 0])
    (hdiv : ∀ p m2, 2 ≤ p → x % p = 0 → y % p = 0 → Gt m m2 → At m2 m.next [.int .i64 ((x / p : Nat) : Int), .int .i64 ((y / p : Nat) : Int)] → At m2 (m.next + 1) [.int .i64 0, .int .i64 0] → jf [] m2 = some ())
    (hend : Nat.gcd x y = 1 → ∀ m2, Gt m m2 → k (.tuple ⟨[frV x y, .int .i64 0]⟩) m2 = some ()) :
    loopS (fun j62 l60 m61 =>
      uc l60 fun t63 l64 =>
      oInt .lss .i64 t63 (.int .i64 12) fun t65 =>
      oIf t65 (oOpt (aindex Tryd.prog 101 prV t63) fun t66 =>
      oOpt (fa 0 (.pointer (some ⟨m.next, 0, none⟩))) fun t67 =>
      oOpt (ld1 m61 t67) fun t68 =>
      oInt .rem .i64 t68 t66 fun t69 =>
      oInt .eql .i64 t69 (.int .i64 0) fun t70 =>
      join (fun l71 m72 =>
      uc l71 fun t74 l75 =>
      oPick t70 t74 (.bool false) fun t76 =>
      join (fun l77 m78 =>
      oInt .add .i64 t63 (.int .i64 1) fun t80 =>
      j62 [t80] m78) fun j79 =>
      oIf t76 (oOpt (fa 0 (.pointer (some ⟨m.next, 0, none⟩))) fun t81 =>
      oOpt (ld1 m72 t81) fun t82 =>
      oInt .quo .i64 t82 t66 fun t83 =>
      oOpt (fa 1 (.pointer (some ⟨m.next, 0, none⟩))) fun t84 =>
      oOpt (ld1 m72 t84) fun t85 =>
      oInt .quo .i64 t85 t66 fun t86 =>
      oOpt (bu Tryd.prog 23 [(0, t83), (1, t86)]) fun t87 =>
      oRes (st1 2 L m72 (.pointer (some ⟨m.next, 0, none⟩)) t87) fun t88 m89 =>
      jf [] m89) (j79 [] m72)) fun j73 =>
      oGT t70 (oOpt (fa 1 (.pointer (some ⟨m.next, 0, none⟩))) fun t90 =>
      oOpt (ld1 m61 t90) fun t91 =>
      oInt .rem .i64 t91 t66 fun t92 =>
      oInt .eql .i64 t92 (.int .i64 0) fun t93 =>
      j73 [t93] m61) (j73 [Go.undef] m61)) (oOpt (ldN m61 2 (.pointer (some ⟨m.next, 0, none⟩))) fun t94 =>
      oRes (st1 2 L m61 (.pointer (some ⟨m.next + 1, 0, none⟩)) t94) fun t95 m96 =>
      oOpt (ldN m96 2 (.pointer (some ⟨m.next + 1, 0, none⟩))) fun t97 =>
      k (.tuple ⟨[t97, (.int .i64 0)]⟩) m96)) lf [(.int .i64 0)] m1 = some () := by
  refine loop_up 12 (fun i vs m' => vs = [.int .i64 (i : Int)] ∧ m' = m1 ∧ ∀ j, j < i → ¬ (x % prs.getD j 0 = 0 ∧ y % prs.getD j 0 = 0)) (by omega) ⟨rfl, rfl, fun j hj => by omega⟩ ?_
  rintro i vs m2 hi ⟨rfl, rfl, hno⟩ self hself
  have e1n := e1.next
  have hltA := Mem.rd_lt hA.rd
  have hltB := Mem.rd_lt hB.rd
  rw [uc_e, oInt_lss]
  refine oIf_dec (fun h => ?_) (fun h => ?_)
  · have hi12 : i < 12 := by omega
    have hp := prs_ge i hi12
    rw [ai101 i hi12]
    have hnx : ∀ j, j < i + 1 → ¬ (x % prs.getD i 0 = 0 ∧ y % prs.getD i 0 = 0) → ¬ (x % prs.getD j 0 = 0 ∧ y % prs.getD j 0 = 0) := fun j hj hn => by
      by_cases hji : j = i
      · subst hji; exact hn
      · exact hno j (by omega)
    have hs2 : ¬ (x % prs.getD i 0 = 0 ∧ y % prs.getD i 0 = 0) → self [.int .i64 ((i + 1 : Nat) : Int)] m2 = some () := fun hn => hself hi12 _ _ ⟨rfl, rfl, fun j hj => hnx j hj hn⟩
    clear hself hnx hno
    generalize prs.getD i 0 = p at *
    have hstep : ∀ K : Value → Option Unit, oInt .add .i64 (.int .i64 (i : Int)) (.int .i64 1) K = K (.int .i64 ((i + 1 : Nat) : Int)) := fun K => by rw [oInt_add ⟨by omega, by omega⟩]; rfl
    have q1 : ∀ K : Value → Option Unit, oInt .rem .i64 (.int .i64 (x : Int)) (.int .i64 (p : Int)) K = K (.int .i64 ((x % p : Nat) : Int)) := fun K => oInt_remN (by omega) K
    have q2 : ∀ K : Value → Option Unit, oInt .rem .i64 (.int .i64 (y : Int)) (.int .i64 (p : Int)) K = K (.int .i64 ((y % p : Nat) : Int)) := fun K => oInt_remN (by omega) K
    have q3 : ∀ K : Value → Option Unit, oInt .quo .i64 (.int .i64 (x : Int)) (.int .i64 (p : Int)) K = K (.int .i64 ((x / p : Nat) : Int)) := fun K => oInt_quoN (by omega) (by omega) K
    have q4 : ∀ K : Value → Option Unit, oInt .quo .i64 (.int .i64 (y : Int)) (.int .i64 (p : Int)) K = K (.int .i64 ((y / p : Nat) : Int)) := fun K => oInt_quoN (by omega) (by omega) K
    by_cases c1 : x % p = 0
    · have d1 : decide (((x % p : Nat) : Int) = 0) = true := decide_eq_true (by omega)
      by_cases c2 : y % p = 0
      · have d2 : decide (((y % p : Nat) : Int) = 0) = true := decide_eq_true (by omega)
        try simp (disch := first | omega | with_unfolding_all exact id rfl | with_unfolding_all exact Nat.le_of_ble_eq_true rfl | (simp only [Mem.push_next, Mem.put_next, List.length_cons, List.length_nil, Nat.zero_add, Nat.reduceAdd, allOne, oneCell, Bool.and_self, Bool.and_true]; first | done | omega)) only [hA.rd, q1, q2, q3, q4, d1, d2, bu23, ↓uc_e, ↓un0_e, oOpt_e, oRes_e, oIf_t, oIf_f, oGT_t, oGT_f, oGT_u, oGF_t, oGF_f, oGF_u, oPick_t, oPick_f, oInt_eql, oInt_neq, oInt_lss, oInt_leq, oInt_gtr, oInt_geq, aun_not, aextract_e, fa_e, abox_e, ptrTo, oCallV_e, decide_true, decide_false, Bool.not_true, Bool.not_false, List.getElem?_cons_zero, List.getElem?_cons_succ, List.cons_append, List.nil_append, cells_agg, cells_int, cells_slice, cells_bool, cells_ptr, ld1_u, ldN_u, st1_u, rdo_e, rdn_e, stw_e, anew_eq, Mem.push_next, Mem.put_next, Mem.rd_push, Mem.rd_push_eq, Mem.rd_push_lt, Mem.rd_put_eq, Mem.rd_put, List.take_zero, List.drop_zero, List.take_succ_cons, List.drop_succ_cons, List.drop_nil, List.take_nil, List.append_nil, List.length_cons, List.length_nil, Nat.zero_add, Nat.reduceAdd]
        repeat (rw [join_e]; try simp (disch := first | omega | with_unfolding_all exact id rfl | with_unfolding_all exact Nat.le_of_ble_eq_true rfl | (simp only [Mem.push_next, Mem.put_next, List.length_cons, List.length_nil, Nat.zero_add, Nat.reduceAdd, allOne, oneCell, Bool.and_self, Bool.and_true]; first | done | omega)) only [hA.rd, q1, q2, q3, q4, d1, d2, bu23, ↓uc_e, ↓un0_e, oOpt_e, oRes_e, oIf_t, oIf_f, oGT_t, oGT_f, oGT_u, oGF_t, oGF_f, oGF_u, oPick_t, oPick_f, oInt_eql, oInt_neq, oInt_lss, oInt_leq, oInt_gtr, oInt_geq, aun_not, aextract_e, fa_e, abox_e, ptrTo, oCallV_e, decide_true, decide_false, Bool.not_true, Bool.not_false, List.getElem?_cons_zero, List.getElem?_cons_succ, List.cons_append, List.nil_append, cells_agg, cells_int, cells_slice, cells_bool, cells_ptr, ld1_u, ldN_u, st1_u, rdo_e, rdn_e, stw_e, anew_eq, Mem.push_next, Mem.put_next, Mem.rd_push, Mem.rd_push_eq, Mem.rd_push_lt, Mem.rd_put_eq, Mem.rd_put, List.take_zero, List.drop_zero, List.take_succ_cons, List.drop_succ_cons, List.drop_nil, List.take_nil, List.append_nil, List.length_cons, List.length_nil, Nat.zero_add, Nat.reduceAdd])
        exact hdiv p _ hp c1 c2 (Mem.put_gt e1 _ (Nat.le_refl _)) (Mem.rd_put_eq _ _ hltA) (hB.put (by omega) _)
      · have d2 : decide (((y % p : Nat) : Int) = 0) = false := decide_eq_false (by omega)
        try simp (disch := first | omega | with_unfolding_all exact id rfl | with_unfolding_all exact Nat.le_of_ble_eq_true rfl | (simp only [Mem.push_next, Mem.put_next, List.length_cons, List.length_nil, Nat.zero_add, Nat.reduceAdd, allOne, oneCell, Bool.and_self, Bool.and_true]; first | done | omega)) only [hA.rd, q1, q2, q3, q4, d1, d2, hstep, ↓uc_e, ↓un0_e, oOpt_e, oRes_e, oIf_t, oIf_f, oGT_t, oGT_f, oGT_u, oGF_t, oGF_f, oGF_u, oPick_t, oPick_f, oInt_eql, oInt_neq, oInt_lss, oInt_leq, oInt_gtr, oInt_geq, aun_not, aextract_e, fa_e, abox_e, ptrTo, oCallV_e, decide_true, decide_false, Bool.not_true, Bool.not_false, List.getElem?_cons_zero, List.getElem?_cons_succ, List.cons_append, List.nil_append, cells_agg, cells_int, cells_slice, cells_bool, cells_ptr, ld1_u, ldN_u, st1_u, rdo_e, rdn_e, stw_e, anew_eq, Mem.push_next, Mem.put_next, Mem.rd_push, Mem.rd_push_eq, Mem.rd_push_lt, Mem.rd_put_eq, Mem.rd_put, List.take_zero, List.drop_zero, List.take_succ_cons, List.drop_succ_cons, List.drop_nil, List.take_nil, List.append_nil, List.length_cons, List.length_nil, Nat.zero_add, Nat.reduceAdd]
        repeat (rw [join_e]; try simp (disch := first | omega | with_unfolding_all exact id rfl | with_unfolding_all exact Nat.le_of_ble_eq_true rfl | (simp only [Mem.push_next, Mem.put_next, List.length_cons, List.length_nil, Nat.zero_add, Nat.reduceAdd, allOne, oneCell, Bool.and_self, Bool.and_true]; first | done | omega)) only [hA.rd, q1, q2, q3, q4, d1, d2, hstep, ↓uc_e, ↓un0_e, oOpt_e, oRes_e, oIf_t, oIf_f, oGT_t, oGT_f, oGT_u, oGF_t, oGF_f, oGF_u, oPick_t, oPick_f, oInt_eql, oInt_neq, oInt_lss, oInt_leq, oInt_gtr, oInt_geq, aun_not, aextract_e, fa_e, abox_e, ptrTo, oCallV_e, decide_true, decide_false, Bool.not_true, Bool.not_false, List.getElem?_cons_zero, List.getElem?_cons_succ, List.cons_append, List.nil_append, cells_agg, cells_int, cells_slice, cells_bool, cells_ptr, ld1_u, ldN_u, st1_u, rdo_e, rdn_e, stw_e, anew_eq, Mem.push_next, Mem.put_next, Mem.rd_push, Mem.rd_push_eq, Mem.rd_push_lt, Mem.rd_put_eq, Mem.rd_put, List.take_zero, List.drop_zero, List.take_succ_cons, List.drop_succ_cons, List.drop_nil, List.take_nil, List.append_nil, List.length_cons, List.length_nil, Nat.zero_add, Nat.reduceAdd])
        exact hs2 fun h => c2 h.2
    · have d1 : decide (((x % p : Nat) : Int) = 0) = false := decide_eq_false (by omega)
      try simp (disch := first | omega | with_unfolding_all exact id rfl | with_unfolding_all exact Nat.le_of_ble_eq_true rfl | (simp only [Mem.push_next, Mem.put_next, List.length_cons, List.length_nil, Nat.zero_add, Nat.reduceAdd, allOne, oneCell, Bool.and_self, Bool.and_true]; first | done | omega)) only [hA.rd, q1, q2, q3, q4, d1, hstep, ↓uc_e, ↓un0_e, oOpt_e, oRes_e, oIf_t, oIf_f, oGT_t, oGT_f, oGT_u, oGF_t, oGF_f, oGF_u, oPick_t, oPick_f, oInt_eql, oInt_neq, oInt_lss, oInt_leq, oInt_gtr, oInt_geq, aun_not, aextract_e, fa_e, abox_e, ptrTo, oCallV_e, decide_true, decide_false, Bool.not_true, Bool.not_false, List.getElem?_cons_zero, List.getElem?_cons_succ, List.cons_append, List.nil_append, cells_agg, cells_int, cells_slice, cells_bool, cells_ptr, ld1_u, ldN_u, st1_u, rdo_e, rdn_e, stw_e, anew_eq, Mem.push_next, Mem.put_next, Mem.rd_push, Mem.rd_push_eq, Mem.rd_push_lt, Mem.rd_put_eq, Mem.rd_put, List.take_zero, List.drop_zero, List.take_succ_cons, List.drop_succ_cons, List.drop_nil, List.take_nil, List.append_nil, List.length_cons, List.length_nil, Nat.zero_add, Nat.reduceAdd]
      repeat (rw [join_e]; try simp (disch := first | omega | with_unfolding_all exact id rfl | with_unfolding_all exact Nat.le_of_ble_eq_true rfl | (simp only [Mem.push_next, Mem.put_next, List.length_cons, List.length_nil, Nat.zero_add, Nat.reduceAdd, allOne, oneCell, Bool.and_self, Bool.and_true]; first | done | omega)) only [hA.rd, q1, q2, q3, q4, d1, hstep, ↓uc_e, ↓un0_e, oOpt_e, oRes_e, oIf_t, oIf_f, oGT_t, oGT_f, oGT_u, oGF_t, oGF_f, oGF_u, oPick_t, oPick_f, oInt_eql, oInt_neq, oInt_lss, oInt_leq, oInt_gtr, oInt_geq, aun_not, aextract_e, fa_e, abox_e, ptrTo, oCallV_e, decide_true, decide_false, Bool.not_true, Bool.not_false, List.getElem?_cons_zero, List.getElem?_cons_succ, List.cons_append, List.nil_append, cells_agg, cells_int, cells_slice, cells_bool, cells_ptr, ld1_u, ldN_u, st1_u, rdo_e, rdn_e, stw_e, anew_eq, Mem.push_next, Mem.put_next, Mem.rd_push, Mem.rd_push_eq, Mem.rd_push_lt, Mem.rd_put_eq, Mem.rd_put, List.take_zero, List.drop_zero, List.take_succ_cons, List.drop_succ_cons, List.drop_nil, List.take_nil, List.append_nil, List.length_cons, List.length_nil, Nat.zero_add, Nat.reduceAdd])
      exact hs2 fun h => c1 h.1
  · have hi12 : i = 12 := by omega
    subst hi12
    try simp (disch := first | omega | with_unfolding_all exact id rfl | with_unfolding_all exact Nat.le_of_ble_eq_true rfl | (simp only [Mem.push_next, Mem.put_next, List.length_cons, List.length_nil, Nat.zero_add, Nat.reduceAdd, allOne, oneCell, Bool.and_self, Bool.and_true]; first | done | omega)) only [hA.rd, hB.rd, ↓uc_e, ↓un0_e, ↓join_e, oOpt_e, oRes_e, oIf_t, oIf_f, oGT_t, oGT_f, oGT_u, oGF_t, oGF_f, oGF_u, oPick_t, oPick_f, oInt_eql, oInt_neq, oInt_lss, oInt_leq, oInt_gtr, oInt_geq, aun_not, aextract_e, fa_e, abox_e, ptrTo, oCallV_e, decide_true, decide_false, Bool.not_true, Bool.not_false, List.getElem?_cons_zero, List.getElem?_cons_succ, List.cons_append, List.nil_append, cells_agg, cells_int, cells_slice, cells_bool, cells_ptr, ld1_u, ldN_u, st1_u, rdo_e, rdn_e, stw_e, anew_eq, Mem.push_next, Mem.put_next, Mem.rd_push, Mem.rd_push_eq, Mem.rd_push_lt, Mem.rd_put_eq, Mem.rd_put, List.take_zero, List.drop_zero, List.take_succ_cons, List.drop_succ_cons, List.drop_nil, List.take_nil, List.append_nil, List.length_cons, List.length_nil, Nat.zero_add, Nat.reduceAdd]
    exact hend (gcd_one_of hx hxy hy fun j hj => hno j hj) _ (Mem.put_gt e1 _ (by omega))
theorem opened_err {a b : Int} (hL : L ≤ m.next) (h : ¬ Frac a b) (hk : ∀ m', Gt m m' → k (.tuple ⟨[frV 0 0, .int .i64 1]⟩) m' = some ()) : runT (tab lf) (n + 2) 52 [frV a b] L m k = some () := by
  rw [r52]; dsimp only [S52, iofNat, inegSucc]
  have g1 := Mem.gt_push m ⟨1, [.int .i64 a, .int .i64 b], none⟩
  have g2 := Mem.gt_push (m.push ⟨1, [.int .i64 a, .int .i64 b], none⟩) ⟨1, [.int .i64 0, .int .i64 0], none⟩
  have hA : At ((m.push ⟨1, [.int .i64 a, .int .i64 b], none⟩).push ⟨1, [.int .i64 0, .int .i64 0], none⟩) m.next [.int .i64 a, .int .i64 b] := (At.push m _).mono g2
  have hB : At ((m.push ⟨1, [.int .i64 a, .int .i64 b], none⟩).push ⟨1, [.int .i64 0, .int .i64 0], none⟩) (m.next + 1) [.int .i64 0, .int .i64 0] := At.push _ _
  unfold frV
  rw [uc_e, un0_e, abox_e, oRes_e, cells_agg, anew_eq, oRes_e, join_e]
  have G := g1.trans g2
  rw [Mem.push_next] at *
  generalize (m.push ⟨1, [.int .i64 a, .int .i64 b], none⟩).push ⟨1, [.int .i64 0, .int .i64 0], none⟩ = m2 at hA hB G ⊢
  unfold ptrTo
  rw [ldN_u, hA.rd, show rdn (some ⟨1, [.int .i64 a, .int .i64 b], none⟩) 0 2 = some (frV a b) from rfl, oOpt_e]
  refine check21_sp fun m3 e3 => ?_
  have d1 : decide (frE a b = 0) = false := decide_eq_false (by unfold frE; rw [if_neg h]; decide)
  have he : frE a b = 1 := if_neg h
  have hB3 := hB.mono e3
  have e3n := e3.next
  have hlt := Mem.rd_lt hB3.rd
  rw [he] at d1 ⊢
  rw [oInt_neq, d1, Bool.not_false, oIf_t, bu230, oOpt_e]
  have hst : st1 2 L m3 (.pointer (some ⟨m.next + 1, 0, none⟩)) (.agg ⟨[.int .i64 0, .int .i64 0]⟩) = some (Go.undef, m3.put (m.next + 1) (some ⟨1, [.int .i64 0, .int .i64 0], none⟩)) := by
    try simp (disch := first | omega | with_unfolding_all exact id rfl | with_unfolding_all exact Nat.le_of_ble_eq_true rfl | (simp only [Mem.push_next, Mem.put_next, List.length_cons, List.length_nil, Nat.zero_add, Nat.reduceAdd, allOne, oneCell, Bool.and_self, Bool.and_true]; first | done | omega)) only [hB3.rd, ↓uc_e, ↓un0_e, ↓join_e, oOpt_e, oRes_e, oIf_t, oIf_f, oGT_t, oGT_f, oGT_u, oGF_t, oGF_f, oGF_u, oPick_t, oPick_f, oInt_eql, oInt_neq, oInt_lss, oInt_leq, oInt_gtr, oInt_geq, aun_not, aextract_e, fa_e, abox_e, ptrTo, oCallV_e, decide_true, decide_false, Bool.not_true, Bool.not_false, List.getElem?_cons_zero, List.getElem?_cons_succ, List.cons_append, List.nil_append, cells_agg, cells_int, cells_slice, cells_bool, cells_ptr, ld1_u, ldN_u, st1_u, rdo_e, rdn_e, stw_e, anew_eq, Mem.push_next, Mem.put_next, Mem.rd_push, Mem.rd_push_eq, Mem.rd_push_lt, Mem.rd_put_eq, Mem.rd_put, List.take_zero, List.drop_zero, List.take_succ_cons, List.drop_succ_cons, List.drop_nil, List.take_nil, List.append_nil, List.length_cons, List.length_nil, Nat.zero_add, Nat.reduceAdd]
  rw [hst, oRes_e, ldN_u, Mem.rd_put_eq _ _ hlt, show rdn (some ⟨1, [.int .i64 0, .int .i64 0], none⟩) 0 2 = some (frV 0 0) from rfl, oOpt_e]
  exact hk _ (Mem.put_gt (G.trans e3) _ (by omega))
theorem opened_sp {a b : Nat} (hlf : 1000000 ≤ lf) (hT : TabOk mTab m) (hL : L ≤ m.next) (h : Frac a b)
    (hk : ∀ m', Gt m m' → k (.tuple ⟨[frV ((a / Nat.gcd a b : Nat) : Int) ((b / Nat.gcd a b : Nat) : Int), .int .i64 0]⟩) m' = some ()) : runT (tab lf) (n + 2) 52 [frV a b] L m k = some () := by
  rw [r52]; dsimp only [S52, iofNat, inegSucc]
  have g1 := Mem.gt_push m ⟨1, [.int .i64 (a : Int), .int .i64 (b : Int)], none⟩
  have g2 := Mem.gt_push (m.push ⟨1, [.int .i64 (a : Int), .int .i64 (b : Int)], none⟩) ⟨1, [.int .i64 0, .int .i64 0], none⟩
  have hA : At ((m.push ⟨1, [.int .i64 (a : Int), .int .i64 (b : Int)], none⟩).push ⟨1, [.int .i64 0, .int .i64 0], none⟩) m.next [.int .i64 (a : Int), .int .i64 (b : Int)] := (At.push m _).mono g2
  have hB : At ((m.push ⟨1, [.int .i64 (a : Int), .int .i64 (b : Int)], none⟩).push ⟨1, [.int .i64 0, .int .i64 0], none⟩) (m.next + 1) [.int .i64 0, .int .i64 0] := At.push _ _
  unfold frV
  rw [uc_e, un0_e, abox_e, oRes_e, cells_agg, anew_eq, oRes_e, join_e]
  have G := g1.trans g2
  rw [Mem.push_next] at *
  generalize (m.push ⟨1, [.int .i64 (a : Int), .int .i64 (b : Int)], none⟩).push ⟨1, [.int .i64 0, .int .i64 0], none⟩ = m2 at hA hB G ⊢
  unfold ptrTo
  rw [ldN_u, hA.rd, show rdn (some ⟨1, [.int .i64 (a : Int), .int .i64 (b : Int)], none⟩) 0 2 = some (frV a b) from rfl, oOpt_e]
  refine check21_sp fun m3 e3 => ?_
  have he : frE a b = 0 := if_pos h
  have hB3 := hB.mono e3
  have hA3 := hA.mono e3
  have G3 := G.trans e3
  have hT3 := hT.mono G3
  have hb : ∀ m', TabOk mTab m' → ldN m' 12 (.pointer (some ⟨0, 0, none⟩)) = some prV := fun m' ht => by
    rw [ldN_u, ht.2 0 (by decide)]; exact rdn_k0
  rw [he, oInt_neq, decide_eq_true rfl, Bool.not_true, oIf_f, hb _ hT3, oOpt_e]
  obtain ⟨ha1, hab, hb30⟩ := h
  have main : ∀ (q x y g : Nat) (m4 : Mem), x = q → 0 < g → a = x * g → b = y * g → Gt m m4 → At m4 m.next [.int .i64 (x : Int), .int .i64 (y : Int)] → At m4 (m.next + 1) [.int .i64 0, .int .i64 0] → Nat.gcd x y = 1 →
      k (.tuple ⟨[frV x y, .int .i64 0]⟩) m4 = some () := fun q x y g m4 _ hg hax hby e4 _ _ hgc => by
    have hgg : Nat.gcd a b = g := by rw [hax, hby, Nat.gcd_mul_right, hgc, Nat.one_mul]
    have h1 : a / Nat.gcd a b = x := by rw [hgg, hax, Nat.mul_div_cancel _ hg]
    have h2 : b / Nat.gcd a b = y := by rw [hgg, hby, Nat.mul_div_cancel _ hg]
    have := hk m4 e4
    rw [h1, h2] at this
    exact this
  refine pass_sp hlf hL (x := a) (y := b) (by omega) (by omega) (by omega) G3 hA3 hB3 (fun p m4 hp c1 c2 e4 hA4 hB4 => ?_) (fun hg m4 e4 => ?_)
  · refine loop_of (fun q vs m' => ∃ x y g : Nat, vs = [] ∧ x = q ∧ 0 < x ∧ x < y ∧ y ≤ 30 ∧ 0 < g ∧ a = x * g ∧ b = y * g ∧ Gt m m' ∧ At m' m.next [.int .i64 (x : Int), .int .i64 (y : Int)] ∧ At m' (m.next + 1) [.int .i64 0, .int .i64 0]) ?_ (n := a / p) ⟨a / p, b / p, p, rfl, rfl, ?_, ?_, ?_, by omega, ?_, ?_, e4, hA4, hB4⟩ ?_
    · rintro q vs m5 ⟨x, y, g, rfl, rfl, hx, hxy, hy, hg, hax, hby, e5, hA5, hB5⟩ self hself
      rw [hb _ (hT.mono e5), oOpt_e]
      refine pass_sp hlf hL hx hxy hy e5 hA5 hB5 (fun p2 m6 hp2 d1 d2 e6 hA6 hB6 => ?_) (fun hgc m6 e6 => ?_)
      · have f1 := Nat.div_mul_cancel (Nat.dvd_of_mod_eq_zero d1)
        have f2 := Nat.div_mul_cancel (Nat.dvd_of_mod_eq_zero d2)
        have f3 : 0 < x / p2 := Nat.div_pos (Nat.le_of_dvd hx (Nat.dvd_of_mod_eq_zero d1)) (by omega)
        refine hself (x / p2) _ _ (Nat.div_lt_self hx (by omega)) ⟨x / p2, y / p2, p2 * g, rfl, rfl, f3, ?_, Nat.le_trans (Nat.div_le_self _ _) hy, Nat.mul_pos (by omega) hg, ?_, ?_, e6, hA6, hB6⟩
        · rw [Nat.div_lt_iff_lt_mul (by omega), f2]; exact hxy
        · rw [hax, ← Nat.mul_assoc, f1]
        · rw [hby, ← Nat.mul_assoc, f2]
      · have hgg : Nat.gcd a b = g := by rw [hax, hby, Nat.gcd_mul_right, hgc, Nat.one_mul]
        have h1 : a / Nat.gcd a b = x := by rw [hgg, hax, Nat.mul_div_cancel _ hg]
        have h2 : b / Nat.gcd a b = y := by rw [hgg, hby, Nat.mul_div_cancel _ hg]
        have := hk m6 e6
        rw [h1, h2] at this
        exact this
    · exact Nat.div_pos (Nat.le_of_dvd (by omega) (Nat.dvd_of_mod_eq_zero c1)) (by omega)
    · rw [Nat.div_lt_iff_lt_mul (by omega), Nat.div_mul_cancel (Nat.dvd_of_mod_eq_zero c2)]; omega
    · have := Nat.div_le_self b p; omega
    · exact (Nat.div_mul_cancel (Nat.dvd_of_mod_eq_zero c1)).symm
    · exact (Nat.div_mul_cancel (Nat.dvd_of_mod_eq_zero c2)).symm
    · have := Nat.div_le_self a p; omega
  · have := hk m4 e4
    rw [hg, Nat.div_one, Nat.div_one] at this
    exact this
end
end Go.Vit
