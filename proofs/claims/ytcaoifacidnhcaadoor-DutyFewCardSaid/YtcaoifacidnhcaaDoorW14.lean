/- Walks: fractions by numbers, one over a number, greedy parts, what was found. -/
import Derived.Test.YtcaoifacidnhcaaDoorW13
import Derived.Test.YtcaoifacidnhcaaDoorP5
set_option linter.unusedSimpArgs false
set_option linter.unusedVariables false
set_option maxRecDepth 20000
namespace Go.Vit
open Go Go.Proofs
attribute [local irreducible] runT loopS
theorem bs303 (m : Mem) (x y z : Int) : bs Tryd.prog m 30 3 [(0, .int .i64 x), (1, .int .i64 y), (2, .int .i64 z)] = some (slTo 3 m.next, m.push ⟨1, [.int .i64 x, .int .i64 y, .int .i64 z], none⟩) := (show _ = anew m 1 [.int .i64 x, .int .i64 y, .int .i64 z] (slTo 3) by kernel_rfl).trans (anew_eq ..)
theorem GN.snoc3 {P : Program} {t : TypeId} {y L L0 : Nat} {m0 m : Mem} {v : Value} {l : List Nat} (x : Nat) (ht : aelem P t = some (1, y)) (hy : y ≤ 134217728) (h : GN L0 m v l) (hl : l.length < 1048576) (hL : L ≤ L0) (e : Gt m0 m) (hm : m0.next ≤ L0) :
    ∃ u m', aappend P L (m.push ⟨1, [.int .i64 (x : Int)], none⟩) t v (slTo 1 m.next) = some (u, m') ∧ GN m.next m' u (l ++ [x]) ∧ Gt m0 m' ∧ m.next ≤ m'.next ∧ ∀ c, c < m.next → bid v ≠ some c → m'.rd c = m.rd c := by
  have h1 : Sl 1 (m.push ⟨1, [.int .i64 (x : Int)], none⟩) (slTo 1 m.next) 1 [.int .i64 (x : Int)] := Gs.sl (L := m.next) (.inr ⟨m.next, Nat.le_refl _, rfl, Mem.rd_push _ _, rfl, by omega⟩)
  have hlc : (ci l).length = l.length := ci_length l
  have gp := Mem.gt_push m ⟨1, [.int .i64 (x : Int)], none⟩
  obtain ⟨u, m', h2, h3, h4, h5, h8⟩ := Gs.append2 (P := P) (L := L) (m0 := m0) ht (Gs.mono h gp) h1 (by omega) rfl (roomy_of (by omega) hy) rfl hL (e.trans gp) hm
  have h6 := gp.next
  have h7 : Gs 1 m.next m' u ((ci l).length + 1) ((ci l).map (Value.int .i64) ++ [.int .i64 (x : Int)]) := Gs.le h3 h6
  have h7' : GN m.next m' u (l ++ [x]) := by
    have hh : ci (l ++ [x]) = ci l ++ [(x : Int)] := by simp [ci]
    unfold GN GL
    rw [hh]
    simpa using h7
  exact ⟨u, m', h2, h7', h4, by omega, fun c hc hb => (h8 c (by omega) hb).trans (gp.kept c hc)⟩
/-- .. bounds on greedy numbers. -/
def tG : Nat → Nat
  | 0 => 1
  | k + 1 => (tG k + 1) * tG k
section
variable {lf n L : Nat} {m : Mem} {k : Value → Mem → Option Unit}
theorem one_sp {a b : Nat} (ha : 0 < a) (hb : b < 9223372036854775808) (hk : k (.tuple ⟨[.int .i64 (if b % a = 0 then ((b / a : Nat) : Int) else 0), .bool (decide (b % a = 0))]⟩) m = some ()) :
    runT (tab lf) (n + 1) 45 [.int .i64 (a : Int), .int .i64 (b : Int)] L m k = some () := by
  rw [r45]; dsimp only [S45, iofNat, inegSucc]
  have d1 : decide ((a : Int) < 1) = false := decide_eq_false (by omega)
  have q1 : ∀ K : Value → Option Unit, oInt .rem .i64 (.int .i64 (b : Int)) (.int .i64 (a : Int)) K = K (.int .i64 ((b % a : Nat) : Int)) := fun K => oInt_remN ha K
  have q2 : ∀ K : Value → Option Unit, oInt .quo .i64 (.int .i64 (b : Int)) (.int .i64 (a : Int)) K = K (.int .i64 ((b / a : Nat) : Int)) := fun K => oInt_quoN ha hb K
  by_cases h : b % a = 0
  · rw [if_pos h, decide_eq_true h] at hk
    have d2 : decide (((b % a : Nat) : Int) = 0) = true := decide_eq_true (by omega)
    try simp (disch := first | omega | with_unfolding_all exact id rfl | with_unfolding_all exact Nat.le_of_ble_eq_true rfl | (simp only [Mem.push_next, Mem.put_next, List.length_cons, List.length_nil, Nat.zero_add, Nat.reduceAdd, allOne, oneCell, Bool.and_self, Bool.and_true]; first | done | omega)) only [d1, d2, q1, q2, ↓uc_e, ↓un0_e, oOpt_e, oRes_e, oIf_t, oIf_f, oGT_t, oGT_f, oGT_u, oGF_t, oGF_f, oGF_u, oPick_t, oPick_f, oInt_eql, oInt_neq, oInt_lss, oInt_leq, oInt_gtr, oInt_geq, aun_not, aextract_e, fa_e, abox_e, ptrTo, oCallV_e, decide_true, decide_false, Bool.not_true, Bool.not_false, List.getElem?_cons_zero, List.getElem?_cons_succ, List.cons_append, List.nil_append, cells_agg, cells_int, cells_slice, cells_bool, cells_ptr, ld1_u, ldN_u, st1_u, rdo_e, rdn_e, stw_e, anew_eq, Mem.push_next, Mem.put_next, Mem.rd_push, Mem.rd_push_eq, Mem.rd_push_lt, Mem.rd_put_eq, Mem.rd_put, List.take_zero, List.drop_zero, List.take_succ_cons, List.drop_succ_cons, List.drop_nil, List.take_nil, List.append_nil, List.length_cons, List.length_nil, Nat.zero_add, Nat.reduceAdd]
    repeat (rw [join_e]; try simp (disch := first | omega | with_unfolding_all exact id rfl | with_unfolding_all exact Nat.le_of_ble_eq_true rfl | (simp only [Mem.push_next, Mem.put_next, List.length_cons, List.length_nil, Nat.zero_add, Nat.reduceAdd, allOne, oneCell, Bool.and_self, Bool.and_true]; first | done | omega)) only [d1, d2, q1, q2, ↓uc_e, ↓un0_e, oOpt_e, oRes_e, oIf_t, oIf_f, oGT_t, oGT_f, oGT_u, oGF_t, oGF_f, oGF_u, oPick_t, oPick_f, oInt_eql, oInt_neq, oInt_lss, oInt_leq, oInt_gtr, oInt_geq, aun_not, aextract_e, fa_e, abox_e, ptrTo, oCallV_e, decide_true, decide_false, Bool.not_true, Bool.not_false, List.getElem?_cons_zero, List.getElem?_cons_succ, List.cons_append, List.nil_append, cells_agg, cells_int, cells_slice, cells_bool, cells_ptr, ld1_u, ldN_u, st1_u, rdo_e, rdn_e, stw_e, anew_eq, Mem.push_next, Mem.put_next, Mem.rd_push, Mem.rd_push_eq, Mem.rd_push_lt, Mem.rd_put_eq, Mem.rd_put, List.take_zero, List.drop_zero, List.take_succ_cons, List.drop_succ_cons, List.drop_nil, List.take_nil, List.append_nil, List.length_cons, List.length_nil, Nat.zero_add, Nat.reduceAdd])
    exact hk
  · rw [if_neg h, decide_eq_false h] at hk
    have d2 : decide (((b % a : Nat) : Int) = 0) = false := decide_eq_false (by omega)
    try simp (disch := first | omega | with_unfolding_all exact id rfl | with_unfolding_all exact Nat.le_of_ble_eq_true rfl | (simp only [Mem.push_next, Mem.put_next, List.length_cons, List.length_nil, Nat.zero_add, Nat.reduceAdd, allOne, oneCell, Bool.and_self, Bool.and_true]; first | done | omega)) only [d1, d2, q1, q2, ↓uc_e, ↓un0_e, oOpt_e, oRes_e, oIf_t, oIf_f, oGT_t, oGT_f, oGT_u, oGF_t, oGF_f, oGF_u, oPick_t, oPick_f, oInt_eql, oInt_neq, oInt_lss, oInt_leq, oInt_gtr, oInt_geq, aun_not, aextract_e, fa_e, abox_e, ptrTo, oCallV_e, decide_true, decide_false, Bool.not_true, Bool.not_false, List.getElem?_cons_zero, List.getElem?_cons_succ, List.cons_append, List.nil_append, cells_agg, cells_int, cells_slice, cells_bool, cells_ptr, ld1_u, ldN_u, st1_u, rdo_e, rdn_e, stw_e, anew_eq, Mem.push_next, Mem.put_next, Mem.rd_push, Mem.rd_push_eq, Mem.rd_push_lt, Mem.rd_put_eq, Mem.rd_put, List.take_zero, List.drop_zero, List.take_succ_cons, List.drop_succ_cons, List.drop_nil, List.take_nil, List.append_nil, List.length_cons, List.length_nil, Nat.zero_add, Nat.reduceAdd]
    repeat (rw [join_e]; try simp (disch := first | omega | with_unfolding_all exact id rfl | with_unfolding_all exact Nat.le_of_ble_eq_true rfl | (simp only [Mem.push_next, Mem.put_next, List.length_cons, List.length_nil, Nat.zero_add, Nat.reduceAdd, allOne, oneCell, Bool.and_self, Bool.and_true]; first | done | omega)) only [d1, d2, q1, q2, ↓uc_e, ↓un0_e, oOpt_e, oRes_e, oIf_t, oIf_f, oGT_t, oGT_f, oGT_u, oGF_t, oGF_f, oGF_u, oPick_t, oPick_f, oInt_eql, oInt_neq, oInt_lss, oInt_leq, oInt_gtr, oInt_geq, aun_not, aextract_e, fa_e, abox_e, ptrTo, oCallV_e, decide_true, decide_false, Bool.not_true, Bool.not_false, List.getElem?_cons_zero, List.getElem?_cons_succ, List.cons_append, List.nil_append, cells_agg, cells_int, cells_slice, cells_bool, cells_ptr, ld1_u, ldN_u, st1_u, rdo_e, rdn_e, stw_e, anew_eq, Mem.push_next, Mem.put_next, Mem.rd_push, Mem.rd_push_eq, Mem.rd_push_lt, Mem.rd_put_eq, Mem.rd_put, List.take_zero, List.drop_zero, List.take_succ_cons, List.drop_succ_cons, List.drop_nil, List.take_nil, List.append_nil, List.length_cons, List.length_nil, Nat.zero_add, Nat.reduceAdd])
    exact hk
theorem rest_sp {a b x : Nat} (h1 : a * x < 9223372036854775808) (h2 : b * x < 9223372036854775808) (h3 : b < 9223372036854775808) (hk : k (.tuple ⟨[.int .i64 (((a * x : Nat) : Int) - (b : Int)), .int .i64 ((b * x : Nat) : Int)]⟩) m = some ()) :
    runT (tab lf) (n + 1) 46 [.int .i64 (a : Int), .int .i64 (b : Int), .int .i64 (x : Int)] L m k = some () := by
  rw [r46]; dsimp only [S46, iofNat, inegSucc]
  rw [uc_e, uc_e, uc_e, un0_e, oInt_mulN h1, oInt_sub ⟨by omega, by omega⟩, oInt_mulN h2]
  exact hk
theorem part_sp {p q : Nat} (hL : L ≤ m.next) (hp : p < 256) (hq : q < 256) (hk : ∀ (A B : Nat) m', Frac A B → Gt m m' → k (frV A B) m' = some ()) :
    runT (tab lf) (n + 2) 43 [.agg ⟨[.int .u8 (p : Int), .int .u8 (q : Int)]⟩] L m k = some () := by
  rw [r43]; dsimp only [S43, iofNat, inegSucc]
  have hr1 := Nat.mod_lt q (show 0 < 29 by omega)
  have hr2 := Nat.mod_lt p (show 0 < 1 + q % 29 by omega)
  have c1 : ∀ K : Value → Option Unit, oCv .i64 (.int .u8 (q : Int)) K = K (.int .i64 (q : Int)) := fun K => oCv_nat (by omega) K
  have c2 : ∀ K : Value → Option Unit, oCv .i64 (.int .u8 (p : Int)) K = K (.int .i64 (p : Int)) := fun K => oCv_nat (by omega) K
  have q1 : ∀ K : Value → Option Unit, oInt .rem .i64 (.int .i64 (q : Int)) (.int .i64 29) K = K (.int .i64 ((q % 29 : Nat) : Int)) := fun K => oInt_remN (b := 29) (by omega) K
  have q2 : ∀ K : Value → Option Unit, oInt .add .i64 (.int .i64 2) (.int .i64 ((q % 29 : Nat) : Int)) K = K (.int .i64 ((2 + q % 29 : Nat) : Int)) := fun K => oInt_addN (a := 2) (by omega) K
  have q3 : ∀ K : Value → Option Unit, oInt .sub .i64 (.int .i64 ((2 + q % 29 : Nat) : Int)) (.int .i64 1) K = K (.int .i64 ((1 + q % 29 : Nat) : Int)) := fun K => by rw [oInt_sub ⟨by omega, by omega⟩, show ((2 + q % 29 : Nat) : Int) - 1 = ((1 + q % 29 : Nat) : Int) by omega]
  have q4 : ∀ K : Value → Option Unit, oInt .rem .i64 (.int .i64 (p : Int)) (.int .i64 ((1 + q % 29 : Nat) : Int)) K = K (.int .i64 ((p % (1 + q % 29) : Nat) : Int)) := fun K => oInt_remN (by omega) K
  have q5 : ∀ K : Value → Option Unit, oInt .add .i64 (.int .i64 1) (.int .i64 ((p % (1 + q % 29) : Nat) : Int)) K = K (.int .i64 ((1 + p % (1 + q % 29) : Nat) : Int)) := fun K => oInt_addN (a := 1) (by omega) K
  try simp (disch := first | omega | with_unfolding_all exact id rfl | with_unfolding_all exact Nat.le_of_ble_eq_true rfl | (simp only [Mem.push_next, Mem.put_next, List.length_cons, List.length_nil, Nat.zero_add, Nat.reduceAdd, allOne, oneCell, Bool.and_self, Bool.and_true]; first | done | omega)) only [c1, c2, q1, q2, q3, q4, q5, ↓uc_e, ↓un0_e, oOpt_e, oRes_e, oIf_t, oIf_f, oGT_t, oGT_f, oGT_u, oGF_t, oGF_f, oGF_u, oPick_t, oPick_f, oInt_eql, oInt_neq, oInt_lss, oInt_leq, oInt_gtr, oInt_geq, aun_not, aextract_e, fa_e, abox_e, ptrTo, oCallV_e, decide_true, decide_false, Bool.not_true, Bool.not_false, List.getElem?_cons_zero, List.getElem?_cons_succ, List.cons_append, List.nil_append, cells_agg, cells_int, cells_slice, cells_bool, cells_ptr, ld1_u, ldN_u, st1_u, rdo_e, rdn_e, stw_e, anew_eq, Mem.push_next, Mem.put_next, Mem.rd_push, Mem.rd_push_eq, Mem.rd_push_lt, Mem.rd_put_eq, Mem.rd_put, List.take_zero, List.drop_zero, List.take_succ_cons, List.drop_succ_cons, List.drop_nil, List.take_nil, List.append_nil, List.length_cons, List.length_nil, Nat.zero_add, Nat.reduceAdd]
  have hf : Frac ((1 + p % (1 + q % 29) : Nat) : Int) ((2 + q % 29 : Nat) : Int) := ⟨by omega, by omega, by omega⟩
  generalize 1 + p % (1 + q % 29) = A at hf ⊢
  generalize 2 + q % 29 = B at hf ⊢
  have G : Gt m ((m.push ⟨1, [.int .u8 (p : Int), .int .u8 (q : Int)], none⟩).push ⟨1, [.int .i64 0, .int .i64 0], none⟩) := (Mem.gt_push _ _).trans (Mem.gt_push _ _)
  have hB : At ((m.push ⟨1, [.int .u8 (p : Int), .int .u8 (q : Int)], none⟩).push ⟨1, [.int .i64 0, .int .i64 0], none⟩) (m.next + 1) [.int .i64 0, .int .i64 0] := At.push _ _
  generalize (m.push ⟨1, [.int .u8 (p : Int), .int .u8 (q : Int)], none⟩).push ⟨1, [.int .i64 0, .int .i64 0], none⟩ = m1 at G hB ⊢
  have Gn := G.next
  have hlt := hB.lt
  rw [r48]; dsimp only [S48, iofNat, inegSucc]
  try simp (disch := first | omega | with_unfolding_all exact id rfl | with_unfolding_all exact Nat.le_of_ble_eq_true rfl | (simp only [Mem.push_next, Mem.put_next, List.length_cons, List.length_nil, Nat.zero_add, Nat.reduceAdd, allOne, oneCell, Bool.and_self, Bool.and_true]; first | done | omega)) only [bu23, ↓uc_e, ↓un0_e, oOpt_e, oRes_e, oIf_t, oIf_f, oGT_t, oGT_f, oGT_u, oGF_t, oGF_f, oGF_u, oPick_t, oPick_f, oInt_eql, oInt_neq, oInt_lss, oInt_leq, oInt_gtr, oInt_geq, aun_not, aextract_e, fa_e, abox_e, ptrTo, oCallV_e, decide_true, decide_false, Bool.not_true, Bool.not_false, List.getElem?_cons_zero, List.getElem?_cons_succ, List.cons_append, List.nil_append, cells_agg, cells_int, cells_slice, cells_bool, cells_ptr, ld1_u, ldN_u, st1_u, rdo_e, rdn_e, stw_e, anew_eq, Mem.push_next, Mem.put_next, Mem.rd_push, Mem.rd_push_eq, Mem.rd_push_lt, Mem.rd_put_eq, Mem.rd_put, List.take_zero, List.drop_zero, List.take_succ_cons, List.drop_succ_cons, List.drop_nil, List.take_nil, List.append_nil, List.length_cons, List.length_nil, Nat.zero_add, Nat.reduceAdd]
  have g2 : Gt m1 ((m1.push ⟨1, [.int .i64 0, .int .i64 0], none⟩).put m1.next (some ⟨1, [.int .i64 (A : Int), .int .i64 (B : Int)], none⟩)) := Mem.put_gt (Mem.gt_push _ _) _ (Nat.le_refl _)
  have hB2 := hB.mono g2
  generalize (m1.push ⟨1, [.int .i64 0, .int .i64 0], none⟩).put m1.next (some ⟨1, [.int .i64 (A : Int), .int .i64 (B : Int)], none⟩) = m2 at g2 hB2 ⊢
  have hlt2 := hB2.lt
  try simp (disch := first | omega | with_unfolding_all exact id rfl | with_unfolding_all exact Nat.le_of_ble_eq_true rfl | (simp only [Mem.push_next, Mem.put_next, List.length_cons, List.length_nil, Nat.zero_add, Nat.reduceAdd, allOne, oneCell, Bool.and_self, Bool.and_true]; first | done | omega)) only [hB.rd, hB2.rd, ↓uc_e, ↓un0_e, oOpt_e, oRes_e, oIf_t, oIf_f, oGT_t, oGT_f, oGT_u, oGF_t, oGF_f, oGF_u, oPick_t, oPick_f, oInt_eql, oInt_neq, oInt_lss, oInt_leq, oInt_gtr, oInt_geq, aun_not, aextract_e, fa_e, abox_e, ptrTo, oCallV_e, decide_true, decide_false, Bool.not_true, Bool.not_false, List.getElem?_cons_zero, List.getElem?_cons_succ, List.cons_append, List.nil_append, cells_agg, cells_int, cells_slice, cells_bool, cells_ptr, ld1_u, ldN_u, st1_u, rdo_e, rdn_e, stw_e, anew_eq, Mem.push_next, Mem.put_next, Mem.rd_push, Mem.rd_push_eq, Mem.rd_push_lt, Mem.rd_put_eq, Mem.rd_put, List.take_zero, List.drop_zero, List.take_succ_cons, List.drop_succ_cons, List.drop_nil, List.take_nil, List.append_nil, List.length_cons, List.length_nil, Nat.zero_add, Nat.reduceAdd]
  exact hk A B _ hf (Mem.put_gt (G.trans g2) _ (by omega))
theorem greedy18_sp {A B : Nat} (hlf : 1000000 ≤ lf) (hT : TabOk mTab m) (hL : L ≤ m.next) (hf : Frac A B)
    (hover : ∀ m', Gt m m' → k (.tuple ⟨[.slice none 0 0, .int .i64 15]⟩) m' = some ())
    (hok : ∀ u g m', Gt m m' → IN m' u g → 0 < g.length → g.length < 1000 → ways (g.length - 1) A B 2 ≠ [] → k (.tuple ⟨[u, .int .i64 0]⟩) m' = some ()) :
    runT (tab lf) (n + 20) 18 [frV A B] L m k = some () := by
  rw [r18]; dsimp only [S18, iofNat, inegSucc]
  have g1 := Mem.gt_push m ⟨1, [.int .i64 (A : Int), .int .i64 (B : Int)], none⟩
  have hA : At (m.push ⟨1, [.int .i64 (A : Int), .int .i64 (B : Int)], none⟩) m.next [.int .i64 (A : Int), .int .i64 (B : Int)] := At.push m _
  unfold frV
  rw [uc_e, un0_e, abox_e, oRes_e, cells_agg]
  generalize m.push ⟨1, [.int .i64 (A : Int), .int .i64 (B : Int)], none⟩ = m1 at g1 hA ⊢
  unfold ptrTo
  have g1n := g1.next
  rw [ldN_u, hA.rd, show rdn (some ⟨1, [.int .i64 (A : Int), .int .i64 (B : Int)], none⟩) 0 2 = some (frV A B) from rfl, oOpt_e]
  refine opened_sp hlf (hT.mono g1) (by omega) hf fun m2 e2 => ?_
  have e2n := e2.next
  obtain ⟨r1, r2, r3, r4, r5⟩ := red_facts hf
  have hred : ∀ j, ways j (A / Nat.gcd A B) (B / Nat.gcd A B) 2 = ways j A B 2 := fun j => ways_red j 2 r4
  have r6 : A / Nat.gcd A B < B / Nat.gcd A B := by
    have hg : 0 < Nat.gcd A B := Nat.gcd_pos_of_pos_right _ r4
    rw [Nat.div_lt_iff_lt_mul hg, Nat.div_mul_cancel (Nat.gcd_dvd_right A B)]
    have := hf.2.1; omega
  generalize A / Nat.gcd A B = x at *
  generalize B / Nat.gcd A B = y at *
  unfold frV
  have d0 : decide ((0 : Int) = 0) = true := by decide
  try simp (disch := first | omega | with_unfolding_all exact id rfl | with_unfolding_all exact Nat.le_of_ble_eq_true rfl | (simp only [Mem.push_next, Mem.put_next, List.length_cons, List.length_nil, Nat.zero_add, Nat.reduceAdd, allOne, oneCell, Bool.and_self, Bool.and_true]; first | done | omega)) only [d0, ↓uc_e, ↓un0_e, oOpt_e, oRes_e, oIf_t, oIf_f, oGT_t, oGT_f, oGT_u, oGF_t, oGF_f, oGF_u, oPick_t, oPick_f, oInt_eql, oInt_neq, oInt_lss, oInt_leq, oInt_gtr, oInt_geq, aun_not, aextract_e, fa_e, abox_e, ptrTo, oCallV_e, decide_true, decide_false, Bool.not_true, Bool.not_false, List.getElem?_cons_zero, List.getElem?_cons_succ, List.cons_append, List.nil_append, cells_agg, cells_int, cells_slice, cells_bool, cells_ptr, ld1_u, ldN_u, st1_u, rdo_e, rdn_e, stw_e, anew_eq, Mem.push_next, Mem.put_next, Mem.rd_push, Mem.rd_push_eq, Mem.rd_push_lt, Mem.rd_put_eq, Mem.rd_put, List.take_zero, List.drop_zero, List.take_succ_cons, List.drop_succ_cons, List.drop_nil, List.take_nil, List.append_nil, List.length_cons, List.length_nil, Nat.zero_add, Nat.reduceAdd]
  have hg2 : Gt m2 ((m2.push ⟨1, [.int .i64 0, .int .i64 0], none⟩).put m2.next (some ⟨1, [.int .i64 (x : Int), .int .i64 (y : Int)], none⟩)) := Mem.put_gt (Mem.gt_push _ _) _ (Nat.le_refl _)
  have hB : At ((m2.push ⟨1, [.int .i64 0, .int .i64 0], none⟩).put m2.next (some ⟨1, [.int .i64 (x : Int), .int .i64 (y : Int)], none⟩)) m2.next [.int .i64 (x : Int), .int .i64 (y : Int)] := Mem.rd_put_eq _ _ (by rw [Mem.push_next]; omega)
  have hn3 : ((m2.push ⟨1, [.int .i64 0, .int .i64 0], none⟩).put m2.next (some ⟨1, [.int .i64 (x : Int), .int .i64 (y : Int)], none⟩)).next = m2.next + 1 := by rw [Mem.put_next, Mem.push_next]
  generalize (m2.push ⟨1, [.int .i64 0, .int .i64 0], none⟩).put m2.next (some ⟨1, [.int .i64 (x : Int), .int .i64 (y : Int)], none⟩) = m3 at hg2 hB hn3 ⊢
  have G3 := (g1.trans e2).trans hg2
  have G3n := G3.next
  refine loop_of (fun a vs m' => ∃ (out : Value) (g : List Nat) (b : Nat), vs = [out] ∧ 0 < a ∧ g.length ≤ 5 ∧ tG g.length * a < b ∧ b ≤ 30 * 2000 ^ g.length ∧ (frN g - 1) * a < b ∧
      Gt m m' ∧ m3.next ≤ m'.next ∧ At m' m2.next [.int .i64 (a : Int), .int .i64 (b : Int)] ∧ GN m3.next m' out g ∧ (∀ n w, w ∈ ways n a b (frN g) → g ++ w ∈ ways (g.length + n) x y 2))
    ?_ (n := x) ⟨_, [], y, rfl, r1, by simp, by show 1 * x < y; omega, by simpa using r3, by show 1 * x < y; omega, G3, Nat.le_refl _, hB, GN.nil _ _, fun n w hw => by rw [show frN [] = 2 from rfl] at hw; simpa using hw⟩ (by omega)
  rintro a vs m4 ⟨out, g, b, rfl, ha, hg5, htg, hb30, hfr, e4, e4n, hB4, hout, hM⟩ self hself
  have hbig : b ≤ 30 * 2000 ^ 5 := Nat.le_trans hb30 (Nat.mul_le_mul_left _ (Nat.pow_le_pow_right (by omega) hg5))
  have hltB := hB4.lt
  have htg1 : 1 ≤ tG g.length := by
    have : ∀ j, 1 ≤ tG j := fun j => by
      induction j with
      | zero => exact Nat.le_refl _
      | succ j ih => exact Nat.mul_pos (by omega) ih
    exact this _
  have hab : a < b := by
    have : 1 * a ≤ tG g.length * a := Nat.mul_le_mul_right _ htg1
    omega
  have hp1 : tG g.length ≤ (b - 1) / a := (Nat.le_div_iff_mul_le ha).2 (by omega)
  have hp2 : frN g - 1 ≤ (b - 1) / a := (Nat.le_div_iff_mul_le ha).2 (by omega)
  have hdm := Nat.div_add_mod (b - 1) a
  have hmod := Nat.mod_lt (b - 1) ha
  have q1 : ∀ K : Value → Option Unit, oInt .sub .i64 (.int .i64 (b : Int)) (.int .i64 1) K = K (.int .i64 ((b - 1 : Nat) : Int)) := fun K => by rw [oInt_sub ⟨by omega, by omega⟩, show (b : Int) - 1 = ((b - 1 : Nat) : Int) by omega]
  have q2 : ∀ K : Value → Option Unit, oInt .quo .i64 (.int .i64 ((b - 1 : Nat) : Int)) (.int .i64 (a : Int)) K = K (.int .i64 (((b - 1) / a : Nat) : Int)) := fun K => oInt_quoN ha (by omega) K
  have hdle : (b - 1) / a ≤ b - 1 := Nat.div_le_self _ _
  generalize (b - 1) / a = D at *
  generalize (b - 1) % a = R at *
  have hap : a * (D + 1) = a * D + a := Nat.mul_succ a D
  have q3 : ∀ K : Value → Option Unit, oInt .add .i64 (.int .i64 (D : Int)) (.int .i64 1) K = K (.int .i64 ((D + 1 : Nat) : Int)) := fun K => by rw [oInt_add ⟨by omega, by omega⟩]; rfl
  by_cases h2000 : 2000 < D + 1
  · have d1 : decide ((2000 : Int) < ((D + 1 : Nat) : Int)) = true := decide_eq_true (by omega)
    try simp (disch := first | omega | with_unfolding_all exact id rfl | with_unfolding_all exact Nat.le_of_ble_eq_true rfl | (simp only [Mem.push_next, Mem.put_next, List.length_cons, List.length_nil, Nat.zero_add, Nat.reduceAdd, allOne, oneCell, Bool.and_self, Bool.and_true]; first | done | omega)) only [hB4.rd, q1, q2, q3, d1, ↓uc_e, ↓un0_e, oOpt_e, oRes_e, oIf_t, oIf_f, oGT_t, oGT_f, oGT_u, oGF_t, oGF_f, oGF_u, oPick_t, oPick_f, oInt_eql, oInt_neq, oInt_lss, oInt_leq, oInt_gtr, oInt_geq, aun_not, aextract_e, fa_e, abox_e, ptrTo, oCallV_e, decide_true, decide_false, Bool.not_true, Bool.not_false, List.getElem?_cons_zero, List.getElem?_cons_succ, List.cons_append, List.nil_append, cells_agg, cells_int, cells_slice, cells_bool, cells_ptr, ld1_u, ldN_u, st1_u, rdo_e, rdn_e, stw_e, anew_eq, Mem.push_next, Mem.put_next, Mem.rd_push, Mem.rd_push_eq, Mem.rd_push_lt, Mem.rd_put_eq, Mem.rd_put, List.take_zero, List.drop_zero, List.take_succ_cons, List.drop_succ_cons, List.drop_nil, List.take_nil, List.append_nil, List.length_cons, List.length_nil, Nat.zero_add, Nat.reduceAdd]
    exact hover m4 e4
  have d1 : decide ((2000 : Int) < ((D + 1 : Nat) : Int)) = false := decide_eq_false (by omega)
  have hg4 : g.length ≤ 4 := by
    by_cases h5 : g.length = 5
    · rw [h5] at hp1
      have : tG 5 = 3263442 := by decide
      omega
    · omega
  have hbm : b ≤ 30 * 2000 ^ 4 := Nat.le_trans hb30 (Nat.mul_le_mul_left _ (Nat.pow_le_pow_right (by omega) hg4))
  have hbp : b * (D + 1) ≤ 30 * 2000 ^ 4 * 2000 := Nat.mul_le_mul hbm (by omega)
  have q5 : ∀ K : Value → Option Unit, oInt .mul .i64 (.int .i64 (a : Int)) (.int .i64 ((D + 1 : Nat) : Int)) K = K (.int .i64 ((a * (D + 1) : Nat) : Int)) := fun K => oInt_mulN (by omega) K
  have q6 : ∀ K : Value → Option Unit, oInt .sub .i64 (.int .i64 ((a * (D + 1) : Nat) : Int)) (.int .i64 (b : Int)) K = K (.int .i64 ((a * (D + 1) - b : Nat) : Int)) := fun K => by rw [oInt_sub ⟨by omega, by omega⟩, show ((a * (D + 1) : Nat) : Int) - (b : Int) = ((a * (D + 1) - b : Nat) : Int) by omega]
  have q7 : ∀ K : Value → Option Unit, oInt .mul .i64 (.int .i64 (b : Int)) (.int .i64 ((D + 1 : Nat) : Int)) K = K (.int .i64 ((b * (D + 1) : Nat) : Int)) := fun K => oInt_mulN (by omega) K
  have e4n' := e4.next
  obtain ⟨u, m5, f1, f2, f3, f4, f5⟩ := GN.snoc3 (P := Tryd.prog) (t := 30) (L := L) (m0 := m) (D + 1) ael30 (by omega) hout (by omega) (by omega) e4 G3n
  have hb30' := bs30 m4 ((D + 1 : Nat) : Int)
  have hB5 : At m5 m2.next [.int .i64 (a : Int), .int .i64 (b : Int)] := (f5 _ hltB fun hc => by have := hout.fr _ hc; omega).trans hB4
  have hltB5 := hB5.lt
  try simp (disch := first | omega | with_unfolding_all exact id rfl | with_unfolding_all exact Nat.le_of_ble_eq_true rfl | (simp only [Mem.push_next, Mem.put_next, List.length_cons, List.length_nil, Nat.zero_add, Nat.reduceAdd, allOne, oneCell, Bool.and_self, Bool.and_true]; first | done | omega)) only [hB4.rd, q1, q2, q3, d1, hb30', f1, hB5.rd, q5, q6, q7, bu23, ↓uc_e, ↓un0_e, oOpt_e, oRes_e, oIf_t, oIf_f, oGT_t, oGT_f, oGT_u, oGF_t, oGF_f, oGF_u, oPick_t, oPick_f, oInt_eql, oInt_neq, oInt_lss, oInt_leq, oInt_gtr, oInt_geq, aun_not, aextract_e, fa_e, abox_e, ptrTo, oCallV_e, decide_true, decide_false, Bool.not_true, Bool.not_false, List.getElem?_cons_zero, List.getElem?_cons_succ, List.cons_append, List.nil_append, cells_agg, cells_int, cells_slice, cells_bool, cells_ptr, ld1_u, ldN_u, st1_u, rdo_e, rdn_e, stw_e, anew_eq, Mem.push_next, Mem.put_next, Mem.rd_push, Mem.rd_push_eq, Mem.rd_push_lt, Mem.rd_put_eq, Mem.rd_put, List.take_zero, List.drop_zero, List.take_succ_cons, List.drop_succ_cons, List.drop_nil, List.take_nil, List.append_nil, List.length_cons, List.length_nil, Nat.zero_add, Nat.reduceAdd]
  have G6 : Gt m (m5.put m2.next (some ⟨1, [.int .i64 ((a * (D + 1) - b : Nat) : Int), .int .i64 ((b * (D + 1) : Nat) : Int)], none⟩)) := Mem.put_gt f3 _ (by omega)
  have hB6 : At (m5.put m2.next (some ⟨1, [.int .i64 ((a * (D + 1) - b : Nat) : Int), .int .i64 ((b * (D + 1) : Nat) : Int)], none⟩)) m2.next [.int .i64 ((a * (D + 1) - b : Nat) : Int), .int .i64 ((b * (D + 1) : Nat) : Int)] := Mem.rd_put_eq _ _ hltB5
  have hu6 : GN m3.next (m5.put m2.next (some ⟨1, [.int .i64 ((a * (D + 1) - b : Nat) : Int), .int .i64 ((b * (D + 1) : Nat) : Int)], none⟩)) u (g ++ [D + 1]) := by
    rcases f2.le (show m3.next ≤ m4.next by omega) with h | ⟨c, h1, h2, h3, h4⟩
    · exact .inl h
    · exact .inr ⟨c, h1, h2, (Mem.rd_put _ _ _ _ (by omega)).trans h3, h4⟩
  have hn6 : m3.next ≤ (m5.put m2.next (some ⟨1, [.int .i64 ((a * (D + 1) - b : Nat) : Int), .int .i64 ((b * (D + 1) : Nat) : Int)], none⟩)).next := by rw [Mem.put_next]; omega
  generalize m5.put m2.next (some ⟨1, [.int .i64 ((a * (D + 1) - b : Nat) : Int), .int .i64 ((b * (D + 1) : Nat) : Int)], none⟩) = m6 at G6 hB6 hu6 hn6 ⊢
  have hgl : (g ++ [D + 1]).length = g.length + 1 := by rw [List.length_append]; rfl
  by_cases hz : a * (D + 1) - b = 0
  · have d2 : decide (((a * (D + 1) - b : Nat) : Int) = 0) = true := decide_eq_true (by omega)
    rw [d2, oIf_t]
    have hbe : b = a * (D + 1) := by omega
    have hw0 : ways 0 a b (frN g) = [[D + 1]] := by
      rw [way0_of (by rw [hbe, Nat.mul_div_cancel_left _ ha]; omega), hbe, Nat.mul_mod_right, if_pos rfl, Nat.mul_div_cancel_left _ ha, if_pos (by omega)]
    have hmem := hM 0 [D + 1] (by rw [hw0]; simp)
    refine hok u (g ++ [D + 1]) m6 G6 hu6.inn (by omega) (by omega) ?_
    rw [hgl, Nat.add_sub_cancel, ← hred]
    intro h
    rw [Nat.add_zero, h] at hmem
    cases hmem
  · have d2 : decide (((a * (D + 1) - b : Nat) : Int) = 0) = false := decide_eq_false (by omega)
    rw [d2, oIf_f]
    have hlt : a * (D + 1) - b < a := by omega
    have hcm : D * b = b * D := Nat.mul_comm _ _
    have hbs : b * (D + 1) = b * D + b := Nat.mul_succ b D
    have hDa : D * (a * (D + 1) - b) < b := by
      have h1 : D * (a * (D + 1) - b) + D * b = (a * D) * (D + 1) := by
        rw [← Nat.mul_add, Nat.sub_add_cancel (by omega), ← Nat.mul_assoc, Nat.mul_comm D a]
      have h2 : (a * D) * (D + 1) ≤ (b - 1) * (D + 1) := Nat.mul_le_mul_right _ (by omega)
      have h3 : (b - 1) * (D + 1) + (D + 1) = b * (D + 1) := by
        have : (b - 1) * (D + 1) + 1 * (D + 1) = (b - 1 + 1) * (D + 1) := (Nat.add_mul _ _ _).symm
        rw [Nat.one_mul, show b - 1 + 1 = b by omega] at this
        exact this
      omega
    refine hself _ _ _ hlt ⟨u, g ++ [D + 1], b * (D + 1), rfl, by omega, by omega, ?_, ?_, ?_, G6, hn6, hB6, hu6, fun n w hw => ?_⟩
    · rw [hgl]
      show (tG g.length + 1) * tG g.length * (a * (D + 1) - b) < b * (D + 1)
      have h1 : (tG g.length + 1) * tG g.length ≤ (D + 1) * D := Nat.mul_le_mul (by omega) hp1
      have h2 : (tG g.length + 1) * tG g.length * (a * (D + 1) - b) ≤ (D + 1) * D * (a * (D + 1) - b) := Nat.mul_le_mul_right _ h1
      have h3 : (D + 1) * D * (a * (D + 1) - b) = (D + 1) * (D * (a * (D + 1) - b)) := Nat.mul_assoc _ _ _
      have h4 : (D + 1) * (D * (a * (D + 1) - b)) < (D + 1) * b := Nat.mul_lt_mul_of_pos_left hDa (by omega)
      have h5 : (D + 1) * b = b * (D + 1) := Nat.mul_comm _ _
      omega
    · rw [hgl, Nat.pow_succ, ← Nat.mul_assoc]
      exact Nat.mul_le_mul hb30 (by omega)
    · rw [frN_snoc, Nat.add_sub_cancel, Nat.mul_comm b]
      exact Nat.mul_lt_mul_of_pos_left (by omega) (by omega)
    · rw [frN_snoc] at hw
      have hpa : (D + 1) * a = a * (D + 1) := Nat.mul_comm _ _
      have hdb : b / a + 1 ≤ D + 1 := (Nat.div_lt_iff_lt_mul ha).2 (by omega)
      have h2b : 2 * b ≤ (n + 2) * b := Nat.mul_le_mul_right _ (by omega)
      have := hM (n + 1) ((D + 1) :: w) (by rw [ways_succ]; exact mem_tlW (by omega) (by omega) (by omega) hw)
      rw [hgl, List.append_assoc]
      rwa [show g.length + (n + 1) = g.length + 1 + n by omega] at this
/-- Old blocks are kept, but two. -/
structure GtC (cb fb : Nat) (m m' : Mem) : Prop where
  next : m.next ≤ m'.next
  kept : ∀ c, c < m.next → c ≠ cb → c ≠ fb → m'.rd c = m.rd c
theorem GtC.of {cb fb : Nat} {m m' : Mem} (e : Gt m m') : GtC cb fb m m' := ⟨e.next, fun c hc _ _ => e.kept c hc⟩
theorem GtC.trans {cb fb : Nat} {a b c : Mem} (h : GtC cb fb a b) (h' : GtC cb fb b c) : GtC cb fb a c :=
  ⟨Nat.le_trans h.next h'.next, fun x hx h1 h2 => (h'.kept x (Nat.lt_of_lt_of_le hx h.next) h1 h2).trans (h.kept x hx h1 h2)⟩
theorem GtC.at {cb fb : Nat} {m m' : Mem} {b : Nat} {cs : List Value} (e : GtC cb fb m m') (h : At m b cs) (h1 : b ≠ cb) (h2 : b ≠ fb) : At m' b cs := (e.kept b h.lt h1 h2).trans h
theorem GtC.gt {cb fb : Nat} {a b c : Mem} (e : Gt a b) (h : GtC cb fb b c) (h1 : a.next ≤ cb) (h2 : a.next ≤ fb) : Gt a c :=
  ⟨Nat.le_trans e.next h.next, fun x hx => (h.kept x (Nat.lt_of_lt_of_le hx e.next) (by omega) (by omega)).trans (e.kept x hx)⟩
theorem GtC.gn {cb fb L0 : Nat} {m m' : Mem} {v : Value} {l : List Nat} (e : GtC cb fb m m') (h : GN L0 m v l) (h1 : bid v ≠ some cb) (h2 : bid v ≠ some fb) : GN L0 m' v l := by
  rcases h with h | ⟨b, g1, g2, g3, g4⟩
  · exact .inl h
  · exact .inr ⟨b, g1, g2, (e.kept b (Mem.rd_lt g3) (fun e => h1 (by rw [g2, e]; rfl)) (fun e => h2 (by rw [g2, e]; rfl))).trans g3, g4⟩
/-- What was found so far: how many lists of each length, and the first ones. -/
def FSl (cb fb : Nat) (m : Mem) (G : Nat → List (List Nat)) : Prop :=
  ∃ vs : Nat → Value, At m cb [.int .i64 ((G 0).length : Int), .int .i64 ((G 1).length : Int), .int .i64 ((G 2).length : Int), .int .i64 ((G 3).length : Int)] ∧ At m fb [vs 0, vs 1, vs 2, vs 3] ∧
    ∀ n, n ≤ 3 → GN 0 m (vs n) ((G n).headD []) ∧ bid (vs n) ≠ some cb ∧ bid (vs n) ≠ some fb
theorem FSl.mono {cb fb : Nat} {m m' : Mem} {G : Nat → List (List Nat)} (h : FSl cb fb m G) (e : Gt m m') : FSl cb fb m' G := by
  obtain ⟨vs, h1, h2, h3⟩ := h
  exact ⟨vs, h1.mono e, h2.mono e, fun n hn => ⟨(h3 n hn).1.mono e, (h3 n hn).2⟩⟩
theorem set4 (f : Nat → Value) (n : Nat) (y : Value) (hn : n ≤ 3) : [f 0, f 1, f 2, f 3].set n y = [(fun i => if i = n then y else f i) 0, (fun i => if i = n then y else f i) 1, (fun i => if i = n then y else f i) 2, (fun i => if i = n then y else f i) 3] := by
  match n, hn with
  | 0, _ => rfl
  | 1, _ => rfl
  | 2, _ => rfl
  | 3, _ => rfl
theorem get4 (f : Nat → Value) (n : Nat) (hn : n ≤ 3) : [f 0, f 1, f 2, f 3][n]? = some (f n) := by
  match n, hn with
  | 0, _ => rfl
  | 1, _ => rfl
  | 2, _ => rfl
  | 3, _ => rfl
theorem found_sp {cb fb : Nat} {v : Value} {w : List Nat} {G : Nat → List (List Nat)} (hLc : L ≤ cb) (hLf : L ≤ fb) (hcf : cb ≠ fb) (hv : GN 0 m v w) (h1 : 1 ≤ w.length) (h3 : w.length ≤ 3) (hb1 : bid v ≠ some cb) (hb2 : bid v ≠ some fb)
    (hw : ∀ p ∈ w, p < 1000000000) (hs : FSl cb fb m G) (hG : (G w.length).length < 1000000) (hk : ∀ m', GtC cb fb m m' → FSl cb fb m' (addG G w) → k (.tuple ⟨[]⟩) m' = some ()) :
    runT (tab lf) (n + 1) 49 [v, .pointer (some ⟨cb, 0, none⟩), .pointer (some ⟨fb, 0, none⟩)] L m k = some () := by
  rw [r49]; dsimp only [S49, iofNat, inegSucc]
  have hpos : w.length - 1 < w.length := by omega
  have hlast : w.getLastD 0 = w[w.length - 1] := by
    rw [List.getLastD_eq_getLast?, List.getLast?_eq_getElem?, List.getElem?_eq_getElem hpos]; rfl
  have hwl := hw _ (List.getElem_mem hpos)
  rw [uc_e, uc_e, uc_e, un0_e, hv.ln, oOpt_e, oInt_sub ⟨by omega, by omega⟩, show (w.length : Int) - 1 = ((w.length - 1 : Nat) : Int) by omega, hv.inn.ia hpos, oOpt_e, hv.inn.ld hpos, oOpt_e, oInt_gtr]
  refine oIf_dec (fun h => ?_) (fun h => ?_)
  · refine hk m (GtC.of (Gt.refl m)) ?_
    have : addG G w = G := by
      funext i
      unfold addG
      rw [if_neg]
      rintro ⟨_, h9⟩
      rw [hlast] at h9
      omega
    rw [this]
    exact hs
  · have hle : w.getLastD 0 ≤ 2000 := by rw [hlast]; omega
    obtain ⟨vs, hC, hF, hV⟩ := hs
    have hltC := hC.lt
    have hltF := hF.lt
    clear hlast hwl h
    clear hpos
    generalize hn : w.length = j at *
    have hcnt : ([.int .i64 ((G 0).length : Int), .int .i64 ((G 1).length : Int), .int .i64 ((G 2).length : Int), .int .i64 ((G 3).length : Int)] : List Value)[0 + j * 1]? = some (.int .i64 ((G j).length : Int)) := by
      rw [show 0 + j * 1 = j by omega]
      exact get4 (fun i => .int .i64 ((G i).length : Int)) j h3
    have hadd : addG G w = fun i => if i = j then G j ++ [w] else G i := by
      funext i
      unfold addG
      rw [hn]
      by_cases hi : i = j
      · subst hi; rw [if_pos ⟨rfl, hle⟩, if_pos rfl]
      · rw [if_neg (fun h => hi h.1), if_neg hi]
    have hlen : ∀ (m' : Mem) (vs' : Nat → Value), At m' cb [.int .i64 ((G 0).length : Int), .int .i64 ((G 1).length : Int), .int .i64 ((G 2).length : Int), .int .i64 ((G 3).length : Int)] → At m' fb [vs' 0, vs' 1, vs' 2, vs' 3] →
        (∀ n, n ≤ 3 → GN 0 m' (vs' n) ((addG G w n).headD []) ∧ bid (vs' n) ≠ some cb ∧ bid (vs' n) ≠ some fb) → GtC cb fb m m' →
        oOpt (iaA 4 1 (.pointer (some ⟨cb, 0, none⟩)) (.int .i64 (j : Int))) (fun t19 => oOpt (ld1 m' t19) fun t20 => oInt .add .i64 t20 (.int .i64 1) fun t21 => oOpt (iaA 4 1 (.pointer (some ⟨cb, 0, none⟩)) (.int .i64 (j : Int))) fun t22 =>
          oRes (st1 1 L m' t22 t21) fun t23 m24 => k (.tuple ⟨[]⟩) m24) = some () := fun m' vs' hC' hF' hV' e' => by
      have hltC' := hC'.lt
      rw [iaA_e (by omega), oOpt_e, ld1_u, hC'.rd, rdo_e, hcnt, oOpt_e, oInt_add ⟨by omega, by omega⟩, oOpt_e, st_int hC'.rd (by simp; omega) hLc, oRes_e]
      have hset := set4 (fun i => .int .i64 ((G i).length : Int)) j (.int .i64 (((G j).length : Int) + 1)) h3
      rw [show 0 + j * 1 = j by omega, hset]
      refine hk _ (e'.trans ⟨Nat.le_refl _, fun c _ hc _ => Mem.rd_put _ _ _ _ (Ne.symm hc)⟩) ⟨vs', ?_, hF'.put hcf _, fun n hn3 => ⟨?_, (hV' n hn3).2⟩⟩
      · have hcell : ∀ i, (fun i => if i = j then Value.int .i64 (((G j).length : Int) + 1) else .int .i64 ((G i).length : Int)) i = .int .i64 ((addG G w i).length : Int) := fun i => by
          rw [hadd]
          by_cases hi : i = j
          · simp only [if_pos hi, List.length_append]; rfl
          · simp only [if_neg hi]
        rw [hcell, hcell, hcell, hcell]
        exact Mem.rd_put_eq _ _ hltC'
      · rcases (hV' n hn3).1 with h | ⟨b, a1, a2, a3, a4⟩
        · exact .inl h
        · exact .inr ⟨b, a1, a2, (Mem.rd_put _ _ _ _ (fun e => (hV' n hn3).2.1 (by rw [a2, e]; rfl))).trans a3, a4⟩
    rw [oOpt_e, iaA_e (by omega), oOpt_e, ld1_u, hC.rd, rdo_e, hcnt, oOpt_e, oInt_eql, join_e]
    have hhead : ∀ i, i ≠ j → (addG G w i).headD [] = (G i).headD [] := fun i hi => by rw [hadd]; simp only [if_neg hi]
    refine oIf_dec (fun h0 => ?_) (fun h0 => ?_)
    · have hGj : G j = [] := List.length_eq_zero_iff.1 (by omega)
      have hxc : v.cells.toList = [v] ∧ oneCell v = true := by
        obtain ⟨p, c, rfl⟩ := hv.ex
        exact ⟨rfl, rfl⟩
      rw [iaA_e (by omega), oOpt_e, st_set hF.rd (by simp; omega) hLf hxc.1 hxc.2, oRes_e, show 0 + j * 1 = j by omega, set4 vs j v h3]
      have hgc : GtC cb fb m (m.put fb (some ⟨1, [(fun i => if i = j then v else vs i) 0, (fun i => if i = j then v else vs i) 1, (fun i => if i = j then v else vs i) 2, (fun i => if i = j then v else vs i) 3], none⟩)) := ⟨Nat.le_refl _, fun c _ _ hc => Mem.rd_put _ _ _ _ (Ne.symm hc)⟩
      have hkp : ∀ {x : Value} {l : List Nat}, GN 0 m x l → bid x ≠ some cb → bid x ≠ some fb → GN 0 (m.put fb (some ⟨1, [(fun i => if i = j then v else vs i) 0, (fun i => if i = j then v else vs i) 1, (fun i => if i = j then v else vs i) 2, (fun i => if i = j then v else vs i) 3], none⟩)) x l := fun h a b => hgc.gn h a b
      have hfin := hlen _ (fun i => if i = j then v else vs i) (hC.put (Ne.symm hcf) _) (Mem.rd_put_eq _ _ hltF) (fun n hn3 => ?_) hgc
      · exact hfin
      · by_cases hnj : n = j
        · subst hnj
          rw [if_pos rfl]
          refine ⟨?_, hb1, hb2⟩
          rw [hadd]
          simp only [if_pos, hGj, List.nil_append, List.headD_cons]
          exact hkp hv hb1 hb2
        · rw [if_neg hnj, hhead n hnj]
          exact ⟨hkp (hV n hn3).1 (hV n hn3).2.1 (hV n hn3).2.2, (hV n hn3).2⟩
    · refine hlen m vs hC hF (fun n hn3 => ?_) (GtC.of (Gt.refl m))
      by_cases hnj : n = j
      · subst hnj
        rw [hadd]
        simp only [if_pos]
        have hne : G n ≠ [] := fun h => h0 (by rw [h]; rfl)
        have hh : (G n ++ [w]).headD [] = (G n).headD [] := by
          cases hg : G n with
          | nil => exact absurd hg hne
          | cons x l => rfl
        rw [hh]
        exact hV n hn3
      · rw [hhead n hnj]
        exact hV n hn3
end
end Go.Vit
