/- Walks: the fewest parts, and how many ways there are. -/
import Derived.Test.YtcaoifacidnhcaaDoorW12
set_option linter.unusedSimpArgs false
set_option linter.unusedVariables false
set_option maxRecDepth 20000
namespace Go.Vit
open Go Go.Proofs
attribute [local irreducible] runT loopS
/-- The lists of up to i parts. -/
def flatW (a b : Nat) : Nat → List (List Nat)
  | 0 => []
  | i + 1 => flatW a b i ++ ways i a b 2
def bestW (a b : Nat) : List Nat := (flatW a b 3).headD []
theorem head_get {l : List (List Nat)} (h : 0 < l.length) : l[0] = l.headD [] := by
  cases l with
  | nil => cases h
  | cons => rfl
theorem flatW_len {a b : Nat} : ∀ {i : Nat} {w : List Nat}, w ∈ flatW a b i → 1 ≤ w.length ∧ w.length ≤ i
  | 0, w, h => by cases h
  | i + 1, w, h => by
    rcases List.mem_append.1 h with h | h
    · have := flatW_len h; omega
    · have := ways_len h; omega
theorem flatW_pre {a b i : Nat} (hi : i ≤ 3) (hne : flatW a b i ≠ []) : (flatW a b i).headD [] = bestW a b := by
  have key : ∀ j, i + j ≤ 3 → (flatW a b (i + j)).headD [] = (flatW a b i).headD [] ∧ flatW a b (i + j) ≠ [] := by
    intro j
    induction j with
    | zero => intro _; exact ⟨rfl, hne⟩
    | succ j ih =>
      intro h
      obtain ⟨h1, h2⟩ := ih (by omega)
      show (flatW a b (i + j) ++ ways (i + j) a b 2).headD [] = _ ∧ (flatW a b (i + j) ++ ways (i + j) a b 2) ≠ []
      cases hf : flatW a b (i + j) with
      | nil => exact absurd hf h2
      | cons x l =>
        rw [hf] at h1
        exact ⟨h1, by simp⟩
  have := (key (3 - i) (by omega)).1
  rw [show i + (3 - i) = 3 by omega] at this
  exact this.symm
theorem headD_nil {l : List (List Nat)} (h : ∀ w ∈ l, w ≠ []) : l.headD [] = [] ↔ l = [] := by
  cases l with
  | nil => simp
  | cons x l => simp [h x (by simp)]
theorem flat_headD {a b i : Nat} : (flatW a b i).headD [] = [] ↔ flatW a b i = [] := headD_nil fun w hw e => by
  have := flatW_len hw
  rw [e] at this
  simp at this
def FrM (a b many : Int) : Prop := Frac a b ∧ 1 ≤ many ∧ many ≤ 3
instance (a b many : Int) : Decidable (FrM a b many) := inferInstanceAs (Decidable (_ ∧ _ ∧ _))
def wayC (a b many : Int) : Int := if FrM a b many then ((ways (many.toNat - 1) a.toNat b.toNat 2).length : Int) else 0
def wayE (a b many : Int) : Int := if FrM a b many then 0 else 1
def fewL (a b : Int) : List Nat := if Frac a b then bestW a.toNat b.toNat else []
def fewE (a b : Int) : Int := if Frac a b then (if bestW a.toNat b.toNat = [] then 12 else 0) else 1
theorem fewL_len (a b : Int) : (fewL a b).length < 1000 := by
  unfold fewL
  split
  · unfold bestW
    cases h : flatW a.toNat b.toNat 3 with
    | nil => simp
    | cons x l =>
      have := flatW_len (a := a.toNat) (b := b.toNat) (i := 3) (w := x) (by rw [h]; simp)
      simp only [List.headD_cons]
      omega
  · simp
theorem ways_le {a b n : Nat} (ha : 0 < a) (hb : b ≤ 30) (hn : n ≤ 2) : (ways n a b 2).length ≤ 180000 := by
  match n, hn with
  | 0, _ => exact Nat.le_trans (ways0_len a b 2) (by omega)
  | 1, _ => exact Nat.le_trans (ways1_len a b 2) (by omega)
  | 2, _ => exact ways2_len ha hb
theorem pow_bound {b n : Nat} (hb : b ≤ 30) (hn : n ≤ 2) : b * 2001 ^ n ≤ 200000000 := by
  have h1 : 2001 ^ n ≤ 2001 ^ 2 := Nat.pow_le_pow_right (by omega) hn
  have h2 : b * 2001 ^ n ≤ 30 * 2001 ^ 2 := Nat.mul_le_mul hb h1
  omega
/-- A reduced fraction. -/
theorem red_facts {a b : Nat} (h : Frac a b) : 0 < a / Nat.gcd a b ∧ a / Nat.gcd a b ≤ b / Nat.gcd a b ∧ b / Nat.gcd a b ≤ 30 ∧ 0 < b ∧ Nat.gcd (a / Nat.gcd a b) (b / Nat.gcd a b) = 1 := by
  obtain ⟨h1, h2, h3⟩ := h
  have hb : 0 < b := by omega
  have hg : 0 < Nat.gcd a b := Nat.gcd_pos_of_pos_right _ hb
  exact ⟨Nat.div_pos (Nat.le_of_dvd (by omega) (Nat.gcd_dvd_left _ _)) hg, Nat.div_le_div_right (by omega), Nat.le_trans (Nat.div_le_self _ _) (by omega), hb, gcd_red hb⟩
section
variable {lf n L : Nat} {m : Mem} {k : Value → Mem → Option Unit}
theorem ways30_sp {a b many : Int} (hlf : 1000000 ≤ lf) (hT : TabOk mTab m) (hL : L ≤ m.next) (hk : ∀ m', Gt m m' → k (.tuple ⟨[.int .i64 (wayC a b many), .int .i64 (wayE a b many)]⟩) m' = some ()) :
    runT (tab lf) (n + 20) 30 [frV a b, .int .i64 many] L m k = some () := by
  rw [r30]; dsimp only [S30, iofNat, inegSucc]
  have g1 := Mem.gt_push m ⟨1, [.int .i64 a, .int .i64 b], none⟩
  have hA : At (m.push ⟨1, [.int .i64 a, .int .i64 b], none⟩) m.next [.int .i64 a, .int .i64 b] := At.push m _
  unfold frV
  rw [uc_e, uc_e, un0_e, abox_e, oRes_e, cells_agg]
  generalize m.push ⟨1, [.int .i64 a, .int .i64 b], none⟩ = m1 at g1 hA ⊢
  unfold ptrTo
  have g1n := g1.next
  rw [ldN_u, hA.rd, show rdn (some ⟨1, [.int .i64 a, .int .i64 b], none⟩) 0 2 = some (frV a b) from rfl, oOpt_e]
  by_cases hf : Frac a b
  · obtain ⟨A, rfl⟩ : ∃ A : Nat, a = (A : Int) := ⟨a.toNat, by have := hf.1; omega⟩
    obtain ⟨B, rfl⟩ : ∃ B : Nat, b = (B : Int) := ⟨b.toNat, by have := hf.1; have := hf.2.1; omega⟩
    refine opened_sp hlf (hT.mono g1) (by omega) hf fun m2 e2 => ?_
    have e2n := e2.next
    obtain ⟨r1, r2, r3, r4, r5⟩ := red_facts hf
    have hred : ∀ j, ways j (A / Nat.gcd A B) (B / Nat.gcd A B) 2 = ways j A B 2 := fun j => ways_red j 2 r4
    generalize A / Nat.gcd A B = x at *
    generalize B / Nat.gcd A B = y at *
    unfold frV
    have d0 : decide ((0 : Int) = 0) = true := by decide
    try simp (disch := first | omega | with_unfolding_all exact id rfl | with_unfolding_all exact Nat.le_of_ble_eq_true rfl | (simp only [Mem.push_next, Mem.put_next, List.length_cons, List.length_nil, Nat.zero_add, Nat.reduceAdd, allOne, oneCell, Bool.and_self, Bool.and_true]; first | done | omega)) only [d0, ↓uc_e, ↓un0_e, oOpt_e, oRes_e, oIf_t, oIf_f, oGT_t, oGT_f, oGT_u, oGF_t, oGF_f, oGF_u, oPick_t, oPick_f, oInt_eql, oInt_neq, oInt_lss, oInt_leq, oInt_gtr, oInt_geq, aun_not, aextract_e, fa_e, abox_e, ptrTo, oCallV_e, decide_true, decide_false, Bool.not_true, Bool.not_false, List.getElem?_cons_zero, List.getElem?_cons_succ, List.cons_append, List.nil_append, cells_agg, cells_int, cells_slice, cells_bool, cells_ptr, ld1_u, ldN_u, st1_u, rdo_e, rdn_e, stw_e, anew_eq, Mem.push_next, Mem.put_next, Mem.rd_push, Mem.rd_push_eq, Mem.rd_push_lt, Mem.rd_put_eq, Mem.rd_put, List.take_zero, List.drop_zero, List.take_succ_cons, List.drop_succ_cons, List.drop_nil, List.take_nil, List.append_nil, List.length_cons, List.length_nil, Nat.zero_add, Nat.reduceAdd]
    refine within_sp ?_
    by_cases hm : 1 ≤ many ∧ many ≤ 3
    · obtain ⟨j, rfl⟩ : ∃ j : Nat, many = ((j + 1 : Nat) : Int) := ⟨many.toNat - 1, by omega⟩
      rw [decide_eq_true hm]
      have hg2 : Gt m2 ((m2.push ⟨1, [.int .i64 0, .int .i64 0], none⟩).put m2.next (some ⟨1, [.int .i64 (x : Int), .int .i64 (y : Int)], none⟩)) := Mem.put_gt (Mem.gt_push _ _) _ (Nat.le_refl _)
      have hB : At ((m2.push ⟨1, [.int .i64 0, .int .i64 0], none⟩).put m2.next (some ⟨1, [.int .i64 (x : Int), .int .i64 (y : Int)], none⟩)) m2.next [.int .i64 (x : Int), .int .i64 (y : Int)] := Mem.rd_put_eq _ _ (by rw [Mem.push_next]; omega)
      generalize (m2.push ⟨1, [.int .i64 0, .int .i64 0], none⟩).put m2.next (some ⟨1, [.int .i64 (x : Int), .int .i64 (y : Int)], none⟩) = m3 at hg2 hB ⊢
      have hltB := hB.lt
      try simp (disch := first | omega | with_unfolding_all exact id rfl | with_unfolding_all exact Nat.le_of_ble_eq_true rfl | (simp only [Mem.push_next, Mem.put_next, List.length_cons, List.length_nil, Nat.zero_add, Nat.reduceAdd, allOne, oneCell, Bool.and_self, Bool.and_true]; first | done | omega)) only [hB.rd, ↓uc_e, ↓un0_e, oOpt_e, oRes_e, oIf_t, oIf_f, oGT_t, oGT_f, oGT_u, oGF_t, oGF_f, oGF_u, oPick_t, oPick_f, oInt_eql, oInt_neq, oInt_lss, oInt_leq, oInt_gtr, oInt_geq, aun_not, aextract_e, fa_e, abox_e, ptrTo, oCallV_e, decide_true, decide_false, Bool.not_true, Bool.not_false, List.getElem?_cons_zero, List.getElem?_cons_succ, List.cons_append, List.nil_append, cells_agg, cells_int, cells_slice, cells_bool, cells_ptr, ld1_u, ldN_u, st1_u, rdo_e, rdn_e, stw_e, anew_eq, Mem.push_next, Mem.put_next, Mem.rd_push, Mem.rd_push_eq, Mem.rd_push_lt, Mem.rd_put_eq, Mem.rd_put, List.take_zero, List.drop_zero, List.take_succ_cons, List.drop_succ_cons, List.drop_nil, List.take_nil, List.append_nil, List.length_cons, List.length_nil, Nat.zero_add, Nat.reduceAdd]
      have hg3 : Gt m3 ((m3.push ⟨1, [.int .i64 0], none⟩).put m3.next (some ⟨1, [.int .i64 0], none⟩)) := Mem.put_gt (Mem.gt_push _ _) _ (Nat.le_refl _)
      have hX : At ((m3.push ⟨1, [.int .i64 0], none⟩).put m3.next (some ⟨1, [.int .i64 0], none⟩)) m3.next [.int .i64 0] := Mem.rd_put_eq _ _ (by rw [Mem.push_next]; omega)
      generalize (m3.push ⟨1, [.int .i64 0], none⟩).put m3.next (some ⟨1, [.int .i64 0], none⟩) = m4 at hg3 hX ⊢
      have hlt := hX.lt
      have hg2n := hg2.next
      rw [show n + 19 = (n + 16 - j) + j + 3 by omega]
      refine made_sp (L := L) (g := 64) (xb := m3.next) (c := true) (J := fun seen m' => At m' m3.next [.int .i64 (seen.length : Int)]) hlf (by omega) (fun _ _ _ h e => h.mono e) ?_ j (parts := []) (seen := []) (by omega) r1 r2 (pow_bound r3 (by omega)) (by simp; omega) (fun p hp => by cases hp) (GN.nil _ _) (fun e => by cases e) (by omega) hX ?_ fun m5 e5 hj5 => ?_
      · intro n m' k' u w seen hLx hs hj hu hub hk'
        have hlt' := hj.lt
        rw [r64]; dsimp only [S64, iofNat, inegSucc]
        have hadd : ∀ K : Value → Option Unit, oInt .add .i64 (.int .i64 (seen.length : Int)) (.int .i64 1) K = K (.int .i64 (((seen ++ [w]).length : Nat) : Int)) := fun K => by rw [oInt_add ⟨by omega, by omega⟩, List.length_append]; rfl
        rw [uc_e, uc_e, un0_e, ld1_u, hj.rd, show rdo (some ⟨1, [.int .i64 (seen.length : Int)], none⟩) 0 = some (.int .i64 (seen.length : Int)) from rfl, oOpt_e, hadd, st_int hj.rd (by simp) hLx, oRes_e]
        exact hk' _ (GtB.put ⟨Nat.le_refl _, fun _ _ _ => rfl⟩ _) (Mem.rd_put_eq _ _ hlt')
      · have := ways_le r1 r3 (show j ≤ 2 by omega)
        show 0 + (ways j x y 2).length ≤ 1000000000
        omega
      · have h9 : takenW true ((ways j x y (frN [])).map (([] : List Nat) ++ ·)) = (ways j x y 2).map (([] : List Nat) ++ ·) := rfl
        rw [h9, List.nil_append, List.length_map, hred] at hj5
        have G5 : Gt m m5 := GtB.gt (((g1.trans e2).trans hg2).trans hg3) e5 (by omega)
        have hkk := hk m5 G5
        have hfm : FrM (A : Int) (B : Int) ((j + 1 : Nat) : Int) := ⟨hf, hm⟩
        unfold wayC wayE at hkk
        rw [if_pos hfm, if_pos hfm, Int.toNat_natCast, Int.toNat_natCast, Int.toNat_natCast, Nat.add_sub_cancel] at hkk
        rw [hj5.rd, show rdo (some ⟨1, [.int .i64 ((ways j A B 2).length : Int)], none⟩) 0 = some (.int .i64 ((ways j A B 2).length : Int)) from rfl, oOpt_e]
        exact hkk
    · rw [decide_eq_false hm]
      try simp (disch := first | omega | with_unfolding_all exact id rfl | with_unfolding_all exact Nat.le_of_ble_eq_true rfl | (simp only [Mem.push_next, Mem.put_next, List.length_cons, List.length_nil, Nat.zero_add, Nat.reduceAdd, allOne, oneCell, Bool.and_self, Bool.and_true]; first | done | omega)) only [↓uc_e, ↓un0_e, oOpt_e, oRes_e, oIf_t, oIf_f, oGT_t, oGT_f, oGT_u, oGF_t, oGF_f, oGF_u, oPick_t, oPick_f, oInt_eql, oInt_neq, oInt_lss, oInt_leq, oInt_gtr, oInt_geq, aun_not, aextract_e, fa_e, abox_e, ptrTo, oCallV_e, decide_true, decide_false, Bool.not_true, Bool.not_false, List.getElem?_cons_zero, List.getElem?_cons_succ, List.cons_append, List.nil_append, cells_agg, cells_int, cells_slice, cells_bool, cells_ptr, ld1_u, ldN_u, st1_u, rdo_e, rdn_e, stw_e, anew_eq, Mem.push_next, Mem.put_next, Mem.rd_push, Mem.rd_push_eq, Mem.rd_push_lt, Mem.rd_put_eq, Mem.rd_put, List.take_zero, List.drop_zero, List.take_succ_cons, List.drop_succ_cons, List.drop_nil, List.take_nil, List.append_nil, List.length_cons, List.length_nil, Nat.zero_add, Nat.reduceAdd]
      have hkk := hk _ ((g1.trans e2).trans (Mem.put_gt (Mem.gt_push m2 ⟨1, [.int .i64 0, .int .i64 0], none⟩) (b := m2.next) (some ⟨1, [.int .i64 (x : Int), .int .i64 (y : Int)], none⟩) (Nat.le_refl _)))
      unfold wayC wayE at hkk
      rw [if_neg (fun h => hm h.2), if_neg (fun h => hm h.2)] at hkk
      exact hkk
  · refine opened_err (by omega) hf fun m2 e2 => ?_
    have e2n := e2.next
    unfold frV
    have d1 : decide ((1 : Int) = 0) = false := by decide
    try simp (disch := first | omega | with_unfolding_all exact id rfl | with_unfolding_all exact Nat.le_of_ble_eq_true rfl | (simp only [Mem.push_next, Mem.put_next, List.length_cons, List.length_nil, Nat.zero_add, Nat.reduceAdd, allOne, oneCell, Bool.and_self, Bool.and_true]; first | done | omega)) only [d1, ↓uc_e, ↓un0_e, oOpt_e, oRes_e, oIf_t, oIf_f, oGT_t, oGT_f, oGT_u, oGF_t, oGF_f, oGF_u, oPick_t, oPick_f, oInt_eql, oInt_neq, oInt_lss, oInt_leq, oInt_gtr, oInt_geq, aun_not, aextract_e, fa_e, abox_e, ptrTo, oCallV_e, decide_true, decide_false, Bool.not_true, Bool.not_false, List.getElem?_cons_zero, List.getElem?_cons_succ, List.cons_append, List.nil_append, cells_agg, cells_int, cells_slice, cells_bool, cells_ptr, ld1_u, ldN_u, st1_u, rdo_e, rdn_e, stw_e, anew_eq, Mem.push_next, Mem.put_next, Mem.rd_push, Mem.rd_push_eq, Mem.rd_push_lt, Mem.rd_put_eq, Mem.rd_put, List.take_zero, List.drop_zero, List.take_succ_cons, List.drop_succ_cons, List.drop_nil, List.take_nil, List.append_nil, List.length_cons, List.length_nil, Nat.zero_add, Nat.reduceAdd]
    have hkk := hk _ ((g1.trans e2).trans (Mem.put_gt (Mem.gt_push m2 ⟨1, [.int .i64 0, .int .i64 0], none⟩) (b := m2.next) (some ⟨1, [.int .i64 0, .int .i64 0], none⟩) (Nat.le_refl _)))
    unfold wayC wayE at hkk
    rw [if_neg (fun h => hf h.1), if_neg (fun h => hf h.1)] at hkk
    exact hkk
theorem ways31_sp {a b many : Int} (hlf : 1000000 ≤ lf) (hL : L ≤ m.next) (hk : ∀ m', Gt m m' → k (.tuple ⟨[.int .i64 (wayC a b many), .int .i64 (wayE a b many)]⟩) m' = some ()) :
    runT (tab lf) (n + 20) 31 [frV a b, .int .i64 many] L m k = some () := by
  rw [r31]; dsimp only [S31, iofNat, inegSucc]
  have g1 := Mem.gt_push m ⟨1, [.int .i64 a, .int .i64 b], none⟩
  have hA : At (m.push ⟨1, [.int .i64 a, .int .i64 b], none⟩) m.next [.int .i64 a, .int .i64 b] := At.push m _
  unfold frV
  rw [uc_e, uc_e, un0_e, abox_e, oRes_e, cells_agg]
  generalize m.push ⟨1, [.int .i64 a, .int .i64 b], none⟩ = m1 at g1 hA ⊢
  unfold ptrTo
  have g1n := g1.next
  rw [ldN_u, hA.rd, show rdn (some ⟨1, [.int .i64 a, .int .i64 b], none⟩) 0 2 = some (frV a b) from rfl, oOpt_e]
  refine check22_sp fun m2 e2 => ?_
  have e2n := e2.next
  have hA2 := hA.mono e2
  have G2 := g1.trans e2
  have d10 : decide ((1 : Int) = 0) = false := by decide
  have d00 : decide ((0 : Int) = 0) = true := by decide
  by_cases hf : Frac a b
  · rw [show frE a b = 0 from if_pos hf]
    try simp (disch := first | omega | with_unfolding_all exact id rfl | with_unfolding_all exact Nat.le_of_ble_eq_true rfl | (simp only [Mem.push_next, Mem.put_next, List.length_cons, List.length_nil, Nat.zero_add, Nat.reduceAdd, allOne, oneCell, Bool.and_self, Bool.and_true]; first | done | omega)) only [d00, ↓uc_e, ↓un0_e, oOpt_e, oRes_e, oIf_t, oIf_f, oGT_t, oGT_f, oGT_u, oGF_t, oGF_f, oGF_u, oPick_t, oPick_f, oInt_eql, oInt_neq, oInt_lss, oInt_leq, oInt_gtr, oInt_geq, aun_not, aextract_e, fa_e, abox_e, ptrTo, oCallV_e, decide_true, decide_false, Bool.not_true, Bool.not_false, List.getElem?_cons_zero, List.getElem?_cons_succ, List.cons_append, List.nil_append, cells_agg, cells_int, cells_slice, cells_bool, cells_ptr, ld1_u, ldN_u, st1_u, rdo_e, rdn_e, stw_e, anew_eq, Mem.push_next, Mem.put_next, Mem.rd_push, Mem.rd_push_eq, Mem.rd_push_lt, Mem.rd_put_eq, Mem.rd_put, List.take_zero, List.drop_zero, List.take_succ_cons, List.drop_succ_cons, List.drop_nil, List.take_nil, List.append_nil, List.length_cons, List.length_nil, Nat.zero_add, Nat.reduceAdd]
    repeat (rw [join_e]; try simp (disch := first | omega | with_unfolding_all exact id rfl | with_unfolding_all exact Nat.le_of_ble_eq_true rfl | (simp only [Mem.push_next, Mem.put_next, List.length_cons, List.length_nil, Nat.zero_add, Nat.reduceAdd, allOne, oneCell, Bool.and_self, Bool.and_true]; first | done | omega)) only [d00, ↓uc_e, ↓un0_e, oOpt_e, oRes_e, oIf_t, oIf_f, oGT_t, oGT_f, oGT_u, oGF_t, oGF_f, oGF_u, oPick_t, oPick_f, oInt_eql, oInt_neq, oInt_lss, oInt_leq, oInt_gtr, oInt_geq, aun_not, aextract_e, fa_e, abox_e, ptrTo, oCallV_e, decide_true, decide_false, Bool.not_true, Bool.not_false, List.getElem?_cons_zero, List.getElem?_cons_succ, List.cons_append, List.nil_append, cells_agg, cells_int, cells_slice, cells_bool, cells_ptr, ld1_u, ldN_u, st1_u, rdo_e, rdn_e, stw_e, anew_eq, Mem.push_next, Mem.put_next, Mem.rd_push, Mem.rd_push_eq, Mem.rd_push_lt, Mem.rd_put_eq, Mem.rd_put, List.take_zero, List.drop_zero, List.take_succ_cons, List.drop_succ_cons, List.drop_nil, List.take_nil, List.append_nil, List.length_cons, List.length_nil, Nat.zero_add, Nat.reduceAdd])
    refine in_sp ?_
    by_cases hm : 1 ≤ many ∧ many ≤ 3
    · rw [decide_eq_true hm]
      have hfm : FrM a b many := ⟨hf, hm⟩
      have hkk := fun m' e => hk m' e
      unfold wayC wayE at hkk
      simp only [if_pos hfm] at hkk
      obtain ⟨j, rfl⟩ : ∃ j : Nat, many = ((j + 1 : Nat) : Int) := ⟨many.toNat - 1, by omega⟩
      obtain ⟨A, rfl⟩ : ∃ A : Nat, a = (A : Int) := ⟨a.toNat, by have := hf.1; omega⟩
      obtain ⟨B, rfl⟩ : ∃ B : Nat, b = (B : Int) := ⟨b.toNat, by have := hf.1; have := hf.2.1; omega⟩
      simp only [Int.toNat_natCast, Nat.add_sub_cancel] at hkk
      obtain ⟨r1, r2, r3, r4, r5⟩ := red_facts hf
      have hred : ∀ j, ways j (A / Nat.gcd A B) (B / Nat.gcd A B) 2 = ways j A B 2 := fun j => ways_red j 2 r4
      have hB30 : B ≤ 30 := by have := hf.2.2; omega
      have hA30 : A < B := by have := hf.2.1; omega
      have h60 : (2 : Nat) ^ 60 = 1152921504606846976 := by decide
      try simp (disch := first | omega | with_unfolding_all exact id rfl | with_unfolding_all exact Nat.le_of_ble_eq_true rfl | (simp only [Mem.push_next, Mem.put_next, List.length_cons, List.length_nil, Nat.zero_add, Nat.reduceAdd, allOne, oneCell, Bool.and_self, Bool.and_true]; first | done | omega)) only [d00, hA2.rd, ↓uc_e, ↓un0_e, oOpt_e, oRes_e, oIf_t, oIf_f, oGT_t, oGT_f, oGT_u, oGF_t, oGF_f, oGF_u, oPick_t, oPick_f, oInt_eql, oInt_neq, oInt_lss, oInt_leq, oInt_gtr, oInt_geq, aun_not, aextract_e, fa_e, abox_e, ptrTo, oCallV_e, decide_true, decide_false, Bool.not_true, Bool.not_false, List.getElem?_cons_zero, List.getElem?_cons_succ, List.cons_append, List.nil_append, cells_agg, cells_int, cells_slice, cells_bool, cells_ptr, ld1_u, ldN_u, st1_u, rdo_e, rdn_e, stw_e, anew_eq, Mem.push_next, Mem.put_next, Mem.rd_push, Mem.rd_push_eq, Mem.rd_push_lt, Mem.rd_put_eq, Mem.rd_put, List.take_zero, List.drop_zero, List.take_succ_cons, List.drop_succ_cons, List.drop_nil, List.take_nil, List.append_nil, List.length_cons, List.length_nil, Nat.zero_add, Nat.reduceAdd]
      repeat (rw [join_e]; try simp (disch := first | omega | with_unfolding_all exact id rfl | with_unfolding_all exact Nat.le_of_ble_eq_true rfl | (simp only [Mem.push_next, Mem.put_next, List.length_cons, List.length_nil, Nat.zero_add, Nat.reduceAdd, allOne, oneCell, Bool.and_self, Bool.and_true]; first | done | omega)) only [d00, hA2.rd, ↓uc_e, ↓un0_e, oOpt_e, oRes_e, oIf_t, oIf_f, oGT_t, oGT_f, oGT_u, oGF_t, oGF_f, oGF_u, oPick_t, oPick_f, oInt_eql, oInt_neq, oInt_lss, oInt_leq, oInt_gtr, oInt_geq, aun_not, aextract_e, fa_e, abox_e, ptrTo, oCallV_e, decide_true, decide_false, Bool.not_true, Bool.not_false, List.getElem?_cons_zero, List.getElem?_cons_succ, List.cons_append, List.nil_append, cells_agg, cells_int, cells_slice, cells_bool, cells_ptr, ld1_u, ldN_u, st1_u, rdo_e, rdn_e, stw_e, anew_eq, Mem.push_next, Mem.put_next, Mem.rd_push, Mem.rd_push_eq, Mem.rd_push_lt, Mem.rd_put_eq, Mem.rd_put, List.take_zero, List.drop_zero, List.take_succ_cons, List.drop_succ_cons, List.drop_nil, List.take_nil, List.append_nil, List.length_cons, List.length_nil, Nat.zero_add, Nat.reduceAdd])
      refine reduced_sp hlf (by omega) (by omega) (by omega) r4 fun m3 e3 => ?_
      have e3n := e3.next
      generalize A / Nat.gcd A B = x at *
      generalize B / Nat.gcd A B = y at *
      have hwl := ways_le r1 r3 (show j ≤ 2 by omega)
      rw [show n + 19 = (n + 14 - j) + j + 5 by omega, show (1 : Int) = ((1 : Nat) : Int) from rfl]
      refine lists_sp (L := L) hlf j (by omega) (by omega) r1 r2 r5 (pow_bound r3 (by omega)) (by omega) (by show (ways j x y 2).length < 1000000; omega) fun u m4 e4 hu => ?_
      rw [hu.ln, oOpt_e, show 1 + 1 = 2 from rfl, hred]
      exact hkk m4 ((G2.trans e3).trans e4)
    · rw [decide_eq_false hm]
      try simp (disch := first | omega | with_unfolding_all exact id rfl | with_unfolding_all exact Nat.le_of_ble_eq_true rfl | (simp only [Mem.push_next, Mem.put_next, List.length_cons, List.length_nil, Nat.zero_add, Nat.reduceAdd, allOne, oneCell, Bool.and_self, Bool.and_true]; first | done | omega)) only [d10, ↓uc_e, ↓un0_e, oOpt_e, oRes_e, oIf_t, oIf_f, oGT_t, oGT_f, oGT_u, oGF_t, oGF_f, oGF_u, oPick_t, oPick_f, oInt_eql, oInt_neq, oInt_lss, oInt_leq, oInt_gtr, oInt_geq, aun_not, aextract_e, fa_e, abox_e, ptrTo, oCallV_e, decide_true, decide_false, Bool.not_true, Bool.not_false, List.getElem?_cons_zero, List.getElem?_cons_succ, List.cons_append, List.nil_append, cells_agg, cells_int, cells_slice, cells_bool, cells_ptr, ld1_u, ldN_u, st1_u, rdo_e, rdn_e, stw_e, anew_eq, Mem.push_next, Mem.put_next, Mem.rd_push, Mem.rd_push_eq, Mem.rd_push_lt, Mem.rd_put_eq, Mem.rd_put, List.take_zero, List.drop_zero, List.take_succ_cons, List.drop_succ_cons, List.drop_nil, List.take_nil, List.append_nil, List.length_cons, List.length_nil, Nat.zero_add, Nat.reduceAdd]
      repeat (rw [join_e]; try simp (disch := first | omega | with_unfolding_all exact id rfl | with_unfolding_all exact Nat.le_of_ble_eq_true rfl | (simp only [Mem.push_next, Mem.put_next, List.length_cons, List.length_nil, Nat.zero_add, Nat.reduceAdd, allOne, oneCell, Bool.and_self, Bool.and_true]; first | done | omega)) only [d10, ↓uc_e, ↓un0_e, oOpt_e, oRes_e, oIf_t, oIf_f, oGT_t, oGT_f, oGT_u, oGF_t, oGF_f, oGF_u, oPick_t, oPick_f, oInt_eql, oInt_neq, oInt_lss, oInt_leq, oInt_gtr, oInt_geq, aun_not, aextract_e, fa_e, abox_e, ptrTo, oCallV_e, decide_true, decide_false, Bool.not_true, Bool.not_false, List.getElem?_cons_zero, List.getElem?_cons_succ, List.cons_append, List.nil_append, cells_agg, cells_int, cells_slice, cells_bool, cells_ptr, ld1_u, ldN_u, st1_u, rdo_e, rdn_e, stw_e, anew_eq, Mem.push_next, Mem.put_next, Mem.rd_push, Mem.rd_push_eq, Mem.rd_push_lt, Mem.rd_put_eq, Mem.rd_put, List.take_zero, List.drop_zero, List.take_succ_cons, List.drop_succ_cons, List.drop_nil, List.take_nil, List.append_nil, List.length_cons, List.length_nil, Nat.zero_add, Nat.reduceAdd])
      have hkk := hk _ G2
      unfold wayC wayE at hkk
      rw [if_neg (fun h => hm h.2), if_neg (fun h => hm h.2)] at hkk
      exact hkk
  · rw [show frE a b = 1 from if_neg hf]
    try simp (disch := first | omega | with_unfolding_all exact id rfl | with_unfolding_all exact Nat.le_of_ble_eq_true rfl | (simp only [Mem.push_next, Mem.put_next, List.length_cons, List.length_nil, Nat.zero_add, Nat.reduceAdd, allOne, oneCell, Bool.and_self, Bool.and_true]; first | done | omega)) only [d10, ↓uc_e, ↓un0_e, oOpt_e, oRes_e, oIf_t, oIf_f, oGT_t, oGT_f, oGT_u, oGF_t, oGF_f, oGF_u, oPick_t, oPick_f, oInt_eql, oInt_neq, oInt_lss, oInt_leq, oInt_gtr, oInt_geq, aun_not, aextract_e, fa_e, abox_e, ptrTo, oCallV_e, decide_true, decide_false, Bool.not_true, Bool.not_false, List.getElem?_cons_zero, List.getElem?_cons_succ, List.cons_append, List.nil_append, cells_agg, cells_int, cells_slice, cells_bool, cells_ptr, ld1_u, ldN_u, st1_u, rdo_e, rdn_e, stw_e, anew_eq, Mem.push_next, Mem.put_next, Mem.rd_push, Mem.rd_push_eq, Mem.rd_push_lt, Mem.rd_put_eq, Mem.rd_put, List.take_zero, List.drop_zero, List.take_succ_cons, List.drop_succ_cons, List.drop_nil, List.take_nil, List.append_nil, List.length_cons, List.length_nil, Nat.zero_add, Nat.reduceAdd]
    repeat (rw [join_e]; try simp (disch := first | omega | with_unfolding_all exact id rfl | with_unfolding_all exact Nat.le_of_ble_eq_true rfl | (simp only [Mem.push_next, Mem.put_next, List.length_cons, List.length_nil, Nat.zero_add, Nat.reduceAdd, allOne, oneCell, Bool.and_self, Bool.and_true]; first | done | omega)) only [d10, ↓uc_e, ↓un0_e, oOpt_e, oRes_e, oIf_t, oIf_f, oGT_t, oGT_f, oGT_u, oGF_t, oGF_f, oGF_u, oPick_t, oPick_f, oInt_eql, oInt_neq, oInt_lss, oInt_leq, oInt_gtr, oInt_geq, aun_not, aextract_e, fa_e, abox_e, ptrTo, oCallV_e, decide_true, decide_false, Bool.not_true, Bool.not_false, List.getElem?_cons_zero, List.getElem?_cons_succ, List.cons_append, List.nil_append, cells_agg, cells_int, cells_slice, cells_bool, cells_ptr, ld1_u, ldN_u, st1_u, rdo_e, rdn_e, stw_e, anew_eq, Mem.push_next, Mem.put_next, Mem.rd_push, Mem.rd_push_eq, Mem.rd_push_lt, Mem.rd_put_eq, Mem.rd_put, List.take_zero, List.drop_zero, List.take_succ_cons, List.drop_succ_cons, List.drop_nil, List.take_nil, List.append_nil, List.length_cons, List.length_nil, Nat.zero_add, Nat.reduceAdd])
    have hkk := hk _ G2
    unfold wayC wayE at hkk
    rw [if_neg (fun h => hf h.1), if_neg (fun h => hf h.1)] at hkk
    exact hkk
theorem fewest29_sp {a b : Int} (hlf : 1000000 ≤ lf) (hL : L ≤ m.next) (hk : ∀ u m', Gt m m' → IN m' u (fewL a b) → k (.tuple ⟨[u, .int .i64 (fewE a b)]⟩) m' = some ()) :
    runT (tab lf) (n + 20) 29 [frV a b] L m k = some () := by
  rw [r29]; dsimp only [S29, iofNat, inegSucc]
  have g1 := Mem.gt_push m ⟨1, [.int .i64 a, .int .i64 b], none⟩
  have hA : At (m.push ⟨1, [.int .i64 a, .int .i64 b], none⟩) m.next [.int .i64 a, .int .i64 b] := At.push m _
  unfold frV
  rw [uc_e, un0_e, abox_e, oRes_e, cells_agg]
  generalize m.push ⟨1, [.int .i64 a, .int .i64 b], none⟩ = m1 at g1 hA ⊢
  unfold ptrTo
  have g1n := g1.next
  rw [ldN_u, hA.rd, show rdn (some ⟨1, [.int .i64 a, .int .i64 b], none⟩) 0 2 = some (frV a b) from rfl, oOpt_e]
  refine check22_sp fun m2 e2 => ?_
  have e2n := e2.next
  have hA2 := hA.mono e2
  have G2 := g1.trans e2
  have d10 : decide ((1 : Int) = 0) = false := by decide
  have d00 : decide ((0 : Int) = 0) = true := by decide
  by_cases hf : Frac a b
  · rw [show frE a b = 0 from if_pos hf]
    have hkk := fun u m' e => hk u m' e
    unfold fewL fewE at hkk
    simp only [if_pos hf] at hkk
    obtain ⟨A, rfl⟩ : ∃ A : Nat, a = (A : Int) := ⟨a.toNat, by have := hf.1; omega⟩
    obtain ⟨B, rfl⟩ : ∃ B : Nat, b = (B : Int) := ⟨b.toNat, by have := hf.1; have := hf.2.1; omega⟩
    simp only [Int.toNat_natCast] at hkk
    obtain ⟨r1, r2, r3, r4, r5⟩ := red_facts hf
    have hred : ∀ j, ways j (A / Nat.gcd A B) (B / Nat.gcd A B) 2 = ways j A B 2 := fun j => ways_red j 2 r4
    have hB30 : B ≤ 30 := by have := hf.2.2; omega
    have hA30 : A < B := by have := hf.2.1; omega
    have h60 : (2 : Nat) ^ 60 = 1152921504606846976 := by decide
    try simp (disch := first | omega | with_unfolding_all exact id rfl | with_unfolding_all exact Nat.le_of_ble_eq_true rfl | (simp only [Mem.push_next, Mem.put_next, List.length_cons, List.length_nil, Nat.zero_add, Nat.reduceAdd, allOne, oneCell, Bool.and_self, Bool.and_true]; first | done | omega)) only [d00, ↓uc_e, ↓un0_e, oOpt_e, oRes_e, oIf_t, oIf_f, oGT_t, oGT_f, oGT_u, oGF_t, oGF_f, oGF_u, oPick_t, oPick_f, oInt_eql, oInt_neq, oInt_lss, oInt_leq, oInt_gtr, oInt_geq, aun_not, aextract_e, fa_e, abox_e, ptrTo, oCallV_e, decide_true, decide_false, Bool.not_true, Bool.not_false, List.getElem?_cons_zero, List.getElem?_cons_succ, List.cons_append, List.nil_append, cells_agg, cells_int, cells_slice, cells_bool, cells_ptr, ld1_u, ldN_u, st1_u, rdo_e, rdn_e, stw_e, anew_eq, Mem.push_next, Mem.put_next, Mem.rd_push, Mem.rd_push_eq, Mem.rd_push_lt, Mem.rd_put_eq, Mem.rd_put, List.take_zero, List.drop_zero, List.take_succ_cons, List.drop_succ_cons, List.drop_nil, List.take_nil, List.append_nil, List.length_cons, List.length_nil, Nat.zero_add, Nat.reduceAdd]
    refine loop_up 3 (fun i vs m' => vs = [.int .i64 ((i + 1 : Nat) : Int)] ∧ Gt m m' ∧ At m' m.next [.int .i64 (A : Int), .int .i64 (B : Int)] ∧ flatW A B i = []) (by omega) ⟨rfl, G2, hA2, rfl⟩ ?_
    rintro i vs m3 hi ⟨rfl, e3, hA3, hfl⟩ self hself
    have e3n := e3.next
    rw [uc_e, oInt_leq]
    refine oIf_dec (fun h3 => ?_) (fun h3 => ?_)
    · have hi3 : i < 3 := by omega
      try simp (disch := first | omega | with_unfolding_all exact id rfl | with_unfolding_all exact Nat.le_of_ble_eq_true rfl | (simp only [Mem.push_next, Mem.put_next, List.length_cons, List.length_nil, Nat.zero_add, Nat.reduceAdd, allOne, oneCell, Bool.and_self, Bool.and_true]; first | done | omega)) only [hA3.rd, ↓uc_e, ↓un0_e, oOpt_e, oRes_e, oIf_t, oIf_f, oGT_t, oGT_f, oGT_u, oGF_t, oGF_f, oGF_u, oPick_t, oPick_f, oInt_eql, oInt_neq, oInt_lss, oInt_leq, oInt_gtr, oInt_geq, aun_not, aextract_e, fa_e, abox_e, ptrTo, oCallV_e, decide_true, decide_false, Bool.not_true, Bool.not_false, List.getElem?_cons_zero, List.getElem?_cons_succ, List.cons_append, List.nil_append, cells_agg, cells_int, cells_slice, cells_bool, cells_ptr, ld1_u, ldN_u, st1_u, rdo_e, rdn_e, stw_e, anew_eq, Mem.push_next, Mem.put_next, Mem.rd_push, Mem.rd_push_eq, Mem.rd_push_lt, Mem.rd_put_eq, Mem.rd_put, List.take_zero, List.drop_zero, List.take_succ_cons, List.drop_succ_cons, List.drop_nil, List.take_nil, List.append_nil, List.length_cons, List.length_nil, Nat.zero_add, Nat.reduceAdd]
      refine reduced_sp hlf (by omega) (by omega) (by omega) r4 fun m4 e4 => ?_
      have e4n := e4.next
      generalize A / Nat.gcd A B = x at *
      generalize B / Nat.gcd A B = y at *
      have hwl := ways_le r1 r3 (show i ≤ 2 by omega)
      have hw2 := hred i
      have hlists := lists_sp (lf := lf) (L := L) hlf i (a := x) (b := y) (last := 1) (N := n + 14 - i) (m := m4) (by omega) (by omega) r1 r2 r5 (pow_bound r3 (by omega)) (by omega) (by show (ways i x y 2).length < 1000000; omega) (k := ?_) ?_
      rw [show (n + 14 - i) + i + 5 = n + 19 by omega] at hlists
      exact hlists
      intro u m5 e5 hu
      rw [show 1 + 1 = 2 from rfl, hw2] at hu
      have e5n := e5.next
      rw [hu.ln, oOpt_e, oInt_gtr]
      refine oIf_dec (fun h0 => ?_) (fun h0 => ?_)
      · have hpos : 0 < (ways i A B 2).length := by omega
        obtain ⟨v, k1, k2, _⟩ := hu.lr.ld hpos
        have hia := hu.lr.ia hpos
        rw [show (0 : Int) = ((0 : Nat) : Int) from rfl, hia, oOpt_e, k1, oOpt_e]
        have hb : (ways i A B 2)[0] = bestW A B := by
          rw [← flatW_pre (i := i + 1) (by omega)]
          · show _ = (flatW A B i ++ ways i A B 2).headD []
            rw [hfl, List.nil_append]
            exact head_get hpos
          · show flatW A B i ++ ways i A B 2 ≠ []
            intro h
            rw [List.append_eq_nil_iff] at h
            rw [h.2] at hpos; cases hpos
        have hne : bestW A B ≠ [] := by
          rw [← hb]
          exact ways_ne (List.getElem_mem hpos)
        rw [hb] at k2
        have := hkk v m5 ((e3.trans e4).trans e5) k2
        rw [if_neg hne] at this
        exact this
      · have hnil : ways i A B 2 = [] := List.length_eq_zero_iff.1 (by omega)
        rw [oInt_add ⟨by omega, by omega⟩]
        refine hself hi3 _ _ ⟨rfl, (e3.trans e4).trans e5, (hA3.mono e4).mono e5, ?_⟩
        show flatW A B i ++ ways i A B 2 = []
        rw [hfl, hnil]; rfl
    · have hi3 : i = 3 := by omega
      subst hi3
      have hb : bestW A B = [] := by unfold bestW; rw [hfl]; rfl
      have := hkk (.slice none 0 0) m3 e3
      rw [if_pos hb] at this
      refine this ?_
      rw [hb]
      exact IL.nil _
  · rw [show frE a b = 1 from if_neg hf]
    have hkk := hk (.slice none 0 0) _ G2
    unfold fewL fewE at hkk
    rw [if_neg hf, if_neg hf] at hkk
    try simp (disch := first | omega | with_unfolding_all exact id rfl | with_unfolding_all exact Nat.le_of_ble_eq_true rfl | (simp only [Mem.push_next, Mem.put_next, List.length_cons, List.length_nil, Nat.zero_add, Nat.reduceAdd, allOne, oneCell, Bool.and_self, Bool.and_true]; first | done | omega)) only [d10, ↓uc_e, ↓un0_e, oOpt_e, oRes_e, oIf_t, oIf_f, oGT_t, oGT_f, oGT_u, oGF_t, oGF_f, oGF_u, oPick_t, oPick_f, oInt_eql, oInt_neq, oInt_lss, oInt_leq, oInt_gtr, oInt_geq, aun_not, aextract_e, fa_e, abox_e, ptrTo, oCallV_e, decide_true, decide_false, Bool.not_true, Bool.not_false, List.getElem?_cons_zero, List.getElem?_cons_succ, List.cons_append, List.nil_append, cells_agg, cells_int, cells_slice, cells_bool, cells_ptr, ld1_u, ldN_u, st1_u, rdo_e, rdn_e, stw_e, anew_eq, Mem.push_next, Mem.put_next, Mem.rd_push, Mem.rd_push_eq, Mem.rd_push_lt, Mem.rd_put_eq, Mem.rd_put, List.take_zero, List.drop_zero, List.take_succ_cons, List.drop_succ_cons, List.drop_nil, List.take_nil, List.append_nil, List.length_cons, List.length_nil, Nat.zero_add, Nat.reduceAdd]
    exact hkk (IL.nil _)
theorem last_taken (l : List (List Nat)) : (takenW false (l.map (([] : List Nat) ++ ·))).getLastD [] = l.headD [] := by
  cases l <;> rfl
theorem fewest28_sp {a b : Int} (hlf : 1000000 ≤ lf) (hT : TabOk mTab m) (hL : L ≤ m.next) (hk : ∀ u m', Gt m m' → IN m' u (fewL a b) → k (.tuple ⟨[u, .int .i64 (fewE a b)]⟩) m' = some ()) :
    runT (tab lf) (n + 20) 28 [frV a b] L m k = some () := by
  rw [r28]; dsimp only [S28, iofNat, inegSucc]
  have g1 := Mem.gt_push m ⟨1, [.int .i64 a, .int .i64 b], none⟩
  have hA : At (m.push ⟨1, [.int .i64 a, .int .i64 b], none⟩) m.next [.int .i64 a, .int .i64 b] := At.push m _
  unfold frV
  rw [uc_e, un0_e, abox_e, oRes_e, cells_agg]
  generalize m.push ⟨1, [.int .i64 a, .int .i64 b], none⟩ = m1 at g1 hA ⊢
  unfold ptrTo
  have g1n := g1.next
  rw [ldN_u, hA.rd, show rdn (some ⟨1, [.int .i64 a, .int .i64 b], none⟩) 0 2 = some (frV a b) from rfl, oOpt_e]
  by_cases hf : Frac a b
  · have hkk := fun u m' e => hk u m' e
    unfold fewL fewE at hkk
    simp only [if_pos hf] at hkk
    obtain ⟨A, rfl⟩ : ∃ A : Nat, a = (A : Int) := ⟨a.toNat, by have := hf.1; omega⟩
    obtain ⟨B, rfl⟩ : ∃ B : Nat, b = (B : Int) := ⟨b.toNat, by have := hf.1; have := hf.2.1; omega⟩
    simp only [Int.toNat_natCast] at hkk
    refine opened_sp hlf (hT.mono g1) (by omega) hf fun m2 e2 => ?_
    have e2n := e2.next
    obtain ⟨r1, r2, r3, r4, r5⟩ := red_facts hf
    have hred : ∀ j, ways j (A / Nat.gcd A B) (B / Nat.gcd A B) 2 = ways j A B 2 := fun j => ways_red j 2 r4
    generalize A / Nat.gcd A B = x at *
    generalize B / Nat.gcd A B = y at *
    unfold frV
    have d0 : decide ((0 : Int) = 0) = true := by decide
    try simp (disch := first | omega | with_unfolding_all exact id rfl | with_unfolding_all exact Nat.le_of_ble_eq_true rfl | (simp only [Mem.push_next, Mem.put_next, List.length_cons, List.length_nil, Nat.zero_add, Nat.reduceAdd, allOne, oneCell, Bool.and_self, Bool.and_true]; first | done | omega)) only [d0, ↓uc_e, ↓un0_e, oOpt_e, oRes_e, oIf_t, oIf_f, oGT_t, oGT_f, oGT_u, oGF_t, oGF_f, oGF_u, oPick_t, oPick_f, oInt_eql, oInt_neq, oInt_lss, oInt_leq, oInt_gtr, oInt_geq, aun_not, aextract_e, fa_e, abox_e, ptrTo, oCallV_e, decide_true, decide_false, Bool.not_true, Bool.not_false, List.getElem?_cons_zero, List.getElem?_cons_succ, List.cons_append, List.nil_append, cells_agg, cells_int, cells_slice, cells_bool, cells_ptr, ld1_u, ldN_u, st1_u, rdo_e, rdn_e, stw_e, anew_eq, Mem.push_next, Mem.put_next, Mem.rd_push, Mem.rd_push_eq, Mem.rd_push_lt, Mem.rd_put_eq, Mem.rd_put, List.take_zero, List.drop_zero, List.take_succ_cons, List.drop_succ_cons, List.drop_nil, List.take_nil, List.append_nil, List.length_cons, List.length_nil, Nat.zero_add, Nat.reduceAdd]
    have hg2 : Gt m2 ((m2.push ⟨1, [.int .i64 0, .int .i64 0], none⟩).put m2.next (some ⟨1, [.int .i64 (x : Int), .int .i64 (y : Int)], none⟩)) := Mem.put_gt (Mem.gt_push _ _) _ (Nat.le_refl _)
    have hB : At ((m2.push ⟨1, [.int .i64 0, .int .i64 0], none⟩).put m2.next (some ⟨1, [.int .i64 (x : Int), .int .i64 (y : Int)], none⟩)) m2.next [.int .i64 (x : Int), .int .i64 (y : Int)] := Mem.rd_put_eq _ _ (by rw [Mem.push_next]; omega)
    have hnx : ((m2.push ⟨1, [.int .i64 0, .int .i64 0], none⟩).put m2.next (some ⟨1, [.int .i64 (x : Int), .int .i64 (y : Int)], none⟩)).next = m2.next + 1 := by rw [Mem.put_next, Mem.push_next]
    generalize (m2.push ⟨1, [.int .i64 0, .int .i64 0], none⟩).put m2.next (some ⟨1, [.int .i64 (x : Int), .int .i64 (y : Int)], none⟩) = m3 at hg2 hB hnx ⊢
    have hltB := hB.lt
    have hg3 := Mem.gt_push m3 ⟨1, [.slice none 0 0], none⟩
    have hX : At (m3.push ⟨1, [.slice none 0 0], none⟩) m3.next [.slice none 0 0] := At.push _ _
    rw [← hnx]
    generalize m3.push ⟨1, [.slice none 0 0], none⟩ = m4 at hg3 hX ⊢
    have hlt := hX.lt
    have hg2n := hg2.next
    refine loop_up 3 (fun i vs m' => vs = [.int .i64 ((i + 1 : Nat) : Int)] ∧ Gt m m' ∧ At m' m2.next [.int .i64 (x : Int), .int .i64 (y : Int)] ∧ ∃ u, At m' m3.next [u] ∧ GN 0 m' u ((flatW A B i).headD []) ∧ bid u ≠ some m3.next) (by omega)
      ⟨rfl, (((g1.trans e2).trans hg2).trans hg3), hB.mono hg3, _, hX, GN.nil _ _, fun e => by cases e⟩ ?_
    rintro i vs m5 hi ⟨rfl, e5, hB5, u, hX5, hu, hub⟩ self hself
    have e5n := e5.next
    have hlt5 := hX5.lt
    have hexit : (flatW A B i ≠ [] ∨ i = 3) → oOpt (rdo (m5.rd m3.next) 0) (fun t32 => oOpt (abin Tryd.prog .eql 30 t32 (.slice none 0 0)) fun t33 =>
        oIf t33 (k (.tuple ⟨[.slice none 0 0, .int .i64 12]⟩) m5) (oOpt (rdo (m5.rd m3.next) 0) fun t34 => k (.tuple ⟨[t34, .int .i64 0]⟩) m5)) = some () := fun hor => by
      rw [hX5.rd, show rdo (some ⟨1, [u], none⟩) 0 = some u from rfl, oOpt_e]
      rcases hu.isNil with ⟨rfl, hnil⟩ | ⟨p, q, c, rfl, hne⟩
      · rw [abin_snil, oOpt_e, show (none : Option Addr).isNone = true from rfl, oIf_t]
        have h0 := flat_headD.1 hnil
        have hi3 : i = 3 := hor.resolve_left fun h => h h0
        subst hi3
        have hb : bestW A B = [] := by unfold bestW; rw [h0]; rfl
        have := hkk (.slice none 0 0) m5 e5
        rw [if_pos hb] at this
        refine this ?_
        rw [hb]
        exact IL.nil _
      · rw [abin_snil, oOpt_e, show (some p : Option Addr).isNone = false from rfl, oIf_f]
        have hfn : flatW A B i ≠ [] := fun h => hne (flat_headD.2 h)
        have hb := flatW_pre hi hfn
        rw [hb] at hu hne
        have := hkk (.slice (some p) q c) m5 e5 hu.inn
        rw [if_neg hne] at this
        exact this
    rw [uc_e, oInt_leq]
    by_cases h3 : i < 3
    · have d1 : decide (((i + 1 : Nat) : Int) ≤ 3) = true := decide_eq_true (by omega)
      have hrd : rdo (m5.rd m3.next) 0 = some u := by rw [hX5.rd]; rfl
      rw [d1, join_e, oGT_t, hrd, oOpt_e]
      rcases hu.isNil with ⟨rfl, hnil⟩ | ⟨p, q, c, rfl, hne⟩
      · have h0 := flat_headD.1 hnil
        rw [abin_snil, oOpt_e, show (none : Option Addr).isNone = true from rfl]
        try simp (disch := first | omega | with_unfolding_all exact id rfl | with_unfolding_all exact Nat.le_of_ble_eq_true rfl | (simp only [Mem.push_next, Mem.put_next, List.length_cons, List.length_nil, Nat.zero_add, Nat.reduceAdd, allOne, oneCell, Bool.and_self, Bool.and_true]; first | done | omega)) only [hB5.rd, ↓uc_e, ↓un0_e, oOpt_e, oRes_e, oIf_t, oIf_f, oGT_t, oGT_f, oGT_u, oGF_t, oGF_f, oGF_u, oPick_t, oPick_f, oInt_eql, oInt_neq, oInt_lss, oInt_leq, oInt_gtr, oInt_geq, aun_not, aextract_e, fa_e, abox_e, ptrTo, oCallV_e, decide_true, decide_false, Bool.not_true, Bool.not_false, List.getElem?_cons_zero, List.getElem?_cons_succ, List.cons_append, List.nil_append, cells_agg, cells_int, cells_slice, cells_bool, cells_ptr, ld1_u, ldN_u, st1_u, rdo_e, rdn_e, stw_e, anew_eq, Mem.push_next, Mem.put_next, Mem.rd_push, Mem.rd_push_eq, Mem.rd_push_lt, Mem.rd_put_eq, Mem.rd_put, List.take_zero, List.drop_zero, List.take_succ_cons, List.drop_succ_cons, List.drop_nil, List.take_nil, List.append_nil, List.length_cons, List.length_nil, Nat.zero_add, Nat.reduceAdd]
        rw [h0] at hu
        rw [show n + 19 = (n + 16 - i) + i + 3 by omega]
        refine made_sp (L := L) (g := 62) (xb := m3.next) (c := false) (J := fun seen m' => ∃ u, At m' m3.next [u] ∧ GN 0 m' u (seen.getLastD []) ∧ bid u ≠ some m3.next) hlf (by omega) (fun _ _ _ h e => ?_) ?_ i (parts := []) (seen := []) (by omega) r1 r2 (pow_bound r3 (by omega)) (by simp; omega) (fun p hp => by cases hp) (GN.nil _ _) (fun e => by cases e) hlt5 ⟨_, hX5, hu, hub⟩ ?_ fun m6 e6 hj6 => ?_
        · obtain ⟨u, h1, h2, h3⟩ := h
          exact ⟨u, h1.mono e, h2.mono e, h3⟩
        · intro n m' k' u w seen hLx hs hj hu' hub' hk'
          obtain ⟨u0, j1, j2, j3⟩ := hj
          have hlt' := j1.lt
          rw [r62]; dsimp only [S62, iofNat, inegSucc]
          have hxc : u.cells.toList = [u] ∧ oneCell u = true := by
            obtain ⟨p, c, rfl⟩ := hu'.ex
            exact ⟨rfl, rfl⟩
          rw [uc_e, uc_e, un0_e, st_set j1.rd (by simp) hLx hxc.1 hxc.2, oRes_e]
          have hgb : GtB m3.next m' (m'.put m3.next (some ⟨1, [u0].set 0 u, none⟩)) := GtB.put ⟨Nat.le_refl _, fun _ _ _ => rfl⟩ _
          refine hk' _ hgb ⟨u, Mem.rd_put_eq _ _ hlt', ?_, hub'⟩
          have : (seen ++ [w]).getLastD [] = w := by simp [List.getLastD_eq_getLast?]
          rw [this]
          exact hu'.monoB hgb hub'
        · have := ways_le r1 r3 (show i ≤ 2 by omega)
          show 0 + (ways i x y 2).length ≤ 1000000000
          omega
        · rw [List.nil_append, last_taken, show frN [] = 2 from rfl, hred] at hj6
          have hadd : ∀ K : Value → Option Unit, oInt .add .i64 (.int .i64 ((i + 1 : Nat) : Int)) (.int .i64 1) K = K (.int .i64 ((i + 1 + 1 : Nat) : Int)) := fun K => by rw [oInt_add ⟨by omega, by omega⟩]; rfl
          rw [hadd]
          refine hself h3 _ _ ⟨rfl, GtB.gt e5 e6 (by omega), hB5.monoB e6 (by omega), ?_⟩
          show ∃ u, At m6 m3.next [u] ∧ GN 0 m6 u ((flatW A B i ++ ways i A B 2).headD []) ∧ bid u ≠ some m3.next
          rw [h0, List.nil_append]
          exact hj6
      · rw [abin_snil, oOpt_e, show (some p : Option Addr).isNone = false from rfl]
        have := hexit (.inl fun h => hne (flat_headD.2 h))
        exact this
    · have d1 : decide (((i + 1 : Nat) : Int) ≤ 3) = false := decide_eq_false (by omega)
      rw [d1, join_e, oGT_f]
      exact hexit (.inr (by omega))
  · refine opened_err (by omega) hf fun m2 e2 => ?_
    have e2n := e2.next
    unfold frV
    have d1 : decide ((1 : Int) = 0) = false := by decide
    try simp (disch := first | omega | with_unfolding_all exact id rfl | with_unfolding_all exact Nat.le_of_ble_eq_true rfl | (simp only [Mem.push_next, Mem.put_next, List.length_cons, List.length_nil, Nat.zero_add, Nat.reduceAdd, allOne, oneCell, Bool.and_self, Bool.and_true]; first | done | omega)) only [d1, ↓uc_e, ↓un0_e, oOpt_e, oRes_e, oIf_t, oIf_f, oGT_t, oGT_f, oGT_u, oGF_t, oGF_f, oGF_u, oPick_t, oPick_f, oInt_eql, oInt_neq, oInt_lss, oInt_leq, oInt_gtr, oInt_geq, aun_not, aextract_e, fa_e, abox_e, ptrTo, oCallV_e, decide_true, decide_false, Bool.not_true, Bool.not_false, List.getElem?_cons_zero, List.getElem?_cons_succ, List.cons_append, List.nil_append, cells_agg, cells_int, cells_slice, cells_bool, cells_ptr, ld1_u, ldN_u, st1_u, rdo_e, rdn_e, stw_e, anew_eq, Mem.push_next, Mem.put_next, Mem.rd_push, Mem.rd_push_eq, Mem.rd_push_lt, Mem.rd_put_eq, Mem.rd_put, List.take_zero, List.drop_zero, List.take_succ_cons, List.drop_succ_cons, List.drop_nil, List.take_nil, List.append_nil, List.length_cons, List.length_nil, Nat.zero_add, Nat.reduceAdd]
    have hkk := hk (.slice none 0 0) _ ((g1.trans e2).trans (Mem.put_gt (Mem.gt_push m2 ⟨1, [.int .i64 0, .int .i64 0], none⟩) (b := m2.next) (some ⟨1, [.int .i64 0, .int .i64 0], none⟩) (Nat.le_refl _)))
    unfold fewL fewE at hkk
    rw [if_neg hf, if_neg hf] at hkk
    exact hkk (IL.nil _)
end
end Go.Vit
