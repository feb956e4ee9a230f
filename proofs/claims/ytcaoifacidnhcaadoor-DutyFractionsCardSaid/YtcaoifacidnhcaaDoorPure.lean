/- Functions of plain numbers: what they yield. -/
import Derived.Test.YtcaoifacidnhcaaDoorTab
import Derived.Test.YtcaoifacidnhcaaDoorWorks
import Derived.Test.YtcaoifacidnhcaaDoorVitW
import Derived.Test.YtcaoifacidnhcaaDoorVitZ
import Derived.Test.YtcaoifacidnhcaaDoorVitAD
set_option linter.unusedSimpArgs false
set_option linter.unusedVariables false
set_option maxRecDepth 20000
namespace Go.Vit
open Go Go.Proofs
abbrev frV (a b : Int) : Value := .agg ⟨[.int .i64 a, .int .i64 b]⟩
/-- A fraction that is none: told so that few numbers need be known. -/
def bad (a b : Int) : Bool := match ilt a 1 with
  | true => true
  | false => match ilt 30 b with
    | true => true
    | false => ile b a
theorem bad_iff (a b : Int) : bad a b = true ↔ a < 1 ∨ b ≤ a ∨ 30 < b := by
  unfold bad
  rw [ilt_eq, ilt_eq, ile_eq]
  by_cases h1 : a < 1
  · simp [h1]
  · by_cases h2 : 30 < b
    · simp [h1, h2]
    · simp [h1, h2]
def chkV (a b : Int) : Value := .int .i64 (match bad a b with
  | true => .ofNat 1
  | false => .ofNat 0)
def pChk : PF := fun xs => match xs with
  | [x] => match aggI x with
    | some [a, b] => some (chkV a b)
    | _ => none
  | _ => none
theorem pChk_some {xs : List Value} {v : Value} (h : pChk xs = some v) : ∃ a b, xs = [frV a b] ∧ v = chkV a b := by
  unfold pChk at h
  split at h
  · split at h
    · rename_i a b hx
      cases h
      exact ⟨a, b, by rw [aggI_some hx]; rfl, rfl⟩
    · cases h
  · cases h
theorem w21 {β : Type} {lf n : Nat} : runT (tabW (β := β) lf) (n + 1) 21 = S21 lf (runT (tabW lf) n) := by kernel_rfl
theorem w22 {β : Type} {lf n : Nat} : runT (tabW (β := β) lf) (n + 1) 22 = S22 lf (runT (tabW lf) n) := by kernel_rfl
section
attribute [local irreducible] runT loopS
variable {β : Type} {lf n L : Nat} {m : Mem} {r : β} {k : Value → Mem → Option β}
theorem chk21 (a b : Int) (hk : ∀ m', k (chkV a b) m' = some r) : runT (tabW lf) (n + 1) 21 [frV a b] L m k = some r := by
  rw [w21]; dsimp only [S21, iofNat, inegSucc]
  have hb := bad_iff a b
  by_cases h1 : a < 1
  · have hv : chkV a b = .int .i64 1 := by unfold chkV; rw [hb.2 (.inl h1)]; rfl
    rw [hv] at hk
    try simp (disch := first | omega | with_unfolding_all exact id rfl | with_unfolding_all exact Nat.le_of_ble_eq_true rfl | (simp only [Mem.push_next, Mem.put_next, List.length_cons, List.length_nil, Nat.zero_add, Nat.reduceAdd, allOne, oneCell, Bool.and_self, Bool.and_true]; first | done | omega)) only [h1, ↓uc_e, ↓un0_e, ↓join_e, oOpt_e, oRes_e, oIf_t, oIf_f, oGT_t, oGT_f, oGT_u, oGF_t, oGF_f, oGF_u, oPick_t, oPick_f, oInt_eql, oInt_neq, oInt_lss, oInt_leq, oInt_gtr, oInt_geq, aun_not, aextract_e, fa_e, abox_e, ptrTo, oCallV_e, decide_true, decide_false, Bool.not_true, Bool.not_false, List.getElem?_cons_zero, List.getElem?_cons_succ, List.cons_append, List.nil_append, cells_agg, cells_int, cells_slice, cells_bool, cells_ptr, ld1_u, ldN_u, st1_u, rdo_e, rdn_e, stw_e, anew_eq, Mem.push_next, Mem.put_next, Mem.rd_push, Mem.rd_push_eq, Mem.rd_push_lt, Mem.rd_put_eq, Mem.rd_put, List.take_zero, List.drop_zero, List.take_succ_cons, List.drop_succ_cons, List.drop_nil, List.take_nil, List.append_nil, List.length_cons, List.length_nil, Nat.zero_add, Nat.reduceAdd]
    exact hk _
  · by_cases h2 : b ≤ a
    · have hv : chkV a b = .int .i64 1 := by unfold chkV; rw [hb.2 (.inr (.inl h2))]; rfl
      rw [hv] at hk
      try simp (disch := first | omega | with_unfolding_all exact id rfl | with_unfolding_all exact Nat.le_of_ble_eq_true rfl | (simp only [Mem.push_next, Mem.put_next, List.length_cons, List.length_nil, Nat.zero_add, Nat.reduceAdd, allOne, oneCell, Bool.and_self, Bool.and_true]; first | done | omega)) only [h1, h2, ↓uc_e, ↓un0_e, ↓join_e, oOpt_e, oRes_e, oIf_t, oIf_f, oGT_t, oGT_f, oGT_u, oGF_t, oGF_f, oGF_u, oPick_t, oPick_f, oInt_eql, oInt_neq, oInt_lss, oInt_leq, oInt_gtr, oInt_geq, aun_not, aextract_e, fa_e, abox_e, ptrTo, oCallV_e, decide_true, decide_false, Bool.not_true, Bool.not_false, List.getElem?_cons_zero, List.getElem?_cons_succ, List.cons_append, List.nil_append, cells_agg, cells_int, cells_slice, cells_bool, cells_ptr, ld1_u, ldN_u, st1_u, rdo_e, rdn_e, stw_e, anew_eq, Mem.push_next, Mem.put_next, Mem.rd_push, Mem.rd_push_eq, Mem.rd_push_lt, Mem.rd_put_eq, Mem.rd_put, List.take_zero, List.drop_zero, List.take_succ_cons, List.drop_succ_cons, List.drop_nil, List.take_nil, List.append_nil, List.length_cons, List.length_nil, Nat.zero_add, Nat.reduceAdd]
      exact hk _
    · by_cases h3 : 30 < b
      · have hv : chkV a b = .int .i64 1 := by unfold chkV; rw [hb.2 (.inr (.inr h3))]; rfl
        rw [hv] at hk
        try simp (disch := first | omega | with_unfolding_all exact id rfl | with_unfolding_all exact Nat.le_of_ble_eq_true rfl | (simp only [Mem.push_next, Mem.put_next, List.length_cons, List.length_nil, Nat.zero_add, Nat.reduceAdd, allOne, oneCell, Bool.and_self, Bool.and_true]; first | done | omega)) only [h1, h2, h3, ↓uc_e, ↓un0_e, ↓join_e, oOpt_e, oRes_e, oIf_t, oIf_f, oGT_t, oGT_f, oGT_u, oGF_t, oGF_f, oGF_u, oPick_t, oPick_f, oInt_eql, oInt_neq, oInt_lss, oInt_leq, oInt_gtr, oInt_geq, aun_not, aextract_e, fa_e, abox_e, ptrTo, oCallV_e, decide_true, decide_false, Bool.not_true, Bool.not_false, List.getElem?_cons_zero, List.getElem?_cons_succ, List.cons_append, List.nil_append, cells_agg, cells_int, cells_slice, cells_bool, cells_ptr, ld1_u, ldN_u, st1_u, rdo_e, rdn_e, stw_e, anew_eq, Mem.push_next, Mem.put_next, Mem.rd_push, Mem.rd_push_eq, Mem.rd_push_lt, Mem.rd_put_eq, Mem.rd_put, List.take_zero, List.drop_zero, List.take_succ_cons, List.drop_succ_cons, List.drop_nil, List.take_nil, List.append_nil, List.length_cons, List.length_nil, Nat.zero_add, Nat.reduceAdd]
        exact hk _
      · have hv : chkV a b = .int .i64 0 := by
          unfold chkV
          cases hx : bad a b with
          | true => rcases hb.1 hx with h | h | h <;> contradiction
          | false => rfl
        rw [hv] at hk
        try simp (disch := first | omega | with_unfolding_all exact id rfl | with_unfolding_all exact Nat.le_of_ble_eq_true rfl | (simp only [Mem.push_next, Mem.put_next, List.length_cons, List.length_nil, Nat.zero_add, Nat.reduceAdd, allOne, oneCell, Bool.and_self, Bool.and_true]; first | done | omega)) only [h1, h2, h3, ↓uc_e, ↓un0_e, ↓join_e, oOpt_e, oRes_e, oIf_t, oIf_f, oGT_t, oGT_f, oGT_u, oGF_t, oGF_f, oGF_u, oPick_t, oPick_f, oInt_eql, oInt_neq, oInt_lss, oInt_leq, oInt_gtr, oInt_geq, aun_not, aextract_e, fa_e, abox_e, ptrTo, oCallV_e, decide_true, decide_false, Bool.not_true, Bool.not_false, List.getElem?_cons_zero, List.getElem?_cons_succ, List.cons_append, List.nil_append, cells_agg, cells_int, cells_slice, cells_bool, cells_ptr, ld1_u, ldN_u, st1_u, rdo_e, rdn_e, stw_e, anew_eq, Mem.push_next, Mem.put_next, Mem.rd_push, Mem.rd_push_eq, Mem.rd_push_lt, Mem.rd_put_eq, Mem.rd_put, List.take_zero, List.drop_zero, List.take_succ_cons, List.drop_succ_cons, List.drop_nil, List.take_nil, List.append_nil, List.length_cons, List.length_nil, Nat.zero_add, Nat.reduceAdd]
        exact hk _
theorem chk22 (a b : Int) (hk : ∀ m', k (chkV a b) m' = some r) : runT (tabW lf) (n + 1) 22 [frV a b] L m k = some r := by
  rw [w22]; dsimp only [S22, iofNat, inegSucc]
  have hb := bad_iff a b
  by_cases h1 : a < 1
  · have hv : chkV a b = .int .i64 1 := by unfold chkV; rw [hb.2 (.inl h1)]; rfl
    rw [hv] at hk
    try simp (disch := first | omega | with_unfolding_all exact id rfl | with_unfolding_all exact Nat.le_of_ble_eq_true rfl | (simp only [Mem.push_next, Mem.put_next, List.length_cons, List.length_nil, Nat.zero_add, Nat.reduceAdd, allOne, oneCell, Bool.and_self, Bool.and_true]; first | done | omega)) only [h1, ↓uc_e, ↓un0_e, ↓join_e, oOpt_e, oRes_e, oIf_t, oIf_f, oGT_t, oGT_f, oGT_u, oGF_t, oGF_f, oGF_u, oPick_t, oPick_f, oInt_eql, oInt_neq, oInt_lss, oInt_leq, oInt_gtr, oInt_geq, aun_not, aextract_e, fa_e, abox_e, ptrTo, oCallV_e, decide_true, decide_false, Bool.not_true, Bool.not_false, List.getElem?_cons_zero, List.getElem?_cons_succ, List.cons_append, List.nil_append, cells_agg, cells_int, cells_slice, cells_bool, cells_ptr, ld1_u, ldN_u, st1_u, rdo_e, rdn_e, stw_e, anew_eq, Mem.push_next, Mem.put_next, Mem.rd_push, Mem.rd_push_eq, Mem.rd_push_lt, Mem.rd_put_eq, Mem.rd_put, List.take_zero, List.drop_zero, List.take_succ_cons, List.drop_succ_cons, List.drop_nil, List.take_nil, List.append_nil, List.length_cons, List.length_nil, Nat.zero_add, Nat.reduceAdd]
    exact hk _
  · by_cases h2 : b ≤ a
    · have hv : chkV a b = .int .i64 1 := by unfold chkV; rw [hb.2 (.inr (.inl h2))]; rfl
      rw [hv] at hk
      try simp (disch := first | omega | with_unfolding_all exact id rfl | with_unfolding_all exact Nat.le_of_ble_eq_true rfl | (simp only [Mem.push_next, Mem.put_next, List.length_cons, List.length_nil, Nat.zero_add, Nat.reduceAdd, allOne, oneCell, Bool.and_self, Bool.and_true]; first | done | omega)) only [h1, h2, ↓uc_e, ↓un0_e, ↓join_e, oOpt_e, oRes_e, oIf_t, oIf_f, oGT_t, oGT_f, oGT_u, oGF_t, oGF_f, oGF_u, oPick_t, oPick_f, oInt_eql, oInt_neq, oInt_lss, oInt_leq, oInt_gtr, oInt_geq, aun_not, aextract_e, fa_e, abox_e, ptrTo, oCallV_e, decide_true, decide_false, Bool.not_true, Bool.not_false, List.getElem?_cons_zero, List.getElem?_cons_succ, List.cons_append, List.nil_append, cells_agg, cells_int, cells_slice, cells_bool, cells_ptr, ld1_u, ldN_u, st1_u, rdo_e, rdn_e, stw_e, anew_eq, Mem.push_next, Mem.put_next, Mem.rd_push, Mem.rd_push_eq, Mem.rd_push_lt, Mem.rd_put_eq, Mem.rd_put, List.take_zero, List.drop_zero, List.take_succ_cons, List.drop_succ_cons, List.drop_nil, List.take_nil, List.append_nil, List.length_cons, List.length_nil, Nat.zero_add, Nat.reduceAdd]
      exact hk _
    · by_cases h3 : 30 < b
      · have hv : chkV a b = .int .i64 1 := by unfold chkV; rw [hb.2 (.inr (.inr h3))]; rfl
        rw [hv] at hk
        try simp (disch := first | omega | with_unfolding_all exact id rfl | with_unfolding_all exact Nat.le_of_ble_eq_true rfl | (simp only [Mem.push_next, Mem.put_next, List.length_cons, List.length_nil, Nat.zero_add, Nat.reduceAdd, allOne, oneCell, Bool.and_self, Bool.and_true]; first | done | omega)) only [h1, h2, h3, ↓uc_e, ↓un0_e, ↓join_e, oOpt_e, oRes_e, oIf_t, oIf_f, oGT_t, oGT_f, oGT_u, oGF_t, oGF_f, oGF_u, oPick_t, oPick_f, oInt_eql, oInt_neq, oInt_lss, oInt_leq, oInt_gtr, oInt_geq, aun_not, aextract_e, fa_e, abox_e, ptrTo, oCallV_e, decide_true, decide_false, Bool.not_true, Bool.not_false, List.getElem?_cons_zero, List.getElem?_cons_succ, List.cons_append, List.nil_append, cells_agg, cells_int, cells_slice, cells_bool, cells_ptr, ld1_u, ldN_u, st1_u, rdo_e, rdn_e, stw_e, anew_eq, Mem.push_next, Mem.put_next, Mem.rd_push, Mem.rd_push_eq, Mem.rd_push_lt, Mem.rd_put_eq, Mem.rd_put, List.take_zero, List.drop_zero, List.take_succ_cons, List.drop_succ_cons, List.drop_nil, List.take_nil, List.append_nil, List.length_cons, List.length_nil, Nat.zero_add, Nat.reduceAdd]
        exact hk _
      · have hv : chkV a b = .int .i64 0 := by
          unfold chkV
          cases hx : bad a b with
          | true => rcases hb.1 hx with h | h | h <;> contradiction
          | false => rfl
        rw [hv] at hk
        try simp (disch := first | omega | with_unfolding_all exact id rfl | with_unfolding_all exact Nat.le_of_ble_eq_true rfl | (simp only [Mem.push_next, Mem.put_next, List.length_cons, List.length_nil, Nat.zero_add, Nat.reduceAdd, allOne, oneCell, Bool.and_self, Bool.and_true]; first | done | omega)) only [h1, h2, h3, ↓uc_e, ↓un0_e, ↓join_e, oOpt_e, oRes_e, oIf_t, oIf_f, oGT_t, oGT_f, oGT_u, oGF_t, oGF_f, oGF_u, oPick_t, oPick_f, oInt_eql, oInt_neq, oInt_lss, oInt_leq, oInt_gtr, oInt_geq, aun_not, aextract_e, fa_e, abox_e, ptrTo, oCallV_e, decide_true, decide_false, Bool.not_true, Bool.not_false, List.getElem?_cons_zero, List.getElem?_cons_succ, List.cons_append, List.nil_append, cells_agg, cells_int, cells_slice, cells_bool, cells_ptr, ld1_u, ldN_u, st1_u, rdo_e, rdn_e, stw_e, anew_eq, Mem.push_next, Mem.put_next, Mem.rd_push, Mem.rd_push_eq, Mem.rd_push_lt, Mem.rd_put_eq, Mem.rd_put, List.take_zero, List.drop_zero, List.take_succ_cons, List.drop_succ_cons, List.drop_nil, List.take_nil, List.append_nil, List.length_cons, List.length_nil, Nat.zero_add, Nat.reduceAdd]
        exact hk _
end
def pL : List (Nat × PF) := [(21, pChk), (22, pChk)]
theorem pure_ok {R : Nat} {B : World} : CallOk Tryd.prog 1 R B (pureLC pL (closedC mTab 27 (sortC 71))) :=
  pureL_ok (n := 60) (tabW_ok 1000000) prog_ok (fun B => sortC_ok sort_ok) calls_ok fun g f hf => by
    have one : ∀ g, (g = 21 ∨ g = 22) → PureOk Tryd.prog 1 1000000 60 (tabW 1000000) g pChk := fun g hg => by
      refine ⟨?_, fun xs v h => ?_, fun xs v h => ?_, fun xs v h => ?_⟩
      · rcases hg with rfl | rfl
        · exact ⟨_, Tryd.func21, by kernel_rfl⟩
        · exact ⟨_, Tryd.func22, by kernel_rfl⟩
      · obtain ⟨a, b, rfl, rfl⟩ := pChk_some h; rfl
      · obtain ⟨a, b, rfl, rfl⟩ := pChk_some h; rfl
      · obtain ⟨a, b, rfl, rfl⟩ := pChk_some h
        rcases hg with rfl | rfl
        · exact chk21 a b fun _ => rfl
        · exact chk22 a b fun _ => rfl
    simp only [pL, pfind] at hf
    split at hf
    · rename_i hb
      obtain rfl := Nat.eq_of_beq_eq_true hb
      cases hf
      exact one _ (.inl rfl)
    · split at hf
      · rename_i hb
        obtain rfl := Nat.eq_of_beq_eq_true hb
        cases hf
        exact one _ (.inr rfl)
      · cases hf
end Go.Vit
