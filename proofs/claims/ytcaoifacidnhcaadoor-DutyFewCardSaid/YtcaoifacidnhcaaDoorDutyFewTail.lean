/- The law DutyFew, walked: the end. -/
import Derived.Test.YtcaoifacidnhcaaDoorW14
import Derived.Test.YtcaoifacidnhcaaDoorW8
set_option linter.unusedSimpArgs false
set_option linter.unusedVariables false
set_option maxRecDepth 20000
namespace Go.Vit
open Go Go.Proofs
attribute [local irreducible] runT loopS
theorem best_len {a b j : Nat} (hj : j ≤ 2) (h : ways j a b 2 ≠ []) : (bestW a b).length ≤ j + 1 ∧ bestW a b ≠ [] := by
  have hne : flatW a b (j + 1) ≠ [] := fun e => h (List.append_eq_nil_iff.1 e).2
  have hb := flatW_pre (i := j + 1) (by omega) hne
  have hm : bestW a b ∈ flatW a b (j + 1) := by
    rw [← hb]
    cases hf : flatW a b (j + 1) with
    | nil => exact absurd hf hne
    | cons x l => simp
  have := flatW_len hm
  exact ⟨this.2, fun e => by rw [e] at this; simp at this⟩
/-- The first of the shortest lists, of those of more than 3 - i parts. -/
def wantW (a b : Nat) : Nat → List (List Nat)
  | 0 => []
  | i + 1 => ways (2 - i) a b 2 ++ wantW a b i
theorem wantW3 (a b : Nat) : wantW a b 3 = flatW a b 3 := by simp [wantW, flatW]
section
variable {lf n L : Nat} {m : Mem} {k : Value → Mem → Option Unit}
theorem few_tail {A B fbx cb fb : Nat} (hlf : 1000000 ≤ lf) (hT : TabOk mTab m) (hL : L ≤ m.next) (hf : Frac A B) (hB : At m fbx [.int .i64 (A : Int), .int .i64 (B : Int)])
    (hs : FSl cb fb m (GG (ways 0 A B 2) (ways 1 A B 2) (ways 2 A B 2))) (hk : ∀ m', k (.bool true) m' = some ()) :
    loopS (fun j113 l111 m112 =>
      uc l111 fun t114 l115 =>
      uc l115 fun t116 l117 =>
      oInt .geq .i64 t116 (.int .i64 1) fun t118 =>
      oIf t118 (oOpt (ldN m112 2 (.pointer (some ⟨fbx, 0, none⟩))) fun t119 =>
      runT (tab lf) (n + 106) 30 [t119, t116] L m112 fun t120 m121 =>
      oOpt (aextract t120 0) fun t122 =>
      oOpt (aextract t120 1) fun t123 =>
      oInt .neq .i64 t123 (.int .i64 0) fun t124 =>
      join (fun l125 m126 =>
      uc l125 fun t128 l129 =>
      oPick t124 (.bool true) t128 fun t130 =>
      oIf t130 (k (.bool false) m126) (oInt .gtr .i64 t122 (.int .i64 0) fun t131 =>
      join (fun l132 m133 =>
      uc l132 fun t135 l136 =>
      oInt .sub .i64 t116 (.int .i64 1) fun t137 =>
      j113 [t135, t137] m133) fun j134 =>
      oIf t131 (oOpt (iaA 4 1 (.pointer (some ⟨fb, 0, none⟩)) t116) fun t138 =>
      oOpt (ld1 m126 t138) fun t139 =>
      j134 [t139] m126) (j134 [t114] m126))) fun j127 =>
      oGF t124 (oOpt (iaA 4 1 (.pointer (some ⟨cb, 0, none⟩)) t116) fun t140 =>
      oOpt (ld1 m121 t140) fun t141 =>
      oInt .neq .i64 t122 t141 fun t142 =>
      j127 [t142] m121) (j127 [Go.undef] m121)) (oOpt (ldN m112 2 (.pointer (some ⟨fbx, 0, none⟩))) fun t143 =>
      runT (tab lf) (n + 106) 28 [t143] L m112 fun t144 m145 =>
      oOpt (aextract t144 0) fun t146 =>
      oOpt (aextract t144 1) fun t147 =>
      oOpt (ldN m145 2 (.pointer (some ⟨fbx, 0, none⟩))) fun t148 =>
      runT (tab lf) (n + 106) 18 [t148] L m145 fun t149 m150 =>
      oOpt (aextract t149 0) fun t151 =>
      oOpt (aextract t149 1) fun t152 =>
      oOpt (abin Tryd.prog .eql 30 t114 (.slice none 0 0)) fun t153 =>
      oIf t153 (oInt .eql .i64 t147 (.int .i64 12) fun t154 =>
      join (fun l155 m156 =>
      uc l155 fun t158 l159 =>
      oPick t154 t158 (.bool false) fun t160 =>
      join (fun l161 m162 =>
      uc l161 fun t164 l165 =>
      join (fun l166 m167 =>
      uc l166 fun t169 l170 =>
      join (fun l171 m172 =>
      uc l171 fun t174 l175 =>
      oPick t160 t174 (.bool false) fun t176 =>
      join (fun l177 m178 =>
      uc l177 fun t180 l181 =>
      oPick t176 t180 (.bool false) fun t182 =>
      k t182 m178) fun j179 =>
      oGT t176 (runT (tab lf) (n + 106) 27 [] L m172 fun t183 m184 =>
      j179 [t183] m184) (j179 [Go.undef] m172)) fun j173 =>
      oGT t160 (oPick t164 (.bool true) t169 fun t185 =>
      j173 [t185] m167) (j173 [Go.undef] m167)) fun j168 =>
      oGF t164 (oOpt (ln t151) fun t186 =>
      oInt .gtr .i64 t186 (.int .i64 3) fun t187 =>
      j168 [t187] m162) (j168 [Go.undef] m162)) fun j163 =>
      oGT t160 (oInt .neq .i64 t152 (.int .i64 0) fun t188 =>
      j163 [t188] m156) (j163 [Go.undef] m156)) fun j157 =>
      oGT t154 (oOpt (ln t146) fun t189 =>
      oInt .eql .i64 t189 (.int .i64 0) fun t190 =>
      j157 [t190] m150) (j157 [Go.undef] m150)) (oInt .eql .i64 t147 (.int .i64 0) fun t191 =>
      join (fun l192 m193 =>
      uc l192 fun t195 l196 =>
      oPick t191 t195 (.bool false) fun t197 =>
      join (fun l198 m199 =>
      uc l198 fun t201 l202 =>
      join (fun l203 m204 =>
      uc l203 fun t206 l207 =>
      join (fun l208 m209 =>
      uc l208 fun t211 l212 =>
      oPick t197 t211 (.bool false) fun t213 =>
      join (fun l214 m215 =>
      uc l214 fun t217 l218 =>
      oPick t213 t217 (.bool false) fun t219 =>
      k t219 m215) fun j216 =>
      oGT t213 (runT (tab lf) (n + 106) 27 [] L m209 fun t220 m221 =>
      j216 [t220] m221) (j216 [Go.undef] m209)) fun j210 =>
      oGT t197 (oPick t201 (.bool true) t206 fun t222 =>
      j210 [t222] m204) (j210 [Go.undef] m204)) fun j205 =>
      oGF t201 (oOpt (ln t151) fun t223 =>
      oOpt (ln t146) fun t224 =>
      oInt .geq .i64 t223 t224 fun t225 =>
      j205 [t225] m199) (j205 [Go.undef] m199)) fun j200 =>
      oGT t197 (oInt .neq .i64 t152 (.int .i64 0) fun t226 =>
      j200 [t226] m193) (j200 [Go.undef] m193)) fun j194 =>
      oGT t191 (runT (tab lf) (n + 106) 20 [t146, t114] L m150 fun t227 m228 =>
      j194 [t227] m228) (j194 [Go.undef] m150)))) lf [(.slice none 0 0), (.int .i64 3)] m = some () := by
  have hB30 : B ≤ 30 := by have := hf.2.2; omega
  have hA0 : 0 < A := by have := hf.1; omega
  refine loop_up 3 (fun i vs m' => ∃ u, vs = [u, .int .i64 ((3 - i : Nat) : Int)] ∧ Gt m m' ∧ GN 0 m' u ((wantW A B i).headD [])) (by omega) ⟨_, rfl, Gt.refl m, GN.nil _ _⟩ ?_
  rintro i vs m1 hi ⟨u, rfl, e1, hu⟩ self hself
  have e1n := e1.next
  have hB1 := hB.mono e1
  have hs1 := hs.mono e1
  have hT1 := hT.mono e1
  have hrd : ∀ m', Gt m m' → ldN m' 2 (.pointer (some ⟨fbx, 0, none⟩)) = some (frV A B) := fun m' e => by rw [ldN_u, (hB.mono e).rd]; rfl
  rw [uc_e, uc_e, oInt_geq, hrd m1 e1]
  refine oIf_dec (fun h => ?_) (fun h => ?_)
  · have hi3 : i < 3 := by omega
    rw [oOpt_e]
    refine ways30_sp hlf hT1 (by omega) fun m2 e2 => ?_
    have hfm : FrM (A : Int) (B : Int) ((3 - i : Nat) : Int) := ⟨hf, by omega, by omega⟩
    have hwc : wayC (A : Int) (B : Int) ((3 - i : Nat) : Int) = ((ways (2 - i) A B 2).length : Int) := by
      unfold wayC
      rw [if_pos hfm, Int.toNat_natCast, Int.toNat_natCast, Int.toNat_natCast, show 3 - i - 1 = 2 - i by omega]
    rw [hwc, show wayE (A : Int) (B : Int) ((3 - i : Nat) : Int) = 0 from if_pos hfm]
    have E2 := e1.trans e2
    obtain ⟨vs, hC, hF, hV⟩ := hs.mono E2
    have hGG : GG (ways 0 A B 2) (ways 1 A B 2) (ways 2 A B 2) (3 - i) = ways (2 - i) A B 2 := by
      match i, hi3 with
      | 0, _ => rfl
      | 1, _ => rfl
      | 2, _ => rfl
    have hcnt := get4 (fun i => .int .i64 ((GG (ways 0 A B 2) (ways 1 A B 2) (ways 2 A B 2) i).length : Int)) (3 - i) (by omega)
    have hfst := get4 vs (3 - i) (by omega)
    have hV3 := hV (3 - i) (by omega)
    simp only [hGG] at hcnt
    rw [hGG] at hV3
    have hi1 : iaA 4 1 (.pointer (some ⟨cb, 0, none⟩)) (.int .i64 ((3 - i : Nat) : Int)) = some (.pointer (some ⟨cb, 0 + (3 - i) * 1, none⟩)) := iaA_e (by omega)
    have hi2 : iaA 4 1 (.pointer (some ⟨fb, 0, none⟩)) (.int .i64 ((3 - i : Nat) : Int)) = some (.pointer (some ⟨fb, 0 + (3 - i) * 1, none⟩)) := iaA_e (by omega)
    rw [show 0 + (3 - i) * 1 = 3 - i by omega] at hi1 hi2
    have hl1 : ld1 m2 (.pointer (some ⟨cb, 3 - i, none⟩)) = some (.int .i64 ((ways (2 - i) A B 2).length : Int)) := by rw [ld1_u, hC.rd, rdo_e]; exact hcnt
    have hl2 : ld1 m2 (.pointer (some ⟨fb, 3 - i, none⟩)) = some (vs (3 - i)) := by rw [ld1_u, hF.rd, rdo_e]; exact hfst
    have hsub : ∀ K : Value → Option Unit, oInt .sub .i64 (.int .i64 ((3 - i : Nat) : Int)) (.int .i64 1) K = K (.int .i64 ((3 - (i + 1) : Nat) : Int)) := fun K => by rw [oInt_sub ⟨by omega, by omega⟩, show ((3 - i : Nat) : Int) - 1 = ((3 - (i + 1) : Nat) : Int) by omega]
    rw [aextract_e, aextract_e]
    simp only [List.getElem?_cons_zero, List.getElem?_cons_succ, oOpt_e]
    rw [oInt_neq, dec_rfl, Bool.not_true, join_e, oGF_f, hi1, oOpt_e, hl1, oOpt_e, oInt_neq, dec_rfl, Bool.not_true]
    dsimp only
    rw [uc_e, oPick_f, oIf_f, oInt_gtr, join_e]
    refine oIf_dec (fun h0 => ?_) (fun h0 => ?_)
    · rw [hi2, oOpt_e, hl2, oOpt_e]
      dsimp only
      rw [uc_e, hsub]
      refine hself hi3 _ _ ⟨vs (3 - i), rfl, E2, ?_⟩
      have : (wantW A B (i + 1)).headD [] = (ways (2 - i) A B 2).headD [] := by
        show (ways (2 - i) A B 2 ++ wantW A B i).headD [] = _
        cases hw : ways (2 - i) A B 2 with
        | nil => rw [hw] at h0; exact absurd h0 (by simp)
        | cons x l => rfl
      rw [this]
      exact hV3.1
    · dsimp only
      rw [uc_e, hsub]
      refine hself hi3 _ _ ⟨u, rfl, E2, ?_⟩
      have : wantW A B (i + 1) = wantW A B i := by
        show ways (2 - i) A B 2 ++ wantW A B i = _
        rw [List.length_eq_zero_iff.1 (show (ways (2 - i) A B 2).length = 0 by omega), List.nil_append]
      rw [this]
      exact hu.mono e2
  · have hi3 : i = 3 := by omega
    subst hi3
    rw [wantW3] at hu
    change GN 0 m1 u (bestW A B) at hu
    rw [oOpt_e]
    refine fewest28_sp hlf hT1 (by omega) fun u2 m2 e2 hu2 => ?_
    have e2n := e2.next
    rw [show fewL (A : Int) (B : Int) = bestW A B from if_pos hf] at hu2
    have hfe : fewE (A : Int) (B : Int) = if bestW A B = [] then 12 else 0 := if_pos hf
    rw [hfe]
    rw [aextract_e, aextract_e]
    simp only [List.getElem?_cons_zero, List.getElem?_cons_succ, oOpt_e]
    rw [hrd m2 (e1.trans e2), oOpt_e]
    have hT2 := hT1.mono e2
    have d15 : decide ((15 : Int) = 0) = false := by decide
    have d0 : decide ((0 : Int) = 0) = true := by decide
    have d12 : decide ((12 : Int) = 12) = true := by decide
    have z0 : decide (((0 : Nat) : Int) = 0) = true := by simp
    have hu' := hu.mono e2
    have hu' := hu.mono e2
    refine greedy18_sp hlf hT2 (by omega) hf (fun m3 e3 => ?_) (fun v3 g m3 e3 hg hg0 hg1 hgw => ?_)
    · have hT3 := hT2.mono e3
      rcases (hu'.mono e3).isNil with ⟨rfl, hb⟩ | ⟨p, q, c, rfl, hb⟩
      · rw [if_pos hb]
        rw [hb] at hu2
        have hln := (hu2.mono e3).ln
        try simp (disch := first | omega | with_unfolding_all exact id rfl | with_unfolding_all exact Nat.le_of_ble_eq_true rfl | (simp only [Mem.push_next, Mem.put_next, List.length_cons, List.length_nil, Nat.zero_add, Nat.reduceAdd, allOne, oneCell, Bool.and_self, Bool.and_true]; first | done | omega)) only [abin_snil, Option.isNone_none, d12, hln, z0, d15, ↓uc_e, ↓un0_e, oOpt_e, oRes_e, oIf_t, oIf_f, oGT_t, oGT_f, oGT_u, oGF_t, oGF_f, oGF_u, oPick_t, oPick_f, oInt_eql, oInt_neq, oInt_lss, oInt_leq, oInt_gtr, oInt_geq, aun_not, aextract_e, fa_e, abox_e, ptrTo, oCallV_e, decide_true, decide_false, Bool.not_true, Bool.not_false, List.getElem?_cons_zero, List.getElem?_cons_succ, List.cons_append, List.nil_append, cells_agg, cells_int, cells_slice, cells_bool, cells_ptr, ld1_u, ldN_u, st1_u, rdo_e, rdn_e, stw_e, anew_eq, Mem.push_next, Mem.put_next, Mem.rd_push, Mem.rd_push_eq, Mem.rd_push_lt, Mem.rd_put_eq, Mem.rd_put, List.take_zero, List.drop_zero, List.take_succ_cons, List.drop_succ_cons, List.drop_nil, List.take_nil, List.append_nil, List.length_cons, List.length_nil, Nat.zero_add, Nat.reduceAdd]
        repeat (rw [join_e]; try simp (disch := first | omega | with_unfolding_all exact id rfl | with_unfolding_all exact Nat.le_of_ble_eq_true rfl | (simp only [Mem.push_next, Mem.put_next, List.length_cons, List.length_nil, Nat.zero_add, Nat.reduceAdd, allOne, oneCell, Bool.and_self, Bool.and_true]; first | done | omega)) only [d12, hln, z0, d15, ↓uc_e, ↓un0_e, oOpt_e, oRes_e, oIf_t, oIf_f, oGT_t, oGT_f, oGT_u, oGF_t, oGF_f, oGF_u, oPick_t, oPick_f, oInt_eql, oInt_neq, oInt_lss, oInt_leq, oInt_gtr, oInt_geq, aun_not, aextract_e, fa_e, abox_e, ptrTo, oCallV_e, decide_true, decide_false, Bool.not_true, Bool.not_false, List.getElem?_cons_zero, List.getElem?_cons_succ, List.cons_append, List.nil_append, cells_agg, cells_int, cells_slice, cells_bool, cells_ptr, ld1_u, ldN_u, st1_u, rdo_e, rdn_e, stw_e, anew_eq, Mem.push_next, Mem.put_next, Mem.rd_push, Mem.rd_push_eq, Mem.rd_push_lt, Mem.rd_put_eq, Mem.rd_put, List.take_zero, List.drop_zero, List.take_succ_cons, List.drop_succ_cons, List.drop_nil, List.take_nil, List.append_nil, List.length_cons, List.length_nil, Nat.zero_add, Nat.reduceAdd])
        rw [r27]
        refine SClosed_sp hT3 ?_
        try simp (disch := first | omega | with_unfolding_all exact id rfl | with_unfolding_all exact Nat.le_of_ble_eq_true rfl | (simp only [Mem.push_next, Mem.put_next, List.length_cons, List.length_nil, Nat.zero_add, Nat.reduceAdd, allOne, oneCell, Bool.and_self, Bool.and_true]; first | done | omega)) only [↓uc_e, ↓un0_e, oOpt_e, oRes_e, oIf_t, oIf_f, oGT_t, oGT_f, oGT_u, oGF_t, oGF_f, oGF_u, oPick_t, oPick_f, oInt_eql, oInt_neq, oInt_lss, oInt_leq, oInt_gtr, oInt_geq, aun_not, aextract_e, fa_e, abox_e, ptrTo, oCallV_e, decide_true, decide_false, Bool.not_true, Bool.not_false, List.getElem?_cons_zero, List.getElem?_cons_succ, List.cons_append, List.nil_append, cells_agg, cells_int, cells_slice, cells_bool, cells_ptr, ld1_u, ldN_u, st1_u, rdo_e, rdn_e, stw_e, anew_eq, Mem.push_next, Mem.put_next, Mem.rd_push, Mem.rd_push_eq, Mem.rd_push_lt, Mem.rd_put_eq, Mem.rd_put, List.take_zero, List.drop_zero, List.take_succ_cons, List.drop_succ_cons, List.drop_nil, List.take_nil, List.append_nil, List.length_cons, List.length_nil, Nat.zero_add, Nat.reduceAdd]
        repeat (rw [join_e]; try simp (disch := first | omega | with_unfolding_all exact id rfl | with_unfolding_all exact Nat.le_of_ble_eq_true rfl | (simp only [Mem.push_next, Mem.put_next, List.length_cons, List.length_nil, Nat.zero_add, Nat.reduceAdd, allOne, oneCell, Bool.and_self, Bool.and_true]; first | done | omega)) only [↓uc_e, ↓un0_e, oOpt_e, oRes_e, oIf_t, oIf_f, oGT_t, oGT_f, oGT_u, oGF_t, oGF_f, oGF_u, oPick_t, oPick_f, oInt_eql, oInt_neq, oInt_lss, oInt_leq, oInt_gtr, oInt_geq, aun_not, aextract_e, fa_e, abox_e, ptrTo, oCallV_e, decide_true, decide_false, Bool.not_true, Bool.not_false, List.getElem?_cons_zero, List.getElem?_cons_succ, List.cons_append, List.nil_append, cells_agg, cells_int, cells_slice, cells_bool, cells_ptr, ld1_u, ldN_u, st1_u, rdo_e, rdn_e, stw_e, anew_eq, Mem.push_next, Mem.put_next, Mem.rd_push, Mem.rd_push_eq, Mem.rd_push_lt, Mem.rd_put_eq, Mem.rd_put, List.take_zero, List.drop_zero, List.take_succ_cons, List.drop_succ_cons, List.drop_nil, List.take_nil, List.append_nil, List.length_cons, List.length_nil, Nat.zero_add, Nat.reduceAdd])
        exact hk _
      · rw [if_neg hb]
        try simp (disch := first | omega | with_unfolding_all exact id rfl | with_unfolding_all exact Nat.le_of_ble_eq_true rfl | (simp only [Mem.push_next, Mem.put_next, List.length_cons, List.length_nil, Nat.zero_add, Nat.reduceAdd, allOne, oneCell, Bool.and_self, Bool.and_true]; first | done | omega)) only [abin_snil, Option.isNone_some, d0, d15, ↓uc_e, ↓un0_e, oOpt_e, oRes_e, oIf_t, oIf_f, oGT_t, oGT_f, oGT_u, oGF_t, oGF_f, oGF_u, oPick_t, oPick_f, oInt_eql, oInt_neq, oInt_lss, oInt_leq, oInt_gtr, oInt_geq, aun_not, aextract_e, fa_e, abox_e, ptrTo, oCallV_e, decide_true, decide_false, Bool.not_true, Bool.not_false, List.getElem?_cons_zero, List.getElem?_cons_succ, List.cons_append, List.nil_append, cells_agg, cells_int, cells_slice, cells_bool, cells_ptr, ld1_u, ldN_u, st1_u, rdo_e, rdn_e, stw_e, anew_eq, Mem.push_next, Mem.put_next, Mem.rd_push, Mem.rd_push_eq, Mem.rd_push_lt, Mem.rd_put_eq, Mem.rd_put, List.take_zero, List.drop_zero, List.take_succ_cons, List.drop_succ_cons, List.drop_nil, List.take_nil, List.append_nil, List.length_cons, List.length_nil, Nat.zero_add, Nat.reduceAdd]
        repeat (rw [join_e]; try simp (disch := first | omega | with_unfolding_all exact id rfl | with_unfolding_all exact Nat.le_of_ble_eq_true rfl | (simp only [Mem.push_next, Mem.put_next, List.length_cons, List.length_nil, Nat.zero_add, Nat.reduceAdd, allOne, oneCell, Bool.and_self, Bool.and_true]; first | done | omega)) only [d0, d15, ↓uc_e, ↓un0_e, oOpt_e, oRes_e, oIf_t, oIf_f, oGT_t, oGT_f, oGT_u, oGF_t, oGF_f, oGF_u, oPick_t, oPick_f, oInt_eql, oInt_neq, oInt_lss, oInt_leq, oInt_gtr, oInt_geq, aun_not, aextract_e, fa_e, abox_e, ptrTo, oCallV_e, decide_true, decide_false, Bool.not_true, Bool.not_false, List.getElem?_cons_zero, List.getElem?_cons_succ, List.cons_append, List.nil_append, cells_agg, cells_int, cells_slice, cells_bool, cells_ptr, ld1_u, ldN_u, st1_u, rdo_e, rdn_e, stw_e, anew_eq, Mem.push_next, Mem.put_next, Mem.rd_push, Mem.rd_push_eq, Mem.rd_push_lt, Mem.rd_put_eq, Mem.rd_put, List.take_zero, List.drop_zero, List.take_succ_cons, List.drop_succ_cons, List.drop_nil, List.take_nil, List.append_nil, List.length_cons, List.length_nil, Nat.zero_add, Nat.reduceAdd])
        refine same_sp hlf (hu2.mono e3) (hu'.mono e3).inn (by have := fewL_len (A : Int) (B : Int); rw [show fewL (A : Int) (B : Int) = bestW A B from if_pos hf] at this; omega) ?_
        try simp (disch := first | omega | with_unfolding_all exact id rfl | with_unfolding_all exact Nat.le_of_ble_eq_true rfl | (simp only [Mem.push_next, Mem.put_next, List.length_cons, List.length_nil, Nat.zero_add, Nat.reduceAdd, allOne, oneCell, Bool.and_self, Bool.and_true]; first | done | omega)) only [d0, d15, ↓uc_e, ↓un0_e, oOpt_e, oRes_e, oIf_t, oIf_f, oGT_t, oGT_f, oGT_u, oGF_t, oGF_f, oGF_u, oPick_t, oPick_f, oInt_eql, oInt_neq, oInt_lss, oInt_leq, oInt_gtr, oInt_geq, aun_not, aextract_e, fa_e, abox_e, ptrTo, oCallV_e, decide_true, decide_false, Bool.not_true, Bool.not_false, List.getElem?_cons_zero, List.getElem?_cons_succ, List.cons_append, List.nil_append, cells_agg, cells_int, cells_slice, cells_bool, cells_ptr, ld1_u, ldN_u, st1_u, rdo_e, rdn_e, stw_e, anew_eq, Mem.push_next, Mem.put_next, Mem.rd_push, Mem.rd_push_eq, Mem.rd_push_lt, Mem.rd_put_eq, Mem.rd_put, List.take_zero, List.drop_zero, List.take_succ_cons, List.drop_succ_cons, List.drop_nil, List.take_nil, List.append_nil, List.length_cons, List.length_nil, Nat.zero_add, Nat.reduceAdd]
        repeat (rw [join_e]; try simp (disch := first | omega | with_unfolding_all exact id rfl | with_unfolding_all exact Nat.le_of_ble_eq_true rfl | (simp only [Mem.push_next, Mem.put_next, List.length_cons, List.length_nil, Nat.zero_add, Nat.reduceAdd, allOne, oneCell, Bool.and_self, Bool.and_true]; first | done | omega)) only [d0, d15, ↓uc_e, ↓un0_e, oOpt_e, oRes_e, oIf_t, oIf_f, oGT_t, oGT_f, oGT_u, oGF_t, oGF_f, oGF_u, oPick_t, oPick_f, oInt_eql, oInt_neq, oInt_lss, oInt_leq, oInt_gtr, oInt_geq, aun_not, aextract_e, fa_e, abox_e, ptrTo, oCallV_e, decide_true, decide_false, Bool.not_true, Bool.not_false, List.getElem?_cons_zero, List.getElem?_cons_succ, List.cons_append, List.nil_append, cells_agg, cells_int, cells_slice, cells_bool, cells_ptr, ld1_u, ldN_u, st1_u, rdo_e, rdn_e, stw_e, anew_eq, Mem.push_next, Mem.put_next, Mem.rd_push, Mem.rd_push_eq, Mem.rd_push_lt, Mem.rd_put_eq, Mem.rd_put, List.take_zero, List.drop_zero, List.take_succ_cons, List.drop_succ_cons, List.drop_nil, List.take_nil, List.append_nil, List.length_cons, List.length_nil, Nat.zero_add, Nat.reduceAdd])
        rw [r27]
        refine SClosed_sp hT3 ?_
        try simp (disch := first | omega | with_unfolding_all exact id rfl | with_unfolding_all exact Nat.le_of_ble_eq_true rfl | (simp only [Mem.push_next, Mem.put_next, List.length_cons, List.length_nil, Nat.zero_add, Nat.reduceAdd, allOne, oneCell, Bool.and_self, Bool.and_true]; first | done | omega)) only [↓uc_e, ↓un0_e, oOpt_e, oRes_e, oIf_t, oIf_f, oGT_t, oGT_f, oGT_u, oGF_t, oGF_f, oGF_u, oPick_t, oPick_f, oInt_eql, oInt_neq, oInt_lss, oInt_leq, oInt_gtr, oInt_geq, aun_not, aextract_e, fa_e, abox_e, ptrTo, oCallV_e, decide_true, decide_false, Bool.not_true, Bool.not_false, List.getElem?_cons_zero, List.getElem?_cons_succ, List.cons_append, List.nil_append, cells_agg, cells_int, cells_slice, cells_bool, cells_ptr, ld1_u, ldN_u, st1_u, rdo_e, rdn_e, stw_e, anew_eq, Mem.push_next, Mem.put_next, Mem.rd_push, Mem.rd_push_eq, Mem.rd_push_lt, Mem.rd_put_eq, Mem.rd_put, List.take_zero, List.drop_zero, List.take_succ_cons, List.drop_succ_cons, List.drop_nil, List.take_nil, List.append_nil, List.length_cons, List.length_nil, Nat.zero_add, Nat.reduceAdd]
        repeat (rw [join_e]; try simp (disch := first | omega | with_unfolding_all exact id rfl | with_unfolding_all exact Nat.le_of_ble_eq_true rfl | (simp only [Mem.push_next, Mem.put_next, List.length_cons, List.length_nil, Nat.zero_add, Nat.reduceAdd, allOne, oneCell, Bool.and_self, Bool.and_true]; first | done | omega)) only [↓uc_e, ↓un0_e, oOpt_e, oRes_e, oIf_t, oIf_f, oGT_t, oGT_f, oGT_u, oGF_t, oGF_f, oGF_u, oPick_t, oPick_f, oInt_eql, oInt_neq, oInt_lss, oInt_leq, oInt_gtr, oInt_geq, aun_not, aextract_e, fa_e, abox_e, ptrTo, oCallV_e, decide_true, decide_false, Bool.not_true, Bool.not_false, List.getElem?_cons_zero, List.getElem?_cons_succ, List.cons_append, List.nil_append, cells_agg, cells_int, cells_slice, cells_bool, cells_ptr, ld1_u, ldN_u, st1_u, rdo_e, rdn_e, stw_e, anew_eq, Mem.push_next, Mem.put_next, Mem.rd_push, Mem.rd_push_eq, Mem.rd_push_lt, Mem.rd_put_eq, Mem.rd_put, List.take_zero, List.drop_zero, List.take_succ_cons, List.drop_succ_cons, List.drop_nil, List.take_nil, List.append_nil, List.length_cons, List.length_nil, Nat.zero_add, Nat.reduceAdd])
        exact hk _
    · have hT3 := hT2.mono e3
      rcases (hu'.mono e3).isNil with ⟨rfl, hb⟩ | ⟨p, q, c, rfl, hb⟩
      · rw [if_pos hb]
        rw [hb] at hu2
        have hln := (hu2.mono e3).ln
        have hg3 : ¬ g.length ≤ 3 := fun h => (best_len (by omega) hgw).2 hb
        have dg : decide ((3 : Int) < (g.length : Int)) = true := decide_eq_true (by omega)
        try simp (disch := first | omega | with_unfolding_all exact id rfl | with_unfolding_all exact Nat.le_of_ble_eq_true rfl | (simp only [Mem.push_next, Mem.put_next, List.length_cons, List.length_nil, Nat.zero_add, Nat.reduceAdd, allOne, oneCell, Bool.and_self, Bool.and_true]; first | done | omega)) only [abin_snil, Option.isNone_none, d12, hln, z0, d0, hg.ln, dg, ↓uc_e, ↓un0_e, oOpt_e, oRes_e, oIf_t, oIf_f, oGT_t, oGT_f, oGT_u, oGF_t, oGF_f, oGF_u, oPick_t, oPick_f, oInt_eql, oInt_neq, oInt_lss, oInt_leq, oInt_gtr, oInt_geq, aun_not, aextract_e, fa_e, abox_e, ptrTo, oCallV_e, decide_true, decide_false, Bool.not_true, Bool.not_false, List.getElem?_cons_zero, List.getElem?_cons_succ, List.cons_append, List.nil_append, cells_agg, cells_int, cells_slice, cells_bool, cells_ptr, ld1_u, ldN_u, st1_u, rdo_e, rdn_e, stw_e, anew_eq, Mem.push_next, Mem.put_next, Mem.rd_push, Mem.rd_push_eq, Mem.rd_push_lt, Mem.rd_put_eq, Mem.rd_put, List.take_zero, List.drop_zero, List.take_succ_cons, List.drop_succ_cons, List.drop_nil, List.take_nil, List.append_nil, List.length_cons, List.length_nil, Nat.zero_add, Nat.reduceAdd]
        repeat (rw [join_e]; try simp (disch := first | omega | with_unfolding_all exact id rfl | with_unfolding_all exact Nat.le_of_ble_eq_true rfl | (simp only [Mem.push_next, Mem.put_next, List.length_cons, List.length_nil, Nat.zero_add, Nat.reduceAdd, allOne, oneCell, Bool.and_self, Bool.and_true]; first | done | omega)) only [d12, hln, z0, d0, hg.ln, dg, ↓uc_e, ↓un0_e, oOpt_e, oRes_e, oIf_t, oIf_f, oGT_t, oGT_f, oGT_u, oGF_t, oGF_f, oGF_u, oPick_t, oPick_f, oInt_eql, oInt_neq, oInt_lss, oInt_leq, oInt_gtr, oInt_geq, aun_not, aextract_e, fa_e, abox_e, ptrTo, oCallV_e, decide_true, decide_false, Bool.not_true, Bool.not_false, List.getElem?_cons_zero, List.getElem?_cons_succ, List.cons_append, List.nil_append, cells_agg, cells_int, cells_slice, cells_bool, cells_ptr, ld1_u, ldN_u, st1_u, rdo_e, rdn_e, stw_e, anew_eq, Mem.push_next, Mem.put_next, Mem.rd_push, Mem.rd_push_eq, Mem.rd_push_lt, Mem.rd_put_eq, Mem.rd_put, List.take_zero, List.drop_zero, List.take_succ_cons, List.drop_succ_cons, List.drop_nil, List.take_nil, List.append_nil, List.length_cons, List.length_nil, Nat.zero_add, Nat.reduceAdd])
        rw [r27]
        refine SClosed_sp hT3 ?_
        try simp (disch := first | omega | with_unfolding_all exact id rfl | with_unfolding_all exact Nat.le_of_ble_eq_true rfl | (simp only [Mem.push_next, Mem.put_next, List.length_cons, List.length_nil, Nat.zero_add, Nat.reduceAdd, allOne, oneCell, Bool.and_self, Bool.and_true]; first | done | omega)) only [↓uc_e, ↓un0_e, oOpt_e, oRes_e, oIf_t, oIf_f, oGT_t, oGT_f, oGT_u, oGF_t, oGF_f, oGF_u, oPick_t, oPick_f, oInt_eql, oInt_neq, oInt_lss, oInt_leq, oInt_gtr, oInt_geq, aun_not, aextract_e, fa_e, abox_e, ptrTo, oCallV_e, decide_true, decide_false, Bool.not_true, Bool.not_false, List.getElem?_cons_zero, List.getElem?_cons_succ, List.cons_append, List.nil_append, cells_agg, cells_int, cells_slice, cells_bool, cells_ptr, ld1_u, ldN_u, st1_u, rdo_e, rdn_e, stw_e, anew_eq, Mem.push_next, Mem.put_next, Mem.rd_push, Mem.rd_push_eq, Mem.rd_push_lt, Mem.rd_put_eq, Mem.rd_put, List.take_zero, List.drop_zero, List.take_succ_cons, List.drop_succ_cons, List.drop_nil, List.take_nil, List.append_nil, List.length_cons, List.length_nil, Nat.zero_add, Nat.reduceAdd]
        repeat (rw [join_e]; try simp (disch := first | omega | with_unfolding_all exact id rfl | with_unfolding_all exact Nat.le_of_ble_eq_true rfl | (simp only [Mem.push_next, Mem.put_next, List.length_cons, List.length_nil, Nat.zero_add, Nat.reduceAdd, allOne, oneCell, Bool.and_self, Bool.and_true]; first | done | omega)) only [↓uc_e, ↓un0_e, oOpt_e, oRes_e, oIf_t, oIf_f, oGT_t, oGT_f, oGT_u, oGF_t, oGF_f, oGF_u, oPick_t, oPick_f, oInt_eql, oInt_neq, oInt_lss, oInt_leq, oInt_gtr, oInt_geq, aun_not, aextract_e, fa_e, abox_e, ptrTo, oCallV_e, decide_true, decide_false, Bool.not_true, Bool.not_false, List.getElem?_cons_zero, List.getElem?_cons_succ, List.cons_append, List.nil_append, cells_agg, cells_int, cells_slice, cells_bool, cells_ptr, ld1_u, ldN_u, st1_u, rdo_e, rdn_e, stw_e, anew_eq, Mem.push_next, Mem.put_next, Mem.rd_push, Mem.rd_push_eq, Mem.rd_push_lt, Mem.rd_put_eq, Mem.rd_put, List.take_zero, List.drop_zero, List.take_succ_cons, List.drop_succ_cons, List.drop_nil, List.take_nil, List.append_nil, List.length_cons, List.length_nil, Nat.zero_add, Nat.reduceAdd])
        exact hk _
      · rw [if_neg hb]
        have hln := (hu2.mono e3).ln
        have hbl : (bestW A B).length ≤ g.length := by
          by_cases h3 : g.length ≤ 3
          · have := (best_len (a := A) (b := B) (by omega) hgw).1; omega
          · have hm : bestW A B ∈ flatW A B 3 := by
              cases hfl : flatW A B 3 with
              | nil => exact absurd (show bestW A B = [] by unfold bestW; rw [hfl]; rfl) hb
              | cons x l => unfold bestW; rw [hfl]; simp
            have := (flatW_len hm).2; omega
        have dg : decide (((bestW A B).length : Int) ≤ (g.length : Int)) = true := decide_eq_true (by omega)
        try simp (disch := first | omega | with_unfolding_all exact id rfl | with_unfolding_all exact Nat.le_of_ble_eq_true rfl | (simp only [Mem.push_next, Mem.put_next, List.length_cons, List.length_nil, Nat.zero_add, Nat.reduceAdd, allOne, oneCell, Bool.and_self, Bool.and_true]; first | done | omega)) only [abin_snil, Option.isNone_some, d0, ↓uc_e, ↓un0_e, oOpt_e, oRes_e, oIf_t, oIf_f, oGT_t, oGT_f, oGT_u, oGF_t, oGF_f, oGF_u, oPick_t, oPick_f, oInt_eql, oInt_neq, oInt_lss, oInt_leq, oInt_gtr, oInt_geq, aun_not, aextract_e, fa_e, abox_e, ptrTo, oCallV_e, decide_true, decide_false, Bool.not_true, Bool.not_false, List.getElem?_cons_zero, List.getElem?_cons_succ, List.cons_append, List.nil_append, cells_agg, cells_int, cells_slice, cells_bool, cells_ptr, ld1_u, ldN_u, st1_u, rdo_e, rdn_e, stw_e, anew_eq, Mem.push_next, Mem.put_next, Mem.rd_push, Mem.rd_push_eq, Mem.rd_push_lt, Mem.rd_put_eq, Mem.rd_put, List.take_zero, List.drop_zero, List.take_succ_cons, List.drop_succ_cons, List.drop_nil, List.take_nil, List.append_nil, List.length_cons, List.length_nil, Nat.zero_add, Nat.reduceAdd]
        repeat (rw [join_e]; try simp (disch := first | omega | with_unfolding_all exact id rfl | with_unfolding_all exact Nat.le_of_ble_eq_true rfl | (simp only [Mem.push_next, Mem.put_next, List.length_cons, List.length_nil, Nat.zero_add, Nat.reduceAdd, allOne, oneCell, Bool.and_self, Bool.and_true]; first | done | omega)) only [d0, ↓uc_e, ↓un0_e, oOpt_e, oRes_e, oIf_t, oIf_f, oGT_t, oGT_f, oGT_u, oGF_t, oGF_f, oGF_u, oPick_t, oPick_f, oInt_eql, oInt_neq, oInt_lss, oInt_leq, oInt_gtr, oInt_geq, aun_not, aextract_e, fa_e, abox_e, ptrTo, oCallV_e, decide_true, decide_false, Bool.not_true, Bool.not_false, List.getElem?_cons_zero, List.getElem?_cons_succ, List.cons_append, List.nil_append, cells_agg, cells_int, cells_slice, cells_bool, cells_ptr, ld1_u, ldN_u, st1_u, rdo_e, rdn_e, stw_e, anew_eq, Mem.push_next, Mem.put_next, Mem.rd_push, Mem.rd_push_eq, Mem.rd_push_lt, Mem.rd_put_eq, Mem.rd_put, List.take_zero, List.drop_zero, List.take_succ_cons, List.drop_succ_cons, List.drop_nil, List.take_nil, List.append_nil, List.length_cons, List.length_nil, Nat.zero_add, Nat.reduceAdd])
        refine same_sp hlf (hu2.mono e3) (hu'.mono e3).inn (by have := fewL_len (A : Int) (B : Int); rw [show fewL (A : Int) (B : Int) = bestW A B from if_pos hf] at this; omega) ?_
        try simp (disch := first | omega | with_unfolding_all exact id rfl | with_unfolding_all exact Nat.le_of_ble_eq_true rfl | (simp only [Mem.push_next, Mem.put_next, List.length_cons, List.length_nil, Nat.zero_add, Nat.reduceAdd, allOne, oneCell, Bool.and_self, Bool.and_true]; first | done | omega)) only [d0, hg.ln, hln, dg, ↓uc_e, ↓un0_e, oOpt_e, oRes_e, oIf_t, oIf_f, oGT_t, oGT_f, oGT_u, oGF_t, oGF_f, oGF_u, oPick_t, oPick_f, oInt_eql, oInt_neq, oInt_lss, oInt_leq, oInt_gtr, oInt_geq, aun_not, aextract_e, fa_e, abox_e, ptrTo, oCallV_e, decide_true, decide_false, Bool.not_true, Bool.not_false, List.getElem?_cons_zero, List.getElem?_cons_succ, List.cons_append, List.nil_append, cells_agg, cells_int, cells_slice, cells_bool, cells_ptr, ld1_u, ldN_u, st1_u, rdo_e, rdn_e, stw_e, anew_eq, Mem.push_next, Mem.put_next, Mem.rd_push, Mem.rd_push_eq, Mem.rd_push_lt, Mem.rd_put_eq, Mem.rd_put, List.take_zero, List.drop_zero, List.take_succ_cons, List.drop_succ_cons, List.drop_nil, List.take_nil, List.append_nil, List.length_cons, List.length_nil, Nat.zero_add, Nat.reduceAdd]
        repeat (rw [join_e]; try simp (disch := first | omega | with_unfolding_all exact id rfl | with_unfolding_all exact Nat.le_of_ble_eq_true rfl | (simp only [Mem.push_next, Mem.put_next, List.length_cons, List.length_nil, Nat.zero_add, Nat.reduceAdd, allOne, oneCell, Bool.and_self, Bool.and_true]; first | done | omega)) only [d0, hg.ln, hln, dg, ↓uc_e, ↓un0_e, oOpt_e, oRes_e, oIf_t, oIf_f, oGT_t, oGT_f, oGT_u, oGF_t, oGF_f, oGF_u, oPick_t, oPick_f, oInt_eql, oInt_neq, oInt_lss, oInt_leq, oInt_gtr, oInt_geq, aun_not, aextract_e, fa_e, abox_e, ptrTo, oCallV_e, decide_true, decide_false, Bool.not_true, Bool.not_false, List.getElem?_cons_zero, List.getElem?_cons_succ, List.cons_append, List.nil_append, cells_agg, cells_int, cells_slice, cells_bool, cells_ptr, ld1_u, ldN_u, st1_u, rdo_e, rdn_e, stw_e, anew_eq, Mem.push_next, Mem.put_next, Mem.rd_push, Mem.rd_push_eq, Mem.rd_push_lt, Mem.rd_put_eq, Mem.rd_put, List.take_zero, List.drop_zero, List.take_succ_cons, List.drop_succ_cons, List.drop_nil, List.take_nil, List.append_nil, List.length_cons, List.length_nil, Nat.zero_add, Nat.reduceAdd])
        rw [r27]
        refine SClosed_sp hT3 ?_
        try simp (disch := first | omega | with_unfolding_all exact id rfl | with_unfolding_all exact Nat.le_of_ble_eq_true rfl | (simp only [Mem.push_next, Mem.put_next, List.length_cons, List.length_nil, Nat.zero_add, Nat.reduceAdd, allOne, oneCell, Bool.and_self, Bool.and_true]; first | done | omega)) only [↓uc_e, ↓un0_e, oOpt_e, oRes_e, oIf_t, oIf_f, oGT_t, oGT_f, oGT_u, oGF_t, oGF_f, oGF_u, oPick_t, oPick_f, oInt_eql, oInt_neq, oInt_lss, oInt_leq, oInt_gtr, oInt_geq, aun_not, aextract_e, fa_e, abox_e, ptrTo, oCallV_e, decide_true, decide_false, Bool.not_true, Bool.not_false, List.getElem?_cons_zero, List.getElem?_cons_succ, List.cons_append, List.nil_append, cells_agg, cells_int, cells_slice, cells_bool, cells_ptr, ld1_u, ldN_u, st1_u, rdo_e, rdn_e, stw_e, anew_eq, Mem.push_next, Mem.put_next, Mem.rd_push, Mem.rd_push_eq, Mem.rd_push_lt, Mem.rd_put_eq, Mem.rd_put, List.take_zero, List.drop_zero, List.take_succ_cons, List.drop_succ_cons, List.drop_nil, List.take_nil, List.append_nil, List.length_cons, List.length_nil, Nat.zero_add, Nat.reduceAdd]
        repeat (rw [join_e]; try simp (disch := first | omega | with_unfolding_all exact id rfl | with_unfolding_all exact Nat.le_of_ble_eq_true rfl | (simp only [Mem.push_next, Mem.put_next, List.length_cons, List.length_nil, Nat.zero_add, Nat.reduceAdd, allOne, oneCell, Bool.and_self, Bool.and_true]; first | done | omega)) only [↓uc_e, ↓un0_e, oOpt_e, oRes_e, oIf_t, oIf_f, oGT_t, oGT_f, oGT_u, oGF_t, oGF_f, oGF_u, oPick_t, oPick_f, oInt_eql, oInt_neq, oInt_lss, oInt_leq, oInt_gtr, oInt_geq, aun_not, aextract_e, fa_e, abox_e, ptrTo, oCallV_e, decide_true, decide_false, Bool.not_true, Bool.not_false, List.getElem?_cons_zero, List.getElem?_cons_succ, List.cons_append, List.nil_append, cells_agg, cells_int, cells_slice, cells_bool, cells_ptr, ld1_u, ldN_u, st1_u, rdo_e, rdn_e, stw_e, anew_eq, Mem.push_next, Mem.put_next, Mem.rd_push, Mem.rd_push_eq, Mem.rd_push_lt, Mem.rd_put_eq, Mem.rd_put, List.take_zero, List.drop_zero, List.take_succ_cons, List.drop_succ_cons, List.drop_nil, List.take_nil, List.append_nil, List.length_cons, List.length_nil, Nat.zero_add, Nat.reduceAdd])
        exact hk _
end
end Go.Vit
