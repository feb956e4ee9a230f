/- Walks: Contains, the sum's parts, the greatest common divisor. -/
import Derived.Test.YtcaoifacidnhcaaDoorCalls
import Derived.Test.YtcaoifacidnhcaaDoorVitW
import Derived.Test.YtcaoifacidnhcaaDoorVitZ
set_option linter.unusedSimpArgs false
set_option linter.unusedVariables false
set_option maxRecDepth 20000
namespace Go.Vit
open Go Go.Proofs
attribute [local irreducible] runT loopS
theorem u30 : Tryd.prog.underlying 30 = some (.slice 3) := by kernel_rfl
theorem ts3 : tsize Tryd.prog 3 = some 1 := by kernel_rfl
theorem ael30 : aelem Tryd.prog 30 = some (1, 8) := by kernel_rfl
theorem bs30 (m : Mem) (x : Int) : bs Tryd.prog m 30 1 [(0, .int .i64 x)] = some (slTo 1 m.next, m.push ⟨1, [.int .i64 x], none⟩) :=
  (show _ = anew m 1 [.int .i64 x] (slTo 1) by kernel_rfl).trans (anew_eq ..)
theorem oCv_nat {kd : IntKind} {a : Nat} (ha : a < 9223372036854775808) (k : Value → Option Unit) : oCv .i64 (.int kd (a : Int)) k = k (.int .i64 (a : Int)) := by
  show oOpt (mkI .i64 (fwrap .i64 (a : Int))) k = _
  rw [fwrap_fit ⟨by omega, by omega⟩, mkI_e, oOpt_e]
theorem oInt_addN {a b : Nat} (h : a + b < 9223372036854775808) (k : Value → Option Unit) : oInt .add .i64 (.int .i64 (a : Int)) (.int .i64 (b : Int)) k = k (.int .i64 ((a + b : Nat) : Int)) := by
  rw [oInt_add ⟨by omega, by omega⟩]; rfl
theorem oInt_mulN {a b : Nat} (h : a * b < 9223372036854775808) (k : Value → Option Unit) : oInt .mul .i64 (.int .i64 (a : Int)) (.int .i64 (b : Int)) k = k (.int .i64 ((a * b : Nat) : Int)) := by
  have h1 : ((a * b : Nat) : Int) = (a : Int) * (b : Int) := Int.natCast_mul a b
  rw [oInt_mul ⟨by rw [← h1]; omega, by rw [← h1]; omega⟩, h1]
theorem oInt_quoN {a b : Nat} (hb : 0 < b) (ha : a < 9223372036854775808) (k : Value → Option Unit) : oInt .quo .i64 (.int .i64 (a : Int)) (.int .i64 (b : Int)) k = k (.int .i64 ((a / b : Nat) : Int)) := by
  rw [oInt_quo (by omega) (by omega) (by omega), Int.natCast_ediv]
theorem oInt_remN {a b : Nat} (hb : 0 < b) (k : Value → Option Unit) : oInt .rem .i64 (.int .i64 (a : Int)) (.int .i64 (b : Int)) k = k (.int .i64 ((a % b : Nat) : Int)) := by
  rw [oInt_rem (by omega) (by omega)]; rfl
section
variable {lf n L : Nat} {m : Mem} {k : Value → Mem → Option Unit}
/-- slices.Index: where a number first stands, -1: nowhere. -/
theorem index_sp {v : Value} {l : List Nat} {x : Nat} (hlf : 1000000 ≤ lf) (hv : IN m v l) (hl : l.length < 1000000)
    (h1 : ∀ i : Nat, x ∈ l → k (.int .i64 (i : Int)) m = some ()) (h2 : x ∉ l → k (.int .i64 (-1)) m = some ()) : runT (tab lf) (n + 1) 74 [v, .int .i64 (x : Int)] L m k = some () := by
  rw [r74]; dsimp only [S74, iofNat, inegSucc]
  try simp (disch := first | omega | with_unfolding_all exact id rfl | with_unfolding_all exact Nat.le_of_ble_eq_true rfl | (simp only [Mem.push_next, Mem.put_next, List.length_cons, List.length_nil, Nat.zero_add, Nat.reduceAdd, allOne, oneCell, Bool.and_self, Bool.and_true]; first | done | omega)) only [hv.ln, ↓uc_e, ↓un0_e, ↓join_e, oOpt_e, oRes_e, oIf_t, oIf_f, oGT_t, oGT_f, oGT_u, oGF_t, oGF_f, oGF_u, oPick_t, oPick_f, oInt_eql, oInt_neq, oInt_lss, oInt_leq, oInt_gtr, oInt_geq, aun_not, aextract_e, fa_e, abox_e, ptrTo, oCallV_e, decide_true, decide_false, Bool.not_true, Bool.not_false, List.getElem?_cons_zero, List.getElem?_cons_succ, List.cons_append, List.nil_append, cells_agg, cells_int, cells_slice, cells_bool, cells_ptr, ld1_u, ldN_u, st1_u, rdo_e, rdn_e, stw_e, anew_eq, Mem.push_next, Mem.put_next, Mem.rd_push, Mem.rd_push_eq, Mem.rd_push_lt, Mem.rd_put_eq, Mem.rd_put, List.take_zero, List.drop_zero, List.take_succ_cons, List.drop_succ_cons, List.drop_nil, List.take_nil, List.append_nil, List.length_cons, List.length_nil, Nat.zero_add, Nat.reduceAdd]
  refine loop_up l.length (fun i vs m' => vs = [.int .i64 (i : Int)] ∧ m' = m ∧ ∀ j (h : j < l.length), j < i → l[j] ≠ x) (by omega) ⟨rfl, rfl, fun j h hj => by omega⟩ ?_
  rintro i vs m' hi ⟨rfl, rfl, hno⟩ self hself
  try simp (disch := first | omega | with_unfolding_all exact id rfl | with_unfolding_all exact Nat.le_of_ble_eq_true rfl | (simp only [Mem.push_next, Mem.put_next, List.length_cons, List.length_nil, Nat.zero_add, Nat.reduceAdd, allOne, oneCell, Bool.and_self, Bool.and_true]; first | done | omega)) only [↓uc_e, ↓un0_e, ↓join_e, oOpt_e, oRes_e, oIf_t, oIf_f, oGT_t, oGT_f, oGT_u, oGF_t, oGF_f, oGF_u, oPick_t, oPick_f, oInt_eql, oInt_neq, oInt_lss, oInt_leq, oInt_gtr, oInt_geq, aun_not, aextract_e, fa_e, abox_e, ptrTo, oCallV_e, decide_true, decide_false, Bool.not_true, Bool.not_false, List.getElem?_cons_zero, List.getElem?_cons_succ, List.cons_append, List.nil_append, cells_agg, cells_int, cells_slice, cells_bool, cells_ptr, ld1_u, ldN_u, st1_u, rdo_e, rdn_e, stw_e, anew_eq, Mem.push_next, Mem.put_next, Mem.rd_push, Mem.rd_push_eq, Mem.rd_push_lt, Mem.rd_put_eq, Mem.rd_put, List.take_zero, List.drop_zero, List.take_succ_cons, List.drop_succ_cons, List.drop_nil, List.take_nil, List.append_nil, List.length_cons, List.length_nil, Nat.zero_add, Nat.reduceAdd]
  refine oIf_dec (fun h => ?_) (fun h => ?_)
  · have hil : i < l.length := by omega
    rw [hv.ia hil, oOpt_e, hv.ld hil, oOpt_e, oInt_eql]
    refine oIf_dec (fun he => ?_) (fun he => ?_)
    · exact h1 i (by have : x = l[i] := by omega
                     rw [this]; exact List.getElem_mem hil)
    · rw [oInt_add ⟨by omega, by omega⟩]
      refine hself hil _ _ ⟨rfl, rfl, fun j hj hji => ?_⟩
      by_cases hje : j = i
      · subst hje; omega
      · exact hno j hj (by omega)
  · refine h2 fun hx => ?_
    obtain ⟨j, hj, rfl⟩ := List.getElem_of_mem hx
    exact hno j hj (by omega) rfl
theorem contains_sp {v : Value} {l : List Nat} {x : Nat} (hlf : 1000000 ≤ lf) (hv : IN m v l) (hl : l.length < 1000000)
    (hk : k (.bool (decide (x ∈ l))) m = some ()) : runT (tab lf) (n + 2) 51 [v, .int .i64 (x : Int)] L m k = some () := by
  rw [r51]; dsimp only [S51, iofNat, inegSucc]
  try simp (disch := first | omega | with_unfolding_all exact id rfl | with_unfolding_all exact Nat.le_of_ble_eq_true rfl | (simp only [Mem.push_next, Mem.put_next, List.length_cons, List.length_nil, Nat.zero_add, Nat.reduceAdd, allOne, oneCell, Bool.and_self, Bool.and_true]; first | done | omega)) only [↓uc_e, ↓un0_e, ↓join_e, oOpt_e, oRes_e, oIf_t, oIf_f, oGT_t, oGT_f, oGT_u, oGF_t, oGF_f, oGF_u, oPick_t, oPick_f, oInt_eql, oInt_neq, oInt_lss, oInt_leq, oInt_gtr, oInt_geq, aun_not, aextract_e, fa_e, abox_e, ptrTo, oCallV_e, decide_true, decide_false, Bool.not_true, Bool.not_false, List.getElem?_cons_zero, List.getElem?_cons_succ, List.cons_append, List.nil_append, cells_agg, cells_int, cells_slice, cells_bool, cells_ptr, ld1_u, ldN_u, st1_u, rdo_e, rdn_e, stw_e, anew_eq, Mem.push_next, Mem.put_next, Mem.rd_push, Mem.rd_push_eq, Mem.rd_push_lt, Mem.rd_put_eq, Mem.rd_put, List.take_zero, List.drop_zero, List.take_succ_cons, List.drop_succ_cons, List.drop_nil, List.take_nil, List.append_nil, List.length_cons, List.length_nil, Nat.zero_add, Nat.reduceAdd]
  refine index_sp hlf hv hl (fun i hx => ?_) (fun hx => ?_)
  · try simp (disch := first | omega | with_unfolding_all exact id rfl | with_unfolding_all exact Nat.le_of_ble_eq_true rfl | (simp only [Mem.push_next, Mem.put_next, List.length_cons, List.length_nil, Nat.zero_add, Nat.reduceAdd, allOne, oneCell, Bool.and_self, Bool.and_true]; first | done | omega)) only [↓uc_e, ↓un0_e, ↓join_e, oOpt_e, oRes_e, oIf_t, oIf_f, oGT_t, oGT_f, oGT_u, oGF_t, oGF_f, oGF_u, oPick_t, oPick_f, oInt_eql, oInt_neq, oInt_lss, oInt_leq, oInt_gtr, oInt_geq, aun_not, aextract_e, fa_e, abox_e, ptrTo, oCallV_e, decide_true, decide_false, Bool.not_true, Bool.not_false, List.getElem?_cons_zero, List.getElem?_cons_succ, List.cons_append, List.nil_append, cells_agg, cells_int, cells_slice, cells_bool, cells_ptr, ld1_u, ldN_u, st1_u, rdo_e, rdn_e, stw_e, anew_eq, Mem.push_next, Mem.put_next, Mem.rd_push, Mem.rd_push_eq, Mem.rd_push_lt, Mem.rd_put_eq, Mem.rd_put, List.take_zero, List.drop_zero, List.take_succ_cons, List.drop_succ_cons, List.drop_nil, List.take_nil, List.append_nil, List.length_cons, List.length_nil, Nat.zero_add, Nat.reduceAdd]
    have : (0 : Int) ≤ (i : Int) := by omega
    rw [decide_eq_true this]
    rw [decide_eq_true hx] at hk
    exact hk
  · try simp (disch := first | omega | with_unfolding_all exact id rfl | with_unfolding_all exact Nat.le_of_ble_eq_true rfl | (simp only [Mem.push_next, Mem.put_next, List.length_cons, List.length_nil, Nat.zero_add, Nat.reduceAdd, allOne, oneCell, Bool.and_self, Bool.and_true]; first | done | omega)) only [↓uc_e, ↓un0_e, ↓join_e, oOpt_e, oRes_e, oIf_t, oIf_f, oGT_t, oGT_f, oGT_u, oGF_t, oGF_f, oGF_u, oPick_t, oPick_f, oInt_eql, oInt_neq, oInt_lss, oInt_leq, oInt_gtr, oInt_geq, aun_not, aextract_e, fa_e, abox_e, ptrTo, oCallV_e, decide_true, decide_false, Bool.not_true, Bool.not_false, List.getElem?_cons_zero, List.getElem?_cons_succ, List.cons_append, List.nil_append, cells_agg, cells_int, cells_slice, cells_bool, cells_ptr, ld1_u, ldN_u, st1_u, rdo_e, rdn_e, stw_e, anew_eq, Mem.push_next, Mem.put_next, Mem.rd_push, Mem.rd_push_eq, Mem.rd_push_lt, Mem.rd_put_eq, Mem.rd_put, List.take_zero, List.drop_zero, List.take_succ_cons, List.drop_succ_cons, List.drop_nil, List.take_nil, List.append_nil, List.length_cons, List.length_nil, Nat.zero_add, Nat.reduceAdd]
    rw [decide_eq_false hx] at hk
    exact hk
/-- The greatest common divisor, by recursion: two calls halve the second number. -/
theorem gcd_one {a b : Nat} (h : b = 0 → k (.int .i64 (a : Int)) m = some ()) (h2 : 0 < b → runT (tab lf) n 67 [.int .i64 (b : Int), .int .i64 ((a % b : Nat) : Int)] L m k = some ()) : runT (tab lf) (n + 1) 67 [.int .i64 (a : Int), .int .i64 (b : Int)] L m k = some () := by
  rw [r67]; dsimp only [S67, iofNat, inegSucc]
  try simp (disch := first | omega | with_unfolding_all exact id rfl | with_unfolding_all exact Nat.le_of_ble_eq_true rfl | (simp only [Mem.push_next, Mem.put_next, List.length_cons, List.length_nil, Nat.zero_add, Nat.reduceAdd, allOne, oneCell, Bool.and_self, Bool.and_true]; first | done | omega)) only [↓uc_e, ↓un0_e, ↓join_e, oOpt_e, oRes_e, oIf_t, oIf_f, oGT_t, oGT_f, oGT_u, oGF_t, oGF_f, oGF_u, oPick_t, oPick_f, oInt_eql, oInt_neq, oInt_lss, oInt_leq, oInt_gtr, oInt_geq, aun_not, aextract_e, fa_e, abox_e, ptrTo, oCallV_e, decide_true, decide_false, Bool.not_true, Bool.not_false, List.getElem?_cons_zero, List.getElem?_cons_succ, List.cons_append, List.nil_append, cells_agg, cells_int, cells_slice, cells_bool, cells_ptr, ld1_u, ldN_u, st1_u, rdo_e, rdn_e, stw_e, anew_eq, Mem.push_next, Mem.put_next, Mem.rd_push, Mem.rd_push_eq, Mem.rd_push_lt, Mem.rd_put_eq, Mem.rd_put, List.take_zero, List.drop_zero, List.take_succ_cons, List.drop_succ_cons, List.drop_nil, List.take_nil, List.append_nil, List.length_cons, List.length_nil, Nat.zero_add, Nat.reduceAdd]
  refine oIf_dec (fun hb => h (by omega)) (fun hb => ?_)
  have hb0 : 0 < b := by omega
  rw [oInt_remN hb0]
  exact h2 hb0
theorem gcd67 : ∀ (j a b : Nat), b < 2 ^ j → ∀ {n : Nat}, 2 * j + 1 ≤ n → k (.int .i64 ((Nat.gcd a b : Nat) : Int)) m = some () → runT (tab lf) n 67 [.int .i64 (a : Int), .int .i64 (b : Int)] L m k = some ()
  | 0, a, b, hb, n, hn, hk => by
    obtain ⟨n, rfl⟩ : ∃ q, n = q + 1 := ⟨n - 1, by omega⟩
    obtain rfl : b = 0 := by simpa using hb
    exact gcd_one (fun _ => by simpa using hk) (fun h => by omega)
  | j + 1, a, b, hb, n, hn, hk => by
    obtain ⟨n, rfl⟩ : ∃ q, n = q + 2 := ⟨n - 2, by omega⟩
    refine gcd_one (fun h => by subst h; simpa using hk) (fun hb0 => ?_)
    have h1 : Nat.gcd a b = Nat.gcd b (a % b) := by rw [Nat.gcd_comm a b, Nat.gcd_rec b a, Nat.gcd_comm]
    refine gcd_one (fun h => ?_) (fun hr => ?_)
    · rw [h1, h] at hk; simpa using hk
    · have hlt := Nat.mod_lt a hb0
      refine gcd67 j (a % b) (b % (a % b)) ?_ (by omega) ?_
      · have h2 := Nat.mod_lt b hr
        have h3 := Nat.div_add_mod b (a % b)
        have h4 : 1 ≤ b / (a % b) := (Nat.le_div_iff_mul_le hr).2 (by omega)
        have h5 : a % b * 1 ≤ a % b * (b / (a % b)) := Nat.mul_le_mul_left _ h4
        rw [Nat.pow_succ] at hb
        omega
      · rw [h1, Nat.gcd_comm b, Nat.gcd_rec (a % b) b, Nat.gcd_comm] at hk
        exact hk
/-- .. by a loop: the product of the two numbers halves each time. -/
theorem gcd44 {a b : Nat} (hlf : 1000000 ≤ lf) (ha : a < 2 ^ 60) (hb : b < 2 ^ 60) (hk : k (.int .i64 ((Nat.gcd a b : Nat) : Int)) m = some ()) : runT (tab lf) (n + 1) 44 [.int .i64 (a : Int), .int .i64 (b : Int)] L m k = some () := by
  rw [r44]; dsimp only [S44, iofNat, inegSucc]
  try simp (disch := first | omega | with_unfolding_all exact id rfl | with_unfolding_all exact Nat.le_of_ble_eq_true rfl | (simp only [Mem.push_next, Mem.put_next, List.length_cons, List.length_nil, Nat.zero_add, Nat.reduceAdd, allOne, oneCell, Bool.and_self, Bool.and_true]; first | done | omega)) only [↓uc_e, ↓un0_e, ↓join_e, oOpt_e, oRes_e, oIf_t, oIf_f, oGT_t, oGT_f, oGT_u, oGF_t, oGF_f, oGF_u, oPick_t, oPick_f, oInt_eql, oInt_neq, oInt_lss, oInt_leq, oInt_gtr, oInt_geq, aun_not, aextract_e, fa_e, abox_e, ptrTo, oCallV_e, decide_true, decide_false, Bool.not_true, Bool.not_false, List.getElem?_cons_zero, List.getElem?_cons_succ, List.cons_append, List.nil_append, cells_agg, cells_int, cells_slice, cells_bool, cells_ptr, ld1_u, ldN_u, st1_u, rdo_e, rdn_e, stw_e, anew_eq, Mem.push_next, Mem.put_next, Mem.rd_push, Mem.rd_push_eq, Mem.rd_push_lt, Mem.rd_put_eq, Mem.rd_put, List.take_zero, List.drop_zero, List.take_succ_cons, List.drop_succ_cons, List.drop_nil, List.take_nil, List.append_nil, List.length_cons, List.length_nil, Nat.zero_add, Nat.reduceAdd]
  refine loop_of (fun q vs m' => ∃ (x y : Nat), vs = [.int .i64 (x : Int), .int .i64 (y : Int)] ∧ m' = m ∧ Nat.gcd x y = Nat.gcd a b ∧ ((q = 121 ∧ y < 2 ^ 60) ∨ (q ≤ 120 ∧ y ≤ x ∧ x * y < 2 ^ q))) ?_ (n := 121) ⟨a, b, rfl, rfl, rfl, .inl ⟨rfl, hb⟩⟩ (by omega)
  rintro q vs m' ⟨x, y, rfl, rfl, hg, hq⟩ self hself
  try simp (disch := first | omega | with_unfolding_all exact id rfl | with_unfolding_all exact Nat.le_of_ble_eq_true rfl | (simp only [Mem.push_next, Mem.put_next, List.length_cons, List.length_nil, Nat.zero_add, Nat.reduceAdd, allOne, oneCell, Bool.and_self, Bool.and_true]; first | done | omega)) only [↓uc_e, ↓un0_e, ↓join_e, oOpt_e, oRes_e, oIf_t, oIf_f, oGT_t, oGT_f, oGT_u, oGF_t, oGF_f, oGF_u, oPick_t, oPick_f, oInt_eql, oInt_neq, oInt_lss, oInt_leq, oInt_gtr, oInt_geq, aun_not, aextract_e, fa_e, abox_e, ptrTo, oCallV_e, decide_true, decide_false, Bool.not_true, Bool.not_false, List.getElem?_cons_zero, List.getElem?_cons_succ, List.cons_append, List.nil_append, cells_agg, cells_int, cells_slice, cells_bool, cells_ptr, ld1_u, ldN_u, st1_u, rdo_e, rdn_e, stw_e, anew_eq, Mem.push_next, Mem.put_next, Mem.rd_push, Mem.rd_push_eq, Mem.rd_push_lt, Mem.rd_put_eq, Mem.rd_put, List.take_zero, List.drop_zero, List.take_succ_cons, List.drop_succ_cons, List.drop_nil, List.take_nil, List.append_nil, List.length_cons, List.length_nil, Nat.zero_add, Nat.reduceAdd]
  refine oIf_dec (fun h => ?_) (fun h => ?_)
  · have hy0 : 0 < y := by omega
    rw [oInt_remN hy0]
    have hlt := Nat.mod_lt x hy0
    have h1 : Nat.gcd y (x % y) = Nat.gcd a b := by rw [← hg, Nat.gcd_comm x y, Nat.gcd_rec y x, Nat.gcd_comm]
    rcases hq with ⟨rfl, hy⟩ | ⟨hq, hyx, hp⟩
    · refine hself 120 _ _ (by omega) ⟨y, x % y, rfl, rfl, h1, .inr ⟨Nat.le_refl _, by omega, ?_⟩⟩
      have h2 : y * (x % y) < 2 ^ 60 * 2 ^ 60 := Nat.mul_lt_mul_of_lt_of_le hy (by omega) (by decide)
      rw [← Nat.pow_add] at h2
      exact h2
    · have hx0 : 0 < x * y := Nat.mul_pos (by omega) hy0
      have hq0 : q ≠ 0 := fun e => by subst e; simp at hp; omega
      obtain ⟨q', rfl⟩ : ∃ q', q = q' + 1 := ⟨q - 1, by omega⟩
      refine hself q' _ _ (by omega) ⟨y, x % y, rfl, rfl, h1, .inr ⟨by omega, by omega, ?_⟩⟩
      have h3 := Nat.div_add_mod x y
      have h4 : 1 ≤ x / y := (Nat.le_div_iff_mul_le hy0).2 (by omega)
      have h5 : y * 1 ≤ y * (x / y) := Nat.mul_le_mul_left _ h4
      have h6 : y * (2 * (x % y)) ≤ y * x := Nat.mul_le_mul_left _ (by omega)
      have h7 : y * (2 * (x % y)) = 2 * (y * (x % y)) := by rw [Nat.mul_left_comm]
      rw [Nat.mul_comm y x] at h6
      rw [Nat.pow_succ] at hp
      omega
  · obtain rfl : y = 0 := by omega
    rw [Nat.gcd_zero_right] at hg
    rw [← hg] at hk
    exact hk
end
end Go.Vit
