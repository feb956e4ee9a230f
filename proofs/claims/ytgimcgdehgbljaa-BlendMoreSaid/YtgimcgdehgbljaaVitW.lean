/- Walking a shallow text with unknown inputs: the rules of control, integers and calls. -/
import Derived.Test.YtgimcgdehgbljaaVitV
set_option linter.unusedSimpArgs false
set_option linter.unusedVariables false
namespace Go.Vit
open Go

section
variable {β : Type}
@[congr] theorem uc_congr {l l' : List Value} {k : Value → List Value → Option β} (h : l = l') : uc l k = uc l' k := by rw [h]
@[congr] theorem un0_congr {l l' : List Value} {k : Option β} (h : l = l') : un0 l k = un0 l' k := by rw [h]
@[congr] theorem oOpt_congr {x y : Option Value} {k : Value → Option β} (h : x = y) : oOpt x k = oOpt y k := by rw [h]
@[congr] theorem oRes_congr {x y : Option (Value × Mem)} {k : Value → Mem → Option β} (h : x = y) : oRes x k = oRes y k := by rw [h]
@[congr] theorem oInt_congr {op : BinOp} {kd : IntKind} {x y x' y' : Value} {k : Value → Option β} (h : x = x') (h' : y = y') : oInt op kd x y k = oInt op kd x' y' k := by rw [h, h']
@[congr] theorem oCv_congr {kd : IntKind} {x x' : Value} {k : Value → Option β} (h : x = x') : oCv kd x k = oCv kd x' k := by rw [h]
@[congr] theorem oSm_congr {m m' : Mem} {x x' : Value} {k : Option β} (h : x = x') : oSm m m' x k = oSm m m' x' k := by rw [h]
@[congr] theorem oIf_congr {x x' : Value} {a b : Option β} (h : x = x') : oIf x a b = oIf x' a b := by rw [h]
@[congr] theorem oGT_congr {x x' : Value} {a b : Option β} (h : x = x') : oGT x a b = oGT x' a b := by rw [h]
@[congr] theorem oGF_congr {x x' : Value} {a b : Option β} (h : x = x') : oGF x a b = oGF x' a b := by rw [h]
@[congr] theorem oPick_congr {x x' : Value} {a b : Value} {k : Value → Option β} (h : x = x') : oPick x a b k = oPick x' a b k := by rw [h]
@[congr] theorem loopS_congr {body : (List Value → Mem → Option β) → List Value → Mem → Option β} {n : Nat} {vs vs' : List Value} {m m' : Mem} (h : vs = vs') (h' : m = m') : loopS body n vs m = loopS body n vs' m' := by rw [h, h']
@[congr] theorem runT_congr {t : Bt β} {n : Nat} {f : FuncId} {as as' : List Value} {L : Nat} {m m' : Mem} {k : Value → Mem → Option β} (h : as = as') (h' : m = m') : runT t n f as L m k = runT t n f as' L m' k := by rw [h, h']
@[congr] theorem oCallV_congr {call : CallK β} {f f' : Value} {as as' : List Value} {L : Nat} {m m' : Mem} {k : Value → Mem → Option β} (h0 : f = f') (h : as = as') (h' : m = m') : oCallV call f as L m k = oCallV call f' as' L m' k := by rw [h0, h, h']

theorem uc_e (a : Value) (l : List Value) (k : Value → List Value → Option β) : uc (a :: l) k = k a l := id rfl
theorem un0_e (k : Option β) : un0 [] k = k := id rfl
theorem join_e (j : List Value → Mem → Option β) (f : (List Value → Mem → Option β) → Option β) : join j f = f j := id rfl
theorem oOpt_e (v : Value) (k : Value → Option β) : oOpt (some v) k = k v := id rfl
theorem oRes_e (v : Value) (m : Mem) (k : Value → Mem → Option β) : oRes (some (v, m)) k = k v m := id rfl
theorem oCallV_e (call : CallK β) (f : FuncId) (cs : Array Value) (as : List Value) (L : Nat) (m : Mem) (k : Value → Mem → Option β) (hf : Nat.blt f RB = true) : oCallV call (.func (.func f) #[] cs) as L m k = call f (as ++ cs.toList) L m k := by
  simp only [oCallV, atarget, hf]
theorem oIf_t (a b : Option β) : oIf (.bool true) a b = a := id rfl
theorem oIf_f (a b : Option β) : oIf (.bool false) a b = b := id rfl
theorem oGT_t (a b : Option β) : oGT (.bool true) a b = a := id rfl
theorem oGT_f (a b : Option β) : oGT (.bool false) a b = b := id rfl
theorem oGT_u (a b : Option β) : oGT Go.undef a b = b := id rfl
theorem oGF_t (a b : Option β) : oGF (.bool true) a b = b := id rfl
theorem oGF_f (a b : Option β) : oGF (.bool false) a b = a := id rfl
theorem oGF_u (a b : Option β) : oGF Go.undef a b = b := id rfl
theorem oPick_t (a b : Value) (k : Value → Option β) : oPick (.bool true) a b k = k a := id rfl
theorem oPick_f (a b : Value) (k : Value → Option β) : oPick (.bool false) a b k = k b := id rfl
theorem oSm_u (m m' : Mem) (b o : Nat) (k : Option β) : oSm m m' (.pointer (some ⟨b, o, none⟩)) k = oIf (.bool (bEq (m.rd b) (m'.rd b))) k none := by
  show (match bEq (m.rd b) (m'.rd b) with | true => k | false => none) = _
  cases bEq (m.rd b) (m'.rd b) <;> rfl
theorem bEq_ss (s : Nat) (cs : List Value) : bEq (some ⟨s, cs, none⟩) (some ⟨s, cs, none⟩) = veqL cs cs := by
  show (Nat.beq s s && veqL cs cs) = _
  rw [Nat.beq_refl, Bool.true_and]
theorem veqL_nil : veqL [] [] = true := id rfl
theorem veqL_cons (v w : Value) (l l' : List Value) : veqL (v :: l) (w :: l') = (veq v w && veqL l l') := id rfl
theorem veq_int (k : IntKind) (a : Int) : veq (.int k a) (.int k a) = true := by
  show (decide (k = k) && ieq a a) = true
  rw [decide_eq_true rfl, ieq_refl]; rfl
theorem veq_slice (p : Option Addr) (n c : Nat) : veq (.slice p n c) (.slice p n c) = true := by
  show (aEq p p && (Nat.beq n n && Nat.beq c c)) = true
  rw [aEq_refl, Nat.beq_refl, Nat.beq_refl]; rfl
theorem veq_ptr (p : Option Addr) : veq (.pointer p) (.pointer p) = true := aEq_refl p
theorem veq_bool (b : Bool) : veq (.bool b) (.bool b) = true := by cases b <;> rfl
theorem iofNat (n : Nat) : Int.ofNat (no_index (OfNat.ofNat n)) = OfNat.ofNat n := rfl
theorem inegSucc (n : Nat) : Int.negSucc (no_index (OfNat.ofNat n)) = -(OfNat.ofNat n + 1) := rfl
theorem aun_not (b : Bool) : aun .not (.bool b) = some (.bool (!b)) := by cases b <;> rfl
theorem aextract_e (cs : List Value) (i : Nat) : aextract (.tuple ⟨cs⟩) i = cs[i]? := by
  simp only [aextract, lget_eq]
theorem fa_e (f b o : Nat) : fa f (.pointer (some ⟨b, o, none⟩)) = some (.pointer (some ⟨b, o + f, none⟩)) := by
  simp only [fa, natK_eq]; rfl
theorem abox_e (m : Mem) (v : Value) : abox m v = some (ptrTo m.next, m.push ⟨1, v.cells.toList, none⟩) := anew_eq _ _ _ _
theorem cells_agg (cs : List Value) : (Value.agg ⟨cs⟩).cells.toList = cs := id rfl
theorem cells_int (kd : IntKind) (a : Int) : (Value.int kd a).cells.toList = [.int kd a] := id rfl
theorem cells_slice (p : Option Addr) (n c : Nat) : (Value.slice p n c).cells.toList = [.slice p n c] := id rfl
theorem cells_bool (b : Bool) : (Value.bool b).cells.toList = [.bool b] := id rfl
theorem cells_ptr (p : Option Addr) : (Value.pointer p).cells.toList = [.pointer p] := id rfl

/-! ### Integers -/
theorem ieq_e (a b : Int) : ieq a b = decide (a = b) := by
  unfold ieq
  split
  · rename_i m n
    by_cases h : m = n
    · subst h; rw [Nat.beq_refl]; simp
    · have h1 : Nat.beq m n = false := by
        cases hb : Nat.beq m n with
        | false => rfl
        | true => exact absurd (Nat.eq_of_beq_eq_true hb) h
      rw [h1]
      have : ¬ (Int.ofNat m = Int.ofNat n) := fun he => h (Int.ofNat.inj he)
      exact (decide_eq_false this).symm
  · rename_i m n
    by_cases h : m = n
    · subst h; rw [Nat.beq_refl]; simp
    · have h1 : Nat.beq m n = false := by
        cases hb : Nat.beq m n with
        | false => rfl
        | true => exact absurd (Nat.eq_of_beq_eq_true hb) h
      rw [h1]
      have : ¬ (Int.negSucc m = Int.negSucc n) := fun he => h (Int.negSucc.inj he)
      simp [this]
  · rename_i h1 h2
    cases a with
    | ofNat m => cases b with
      | ofNat n => exact absurd rfl (h1 m n rfl)
      | negSucc n => simp
    | negSucc m => cases b with
      | ofNat n => simp
      | negSucc n => exact absurd rfl (h2 m n rfl)
theorem blt_e (m n : Nat) : Nat.blt m n = decide (m < n) := by
  by_cases h : m < n
  · have h1 : Nat.blt m n = true := by simpa using h
    rw [h1, decide_eq_true h]
  · have h1 : Nat.blt m n = false := by
      cases hb : Nat.blt m n with
      | false => rfl
      | true => exact absurd (by simpa using hb) h
    rw [h1, decide_eq_false h]
theorem ilt_e (a b : Int) : ilt a b = decide (a < b) := by
  unfold ilt
  split
  · rename_i m n
    rw [blt_e]
    exact decide_eq_decide.2 (Int.ofNat_lt (n := m) (m := n)).symm
  · rename_i m n
    have : Int.negSucc m < Int.ofNat n := by rw [Int.ofNat_eq_natCast]; omega
    exact (decide_eq_true this).symm
  · rename_i m n
    have : ¬ Int.ofNat m < Int.negSucc n := by rw [Int.ofNat_eq_natCast]; omega
    exact (decide_eq_false this).symm
  · rename_i m n
    rw [blt_e]
    have : (n < m) ↔ (Int.negSucc m < Int.negSucc n) := by omega
    exact decide_eq_decide.2 this
theorem ile_e (a b : Int) : ile a b = decide (a ≤ b) := by
  unfold ile
  rw [ilt_e]
  by_cases h : b < a
  · have : ¬ a ≤ b := by omega
    simp [h, this]
  · have : a ≤ b := by omega
    simp [h, this]
theorem mkB_e (b : Bool) : mkB b = some (.bool b) := by cases b <;> rfl
theorem mkI_e (k : IntKind) (n : Int) : mkI k n = some (.int k n) := by
  unfold mkI
  split <;> simp only [natK_eq]
theorem oInt_i (op : BinOp) (a b : Int) (k : Value → Option β) : oInt op .i64 (.int .i64 a) (.int .i64 b) k = oOpt (aint op .i64 a b) k := rfl
theorem oInt_eql (a b : Int) (k : Value → Option β) : oInt .eql .i64 (.int .i64 a) (.int .i64 b) k = k (.bool (decide (a = b))) := by
  rw [oInt_i]; simp only [aint, ieq_e, mkB_e, oOpt_e]
theorem oInt_neq (a b : Int) (k : Value → Option β) : oInt .neq .i64 (.int .i64 a) (.int .i64 b) k = k (.bool (!decide (a = b))) := by
  rw [oInt_i]; simp only [aint, ieq_e, mkB_e, oOpt_e]
theorem oInt_lss (a b : Int) (k : Value → Option β) : oInt .lss .i64 (.int .i64 a) (.int .i64 b) k = k (.bool (decide (a < b))) := by
  rw [oInt_i]; simp only [aint, ilt_e, mkB_e, oOpt_e]
theorem oInt_leq (a b : Int) (k : Value → Option β) : oInt .leq .i64 (.int .i64 a) (.int .i64 b) k = k (.bool (decide (a ≤ b))) := by
  rw [oInt_i]; simp only [aint, ile_e, mkB_e, oOpt_e]
theorem oInt_gtr (a b : Int) (k : Value → Option β) : oInt .gtr .i64 (.int .i64 a) (.int .i64 b) k = k (.bool (decide (b < a))) := by
  rw [oInt_i]; simp only [aint, ilt_e, mkB_e, oOpt_e]
theorem oInt_geq (a b : Int) (k : Value → Option β) : oInt .geq .i64 (.int .i64 a) (.int .i64 b) k = k (.bool (decide (b ≤ a))) := by
  rw [oInt_i]; simp only [aint, ile_e, mkB_e, oOpt_e]
/-- In the range of an int. -/
def fit (n : Int) : Prop := -9223372036854775808 ≤ n ∧ n < 9223372036854775808
theorem fwrap_fit {n : Int} (h : fit n) : fwrap .i64 n = n := by
  have : fits .i64 n = true := by
    cases n with
    | ofNat m =>
      have h2 : m < 9223372036854775808 := by have := h.2; rw [Int.ofNat_eq_natCast] at this; omega
      show Nat.blt m 9223372036854775808 = true
      simpa using h2
    | negSucc m =>
      have h2 : m < 9223372036854775808 := by have := h.1; omega
      show (true && Nat.blt m 9223372036854775808) = true
      simpa using h2
  unfold fwrap
  rw [this]
theorem oInt_add {a b : Int} (h : fit (a + b)) (k : Value → Option β) : oInt .add .i64 (.int .i64 a) (.int .i64 b) k = k (.int .i64 (a + b)) := by
  rw [oInt_i]; simp only [aint]
  rw [show Int.add a b = a + b from rfl, fwrap_fit h, mkI_e, oOpt_e]
theorem oInt_sub {a b : Int} (h : fit (a - b)) (k : Value → Option β) : oInt .sub .i64 (.int .i64 a) (.int .i64 b) k = k (.int .i64 (a - b)) := by
  rw [oInt_i]; simp only [aint]
  rw [show Int.sub a b = a - b from rfl, fwrap_fit h, mkI_e, oOpt_e]
theorem oInt_mul {a b : Int} (h : fit (a * b)) (k : Value → Option β) : oInt .mul .i64 (.int .i64 a) (.int .i64 b) k = k (.int .i64 (a * b)) := by
  rw [oInt_i]; simp only [aint]
  rw [show Int.mul a b = a * b from rfl, fwrap_fit h, mkI_e, oOpt_e]
theorem oInt_quo {a b : Int} (ha : 0 ≤ a) (hb : 0 < b) (h : a < 9223372036854775808) (k : Value → Option β) : oInt .quo .i64 (.int .i64 a) (.int .i64 b) k = k (.int .i64 (a / b)) := by
  rw [oInt_i]; simp only [aint, ieq_e]
  have hz : decide (b = 0) = false := by simp; omega
  have hq : Int.tdiv a b = a / b := Int.tdiv_eq_ediv_of_nonneg ha
  have h1 : 0 ≤ a / b := Int.ediv_nonneg ha (by omega)
  have h2 : a / b ≤ a := Int.ediv_le_self b ha
  rw [hz]
  simp only []
  rw [hq, fwrap_fit ⟨by omega, by omega⟩, mkI_e, oOpt_e]
theorem oInt_rem {a b : Int} (ha : 0 ≤ a) (hb : 0 < b) (k : Value → Option β) : oInt .rem .i64 (.int .i64 a) (.int .i64 b) k = k (.int .i64 (a % b)) := by
  rw [oInt_i]; simp only [aint, ieq_e]
  have hz : decide (b = 0) = false := by simp; omega
  have hq : Int.tmod a b = a % b := Int.tmod_eq_emod_of_nonneg ha
  rw [hz]
  simp only []
  rw [hq, mkI_e, oOpt_e]
theorem fits_nat {m : Nat} (h : m < 9223372036854775808) : fits .i64 (Int.ofNat m) = true := by
  show Nat.blt m 9223372036854775808 = true
  simpa using h
theorem oInt_and {a b : Nat} (ha : a < 9223372036854775808) (hb : b < 9223372036854775808) (k : Value → Option β) : oInt .and .i64 (.int .i64 (a : Int)) (.int .i64 (b : Int)) k = k (.int .i64 ((a &&& b : Nat) : Int)) := by
  rw [oInt_i]
  show oOpt (mkI .i64 (abits .and .i64 (Int.ofNat a) (Int.ofNat b))) k = _
  unfold abits
  simp only [fits_nat ha, fits_nat hb, Bool.and_self]
  rw [mkI_e, oOpt_e]; rfl
theorem oInt_or {a b : Nat} (ha : a < 9223372036854775808) (hb : b < 9223372036854775808) (k : Value → Option β) : oInt .or .i64 (.int .i64 (a : Int)) (.int .i64 (b : Int)) k = k (.int .i64 ((a ||| b : Nat) : Int)) := by
  rw [oInt_i]
  show oOpt (mkI .i64 (abits .or .i64 (Int.ofNat a) (Int.ofNat b))) k = _
  unfold abits
  simp only [fits_nat ha, fits_nat hb, Bool.and_self]
  rw [mkI_e, oOpt_e]; rfl
theorem oInt_andNot {a b : Nat} (ha : a < 9223372036854775808) (hb : b < 9223372036854775808) (k : Value → Option β) : oInt .andNot .i64 (.int .i64 (a : Int)) (.int .i64 (b : Int)) k = k (.int .i64 ((a ^^^ (a &&& b) : Nat) : Int)) := by
  rw [oInt_i]
  show oOpt (mkI .i64 (abits .andNot .i64 (Int.ofNat a) (Int.ofNat b))) k = _
  unfold abits
  simp only [fits_nat ha, fits_nat hb, Bool.and_self]
  rw [mkI_e, oOpt_e]; rfl
/-- One shifted left. -/
theorem shl_e {P : Program} {t : TypeId} (ht : P.underlying t = some (.int .i64)) {x : Int} {n : Nat} (hx : 0 ≤ x) (hn : n < 63) (h : x * 2 ^ n < 9223372036854775808) : abin P .shl t (.int .i64 x) (.int .i64 (n : Int)) = some (.int .i64 (x * 2 ^ n)) := by
  obtain ⟨a, rfl⟩ : ∃ a : Nat, x = a := ⟨x.toNat, by omega⟩
  have h0 : ilt ((n : Nat) : Int) 0 = false := by rw [ilt_e]; simp
  have hmin : nmin n 64 = n := by unfold nmin; rw [Nat.ble_eq_true_of_le (by omega : n ≤ 64)]
  have hsh : (Nat.shiftLeft a n : Int) = (a : Int) * 2 ^ n := by
    rw [show Nat.shiftLeft a n = a * 2 ^ n from Nat.shiftLeft_eq a n]
    rw [Int.natCast_mul, Int.natCast_pow]
    rfl
  have hf : fwrap .i64 (Int.ofNat (Nat.shiftLeft a n)) = (a : Int) * 2 ^ n := by
    rw [show Int.ofNat (Nat.shiftLeft a n) = (Nat.shiftLeft a n : Int) from rfl, hsh]
    apply fwrap_fit
    refine ⟨?_, h⟩
    have : (0 : Int) ≤ (a : Int) * 2 ^ n := by rw [← hsh]; omega
    omega
  show ashift .shl .i64 (Int.ofNat a) ((n : Nat) : Int) = _
  unfold ashift
  rw [h0]
  show mkI .i64 (ashl .i64 (Int.ofNat a) (nmin (Int.toNat (n : Int)) 64)) = _
  rw [Int.toNat_natCast, hmin]
  show mkI .i64 (fwrap .i64 (Int.ofNat (Nat.shiftLeft a n))) = _
  rw [hf, mkI_e]
/-! ### Control -/
theorem oIf_dec {p : Prop} [Decidable p] {a b : Option β} {r : Option β} (h1 : p → a = r) (h2 : ¬ p → b = r) : oIf (.bool (decide p)) a b = r := by
  by_cases h : p
  · rw [decide_eq_true h, oIf_t]; exact h1 h
  · rw [decide_eq_false h, oIf_f]; exact h2 h
theorem oIf_bool {c : Bool} {a b : Option β} {r : Option β} (h1 : c = true → a = r) (h2 : c = false → b = r) : oIf (.bool c) a b = r := by
  cases c
  · exact h2 rfl
  · exact h1 rfl
theorem oGT_dec {p : Prop} [Decidable p] {a b : Option β} {r : Option β} (h1 : p → a = r) (h2 : ¬ p → b = r) : oGT (.bool (decide p)) a b = r := by
  by_cases h : p
  · rw [decide_eq_true h, oGT_t]; exact h1 h
  · rw [decide_eq_false h, oGT_f]; exact h2 h
theorem oGF_dec {p : Prop} [Decidable p] {a b : Option β} {r : Option β} (h1 : p → b = r) (h2 : ¬ p → a = r) : oGF (.bool (decide p)) a b = r := by
  by_cases h : p
  · rw [decide_eq_true h, oGF_t]; exact h1 h
  · rw [decide_eq_false h, oGF_f]; exact h2 h
theorem oIf_ndec {p : Prop} [Decidable p] {a b : Option β} {r : Option β} (h1 : ¬ p → a = r) (h2 : p → b = r) : oIf (.bool (!decide p)) a b = r := by
  by_cases h : p
  · rw [decide_eq_true h]; exact h2 h
  · rw [decide_eq_false h]; exact h1 h
/-- A loop by a measure. -/
theorem loop_of {body : (List Value → Mem → Option β) → List Value → Mem → Option β} {r : Option β} (I : Nat → List Value → Mem → Prop)
    (hs : ∀ n vs m, I n vs m → ∀ self : List Value → Mem → Option β, (∀ n' vs' m', n' < n → I n' vs' m' → self vs' m' = r) → body self vs m = r) :
    ∀ {lf n : Nat} {vs : List Value} {m : Mem}, I n vs m → n < lf → loopS body lf vs m = r
  | 0, n, vs, m, _, h => by omega
  | lf + 1, n, vs, m, hI, h => by
    simp only [loopS]
    exact hs n vs m hI _ fun n' vs' m' hn hI' => loop_of I hs hI' (by omega)
/-- A loop that counts up to N. -/
theorem loop_up {body : (List Value → Mem → Option β) → List Value → Mem → Option β} {r : Option β} (N : Nat) (I : Nat → List Value → Mem → Prop) {lf : Nat} (hN : N < lf) {vs : List Value} {m : Mem} (h0 : I 0 vs m)
    (hs : ∀ i vs m, i ≤ N → I i vs m → ∀ self : List Value → Mem → Option β, (i < N → ∀ vs' m', I (i + 1) vs' m' → self vs' m' = r) → body self vs m = r) : loopS body lf vs m = r := by
  refine loop_of (fun n vs m => ∃ i, n = N - i ∧ i ≤ N ∧ I i vs m) ?_ ⟨0, rfl, by omega, h0⟩ (by omega)
  intro n vs m ⟨i, hn, hi, hI⟩ self hself
  exact hs i vs m hi hI self fun hlt vs' m' hI' => hself (N - (i + 1)) vs' m' (by omega) ⟨i + 1, rfl, by omega, hI'⟩
end

end Go.Vit
namespace Go.Vit
open Go
/-! ### Lists of natural numbers -/
def ci (l : List Nat) : List Int := l.map fun (g : Nat) => (g : Int)
theorem ci_length (l : List Nat) : (ci l).length = l.length := List.length_map _
def IN (m : Mem) (v : Value) (l : List Nat) : Prop := IL m v (ci l)
def GN (L : Nat) (m : Mem) (v : Value) (l : List Nat) : Prop := GL L m v (ci l)
theorem IN.mono {m m' : Mem} {v : Value} {l : List Nat} (h : IN m v l) (e : Gt m m') : IN m' v l := IL.mono h e
theorem GN.mono {L : Nat} {m m' : Mem} {v : Value} {l : List Nat} (h : GN L m v l) (e : Gt m m') : GN L m' v l := GL.mono h e
theorem GN.le {L L' : Nat} {m : Mem} {v : Value} {l : List Nat} (h : GN L m v l) (hl : L' ≤ L) : GN L' m v l := GL.le h hl
theorem GN.inn {L : Nat} {m : Mem} {v : Value} {l : List Nat} (h : GN L m v l) : IN m v l := GL.il h
theorem GN.nil (L : Nat) (m : Mem) : GN L m (.slice none 0 0) [] := GL.nil L m
theorem IN.ln {m : Mem} {v : Value} {l : List Nat} (h : IN m v l) : Vit.ln v = some (.int .i64 (l.length : Int)) := by
  have := IL.ln h; rwa [ci_length] at this
theorem GN.ln {L : Nat} {m : Mem} {v : Value} {l : List Nat} (h : GN L m v l) : Vit.ln v = some (.int .i64 (l.length : Int)) := h.inn.ln
theorem IN.ex {m : Mem} {v : Value} {l : List Nat} (h : IN m v l) : ∃ p c, v = .slice p l.length c := by
  have := IL.ex h; rwa [ci_length] at this
theorem IN.ia {m : Mem} {v : Value} {l : List Nat} (h : IN m v l) {i : Nat} (hi : i < l.length) : Vit.ia 1 v (.int .i64 (i : Int)) = some (ep 1 v i) := IL.ia h (by rwa [ci_length])
theorem IN.ld {m : Mem} {v : Value} {l : List Nat} (h : IN m v l) {i : Nat} (hi : i < l.length) : ld1 m (ep 1 v i) = some (.int .i64 (l[i] : Int)) := by
  have := IL.ld h (i := i) (by rwa [ci_length])
  rw [this]; simp [ci]
theorem GN.ex {L : Nat} {m : Mem} {v : Value} {l : List Nat} (h : GN L m v l) : ∃ p c, v = .slice p l.length c := h.inn.ex
/-- A grown slice is nil just if it is empty. -/
theorem GN.isNil {L : Nat} {m : Mem} {v : Value} {l : List Nat} (h : GN L m v l) : (v = .slice none 0 0 ∧ l = []) ∨ (∃ a n c, v = .slice (some a) n c ∧ l ≠ []) := by
  rcases h with ⟨h1, h2, _⟩ | ⟨b, _, h2, _, h3, h4⟩
  · left; refine ⟨h1, ?_⟩
    rw [ci_length] at h2; exact List.length_eq_zero_iff.1 h2
  · right; refine ⟨_, _, _, h2, ?_⟩
    rw [ci_length] at h4
    intro e; rw [e] at h4; exact absurd h4 (by simp)
theorem GN.snoc {P : Program} {t : TypeId} {y L L0 : Nat} {m0 m : Mem} {v : Value} {l : List Nat} (x : Nat) (ht : aelem P t = some (1, y)) (hy : y ≤ 134217728) (h : GN L0 m v l) (hl : l.length < 1048576) (hL : L ≤ L0) (e : Gt m0 m) (hm : m0.next ≤ L0) :
    ∃ u m', aappend P L (m.push ⟨1, [.int .i64 (x : Int)], none⟩) t v (slTo 1 m.next) = some (u, m') ∧ GN m.next m' u (l ++ [x]) ∧ Gt m0 m' ∧ m.next ≤ m'.next := by
  have := GL.snoc (P := P) (L := L) (m0 := m0) (x : Int) ht hy h (by rwa [ci_length]) hL e hm
  have hh : ci l ++ [(x : Int)] = ci (l ++ [x]) := by simp [ci]
  rwa [hh] at this
set_option linter.defProp false
/-! Short names of the lemmas by which walks rewrite. -/
def Qa := @uc_e
def Qb := @un0_e
def Qc := @join_e
def Qd := @oOpt_e
def Qe := @oRes_e
def Qf := @oIf_t
def Qg := @oIf_f
def Qh := @oGT_t
def Qi := @oGT_f
def Qj := @oGT_u
def Qk := @oGF_t
def Ql := @oGF_f
def Qm := @oGF_u
def Qn := @oPick_t
def Qo := @oPick_f
def Qp := @oInt_eql
def Qq := @oInt_neq
def Qr := @oInt_lss
def Qs := @oInt_leq
def Qt := @oInt_gtr
def Qu := @oInt_geq
def Qv := @aun_not
def Qw := @aextract_e
def Qx := @fa_e
def Qy := @abox_e
def Qz := @oCallV_e
def QA := @decide_true
def QB := @decide_false
def QC := @Bool.not_true
def QD := @Bool.not_false
def QE := @List.getElem?_cons_zero
def QF := @List.getElem?_cons_succ
def QG := @List.cons_append
def QH := @List.nil_append
def QI := @cells_agg
def QJ := @cells_int
def QK := @cells_slice
def QL := @cells_bool
def QM := @cells_ptr
def QN := @ld1_u
def QO := @ldN_u
def QP := @st1_u
def QQ := @rdo_e
def QR := @rdn_e
def QS := @stw_e
def QT := @anew_eq
def QU := @oSm_u
def QV := @bEq_ss
def QW := @veqL_nil
def QX := @veqL_cons
def QY := @veq_int
def QZ := @veq_slice
def Ja := @veq_ptr
def Jb := @veq_bool
def Jc := @Bool.and_true
def Jd := @Mem.push_next
def Je := @Mem.put_next
def Jf := @Mem.rd_push
def Jg := @Mem.rd_push_eq
def Jh := @Mem.rd_push_lt
def Ji := @Mem.rd_put_eq
def Jj := @Mem.rd_put
def Jk := @List.take_zero
def Jl := @List.drop_zero
def Jm := @List.take_succ_cons
def Jn := @List.drop_succ_cons
def Jo := @List.drop_nil
def Jp := @List.take_nil
def Jq := @List.append_nil
def Jr := @List.length_cons
def Js := @List.length_nil
def Jt := @Nat.zero_add
end Go.Vit
