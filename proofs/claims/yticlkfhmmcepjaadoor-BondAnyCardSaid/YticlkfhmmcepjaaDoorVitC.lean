/- Integers: the operations in a form that the kernel reckons fast, and that they are the model's. -/
import Derived.Test.YticlkfhmmcepjaaDoorVitB
set_option linter.unusedSimpArgs false
set_option linter.unusedVariables false
namespace Go.Vit
open Go

def natK {α : Type} (n : Nat) (f : Nat → α) : α := match n with
  | 0 => f 0
  | Nat.succ m => f (Nat.succ m)
@[simp] theorem natK_eq {α : Type} (n : Nat) (f : Nat → α) : natK n f = f n := by cases n <;> rfl
/-- An integer value, its number reckoned first. -/
def mkI (k : IntKind) (n : Int) : Option Value := match n with
  | .ofNat m => natK m fun m => some (.int k (.ofNat m))
  | .negSucc m => natK m fun m => some (.int k (.negSucc m))
@[simp] theorem mkI_eq (k : IntKind) (n : Int) : mkI k n = some (.int k n) := by cases n <;> simp [mkI]
def mkB (b : Bool) : Option Value := match b with
  | true => some (.bool true)
  | false => some (.bool false)
@[simp] theorem mkB_eq (b : Bool) : mkB b = some (.bool b) := by cases b <;> rfl

def ilt (a b : Int) : Bool := match a, b with
  | .ofNat m, .ofNat n => Nat.blt m n
  | .negSucc _, .ofNat _ => true
  | .ofNat _, .negSucc _ => false
  | .negSucc m, .negSucc n => Nat.blt n m
@[simp] theorem ilt_eq (a b : Int) : ilt a b = decide (a < b) := by
  cases a <;> cases b <;> simp only [ilt] <;> rw [Bool.eq_iff_iff] <;> simp <;> omega
def ile (a b : Int) : Bool := !(ilt b a)
@[simp] theorem ile_eq (a b : Int) : ile a b = decide (a ≤ b) := by
  unfold ile
  rw [ilt_eq, Bool.eq_iff_iff]
  simp
def ieq (a b : Int) : Bool := match a, b with
  | .ofNat m, .ofNat n => Nat.beq m n
  | .negSucc m, .negSucc n => Nat.beq m n
  | _, _ => false
@[simp] theorem ieq_eq (a b : Int) : ieq a b = (a == b) := by
  cases a <;> cases b <;> simp only [ieq] <;> rw [Bool.eq_iff_iff] <;> simp <;> omega

/-- The first number that is too great. -/
def top (k : IntKind) : Nat := match k with
  | .i8 => 128
  | .i16 => 32768
  | .i32 => 2147483648
  | .i64 => 9223372036854775808
  | .u8 => 256
  | .u16 => 65536
  | .u32 => 4294967296
  | .u64 => 18446744073709551616
def sgn (k : IntKind) : Bool := match k with
  | .i8 | .i16 | .i32 | .i64 => true
  | _ => false
def fits (k : IntKind) (n : Int) : Bool := match n with
  | .ofNat m => Nat.blt m (top k)
  | .negSucc m => sgn k && Nat.blt m (top k)
def fwrap (k : IntKind) (n : Int) : Int := match fits k n with
  | true => n
  | false => k.wrap n
theorem fits_iff (k : IntKind) (n : Int) : fits k n = true ↔ (if sgn k then -(top k : Int) else 0) ≤ n ∧ n < top k := by
  cases n with
  | ofNat m => cases k <;> simp [fits, sgn, top] <;> omega
  | negSucc m => cases k <;> simp [fits, sgn, top] <;> omega
theorem wrap_of_fits {k : IntKind} {n : Int} (h : fits k n = true) : k.wrap n = n := by
  rw [fits_iff] at h
  cases k <;> simp [sgn, top] at h <;> simp only [IntKind.wrap, IntKind.bits, IntKind.signed] <;> simp <;> first | omega | (split <;> omega)
@[simp] theorem fwrap_eq (k : IntKind) (n : Int) : fwrap k n = k.wrap n := by
  unfold fwrap
  split
  · rename_i h; exact (wrap_of_fits h).symm
  · rfl

def slowBits (op : BinOp) (k : IntKind) (x y : Int) : Int :=
  let a := BitVec.ofInt k.bits x
  let b := BitVec.ofInt k.bits y
  match op with
  | .and => k.wrap (a &&& b).toNat
  | .or => k.wrap (a ||| b).toNat
  | .xor => k.wrap (a ^^^ b).toNat
  | _ => k.wrap (a &&& ~~~b).toNat
def fastBits (op : BinOp) (m n : Nat) : Nat := match op with
  | .and => Nat.land m n
  | .or => Nat.lor m n
  | .xor => Nat.xor m n
  | _ => Nat.xor m (Nat.land m n)
def abits (op : BinOp) (k : IntKind) (x y : Int) : Int := match x, y with
  | .ofNat m, .ofNat n => match fits k x && fits k y with
    | true => .ofNat (fastBits op m n)
    | false => slowBits op k x y
  | _, _ => slowBits op k x y
theorem top_pow (k : IntKind) : top k = 2 ^ (if sgn k then k.bits - 1 else k.bits) := by cases k <;> rfl
theorem ofInt_nat {w m : Nat} (h : m < 2 ^ w) : (BitVec.ofInt w (Int.ofNat m)).toNat = m := by
  have : BitVec.ofInt w (Int.ofNat m) = BitVec.ofNat w m := by
    apply BitVec.eq_of_toNat_eq
    simp
  rw [this]
  simp [Nat.mod_eq_of_lt h]
theorem fastBits_lt (op : BinOp) {m n e : Nat} (hm : m < 2 ^ e) (hn : n < 2 ^ e) : fastBits op m n < 2 ^ e := by
  have h1 : m &&& n < 2 ^ e := Nat.and_lt_two_pow _ hn
  cases op <;> simp only [fastBits] <;> first | exact h1 | exact Nat.or_lt_two_pow hm hn | exact Nat.xor_lt_two_pow hm hn | exact Nat.xor_lt_two_pow hm h1
theorem xor_and (m n w : Nat) (hm : m < 2 ^ w) : m ^^^ (m &&& n) = m &&& (2 ^ w - 1 - n % 2 ^ w) := by
  have hn : n % 2 ^ w < 2 ^ w := Nat.mod_lt _ (Nat.two_pow_pos w)
  apply Nat.eq_of_testBit_eq
  intro i
  rw [show 2 ^ w - 1 - n % 2 ^ w = 2 ^ w - (n % 2 ^ w + 1) by omega]
  rw [Nat.testBit_xor, Nat.testBit_and, Nat.testBit_and, Nat.testBit_two_pow_sub_succ hn]
  by_cases hi : i < w
  · simp [hi, Nat.testBit_mod_two_pow]; cases m.testBit i <;> cases n.testBit i <;> rfl
  · have : m.testBit i = false := Nat.testBit_lt_two_pow (Nat.lt_of_lt_of_le hm (Nat.pow_le_pow_right (by omega) (by omega)))
    simp [this]
theorem slow_fast (op : BinOp) (k : IntKind) (m n : Nat) (hm : fits k (.ofNat m) = true) (hn : fits k (.ofNat n) = true) : slowBits op k (.ofNat m) (.ofNat n) = .ofNat (fastBits op m n) := by
  have hm' : m < top k := by simpa [fits] using hm
  have hn' : n < top k := by simpa [fits] using hn
  have hle : top k ≤ 2 ^ k.bits := by cases k <;> decide
  have em := ofInt_nat (Nat.lt_of_lt_of_le hm' hle)
  have en := ofInt_nat (Nat.lt_of_lt_of_le hn' hle)
  have hf : fastBits op m n < top k := by
    rw [top_pow] at hm' hn' ⊢; exact fastBits_lt op hm' hn'
  have hw : k.wrap (Int.ofNat (fastBits op m n)) = Int.ofNat (fastBits op m n) := wrap_of_fits (by simpa [fits] using hf)
  have hxa : (BitVec.ofInt k.bits (Int.ofNat m) &&& ~~~BitVec.ofInt k.bits (Int.ofNat n)).toNat = Nat.xor m (Nat.land m n) := by
    rw [BitVec.toNat_and, BitVec.toNat_not, em, en]
    have := xor_and m n k.bits (Nat.lt_of_lt_of_le hm' hle)
    rw [Nat.mod_eq_of_lt (Nat.lt_of_lt_of_le hn' hle)] at this
    exact this.symm
  cases op <;> simp only [slowBits, fastBits] at hw ⊢ <;> first
    | (rw [hxa]; exact hw)
    | (rw [BitVec.toNat_and, em, en]; exact hw)
    | (rw [BitVec.toNat_or, em, en]; exact hw)
    | (rw [BitVec.toNat_xor, em, en]; exact hw)
theorem abits_eq (op : BinOp) (k : IntKind) (x y : Int) : abits op k x y = slowBits op k x y := by
  unfold abits
  split
  · rename_i m n
    split
    · rename_i h
      simp only [Bool.and_eq_true] at h
      exact (slow_fast op k m n h.1 h.2).symm
    · rfl
  · rfl

def bitsN (k : IntKind) : Nat := match k with
  | .i8 | .u8 => 8
  | .i16 | .u16 => 16
  | .i32 | .u32 => 32
  | .i64 | .u64 => 64
def nmin (a b : Nat) : Nat := match Nat.ble a b with
  | true => a
  | false => b
theorem nmin_eq (a b : Nat) : nmin a b = min a b := by
  unfold nmin
  cases h : Nat.ble a b with
  | true => have := Nat.le_of_ble_eq_true h; simp only []; omega
  | false =>
    have : ¬ a ≤ b := fun h' => by rw [Nat.ble_eq_true_of_le h'] at h; cases h
    simp only []; omega
def ashl (k : IntKind) (x : Int) (n : Nat) : Int := match x with
  | .ofNat m => fwrap k (.ofNat (Nat.shiftLeft m n))
  | .negSucc _ => k.wrap (x * 2 ^ n)
def ashr (x : Int) (n : Nat) : Int := match x with
  | .ofNat m => .ofNat (Nat.shiftRight m n)
  | .negSucc _ => x.fdiv (2 ^ n)
theorem ashl_eq (k : IntKind) (x : Int) (n : Nat) : ashl k x n = k.wrap (x * 2 ^ n) := by
  cases x with
  | ofNat m =>
    simp only [ashl, fwrap_eq]
    congr 1
    show ((m <<< n : Nat) : Int) = _
    rw [Nat.shiftLeft_eq]; simp
  | negSucc m => rfl
theorem ashr_eq (x : Int) (n : Nat) : ashr x n = x.fdiv (2 ^ n) := by
  cases x with
  | ofNat m =>
    simp only [ashr]
    show ((m >>> n : Nat) : Int) = _
    rw [Nat.shiftRight_eq_div_pow]
    show _ = Int.fdiv (m : Int) _
    rw [Int.fdiv_eq_ediv_of_nonneg _ (Int.le_of_lt (Int.pow_pos (by omega)))]
    simp
  | negSucc m => rfl
def kix (k : IntKind) : Nat := match k with
  | .i8 => 0 | .i16 => 1 | .i32 => 2 | .i64 => 3 | .u8 => 4 | .u16 => 5 | .u32 => 6 | .u64 => 7
theorem kix_inj {j k : IntKind} (h : Nat.beq (kix j) (kix k) = true) : j = k := by
  cases j <;> cases k <;> first | rfl | cases h

/-- Two integers of one kind. -/
def aint (op : BinOp) (k : IntKind) (a b : Int) : Option Value := match op with
  | .add => mkI k (fwrap k (Int.add a b))
  | .sub => mkI k (fwrap k (Int.sub a b))
  | .mul => mkI k (fwrap k (Int.mul a b))
  | .quo => match ieq b 0 with
    | true => none
    | false => mkI k (fwrap k (Int.tdiv a b))
  | .rem => match ieq b 0 with
    | true => none
    | false => mkI k (Int.tmod a b)
  | .eql => mkB (ieq a b)
  | .neq => mkB (!(ieq a b))
  | .lss => mkB (ilt a b)
  | .leq => mkB (ile a b)
  | .gtr => mkB (ilt b a)
  | .geq => mkB (ile b a)
  | .and | .or | .xor | .andNot => mkI k (abits op k a b)
  | .shl | .shr => none
def ashift (op : BinOp) (k : IntKind) (a b : Int) : Option Value := match ilt b 0 with
  | true => none
  | false => match op with
    | .shl => mkI k (ashl k a (nmin b.toNat (bitsN k)))
    | .shr => mkI k (ashr a (nmin b.toNat (bitsN k)))
    | _ => none
theorem aint_ok {P : Program} {op : BinOp} {t : TypeId} {k : IntKind} {a b : Int} {v : Value} (h : aint op k a b = some v) (w : World) :
    (binOp op t (.int k a) (.int k b)).run P w = .ok v w := by
  cases op <;> simp only [aint, fwrap_eq, mkI_eq, mkB_eq, ieq_eq, ilt_eq, ile_eq, abits_eq, Option.some.injEq] at h
  case quo =>
    split at h
    · cases h
    · rename_i hb
      have hb' : b ≠ 0 := by simpa using hb
      cases h
      simp [Go.binOp, Op.intDiv, hb']
  case rem =>
    split at h
    · cases h
    · rename_i hb
      have hb' : b ≠ 0 := by simpa using hb
      cases h
      simp [Go.binOp, Op.intDiv, hb']
  case shl => cases h
  case shr => cases h
  all_goals subst h
  all_goals first
    | rfl
    | (simp [Go.binOp, Op.intArith]; done)
    | (simp [Go.binOp, Op.intArith]; rfl)
    | (simp [Go.binOp, Op.intCmp]; done)
    | (simp [Go.binOp, Op.intCmp, bne]; done)
    | (simp [Go.binOp, Op.intBits, slowBits]; done)
theorem ashift_ok {P : Program} {op : BinOp} {t : TypeId} {k j : IntKind} {a b : Int} {v : Value} (h : ashift op k a b = some v) (w : World) :
    (binOp op t (.int k a) (.int j b)).run P w = .ok v w := by
  have hbits : bitsN k = k.bits := by cases k <;> rfl
  unfold ashift at h
  split at h
  · cases h
  · rename_i hb
    have hb' : ¬ b < 0 := by simpa using hb
    split at h
    · simp only [ashl_eq, nmin_eq, hbits, mkI_eq, Option.some.injEq] at h
      subst h
      simp [Go.binOp, Op.shift, hb']
    · simp only [ashr_eq, nmin_eq, hbits, mkI_eq, Option.some.injEq] at h
      subst h
      simp [Go.binOp, Op.shift, hb']
    · cases h
end Go.Vit
