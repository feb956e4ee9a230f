/- Operations that touch no memory: what they yield, and that the model's do. -/
import Derived.Test.YticlkfhmmcepjaaDoorVitC
set_option linter.unusedSimpArgs false
set_option linter.unusedVariables false
namespace Go.Vit
open Go

def tsize (P : Program) (t : TypeId) : Option Nat := match P.info? t with
  | some i => some i.size
  | none => none
def tagg (P : Program) (t : TypeId) : Option Bool := match P.underlying t with
  | some (.struct _) => some true
  | some (.array _ _) => some true
  | some _ => some false
  | none => none
def tzero (P : Program) (t : TypeId) : Option Value := match P.info? t with
  | some i => i.zero
  | none => none

section
variable {P : Program} (w : World)
theorem run_tsize {t : TypeId} {s : Nat} (h : tsize P t = some s) : (sizeOf t).run P w = .ok s w := by
  unfold tsize at h
  cases hi : P.info? t with
  | none => simp [hi] at h
  | some i => simp [hi] at h; subst h; simp [sizeOf, typeInfo, hi]
theorem run_tagg {t : TypeId} {b : Bool} (h : tagg P t = some b) : (isAgg t).run P w = .ok b w := by
  unfold tagg at h
  cases hu : P.underlying t with
  | none => simp [hu] at h
  | some d => cases d <;> simp [hu] at h <;> subst h <;> simp [isAgg, run_underlying hu]
theorem run_tzero {t : TypeId} {z : Value} (h : tzero P t = some z) : (zeroValue t).run P w = .ok z w := by
  unfold tzero at h
  cases hi : P.info? t with
  | none => simp [hi] at h
  | some i => simp [hi] at h; simp [zeroValue, typeInfo, hi, h]
end

/-- Operands. -/
def aeval (G : Nat) (env : Nat → Option Value) (x : Operand) : Option Value := match x with
  | .tmp t => env t
  | .const v => match plain v with
    | true => some v
    | false => none
  | .global g => match Nat.blt g G with
    | true => some (.pointer (some ⟨g, 0, none⟩))
    | false => none
  | .func f => some (.func (.func f) #[] #[])

/-- A frame's known slots stand for the machine's. -/
def FR (ι : Inj) (env : Nat → Option Value) (a : Act) : Prop := ∀ t v, env t = some v → VR ι v (a.tmps.getD t Go.undef)
theorem FR.mono {ι κ : Inj} (h : ι.le κ) {env : Nat → Option Value} {a : Act} (r : FR ι env a) : FR κ env a := fun t v hv => (r t v hv).mono h

theorem aeval_ok {G : Nat} {ι : Inj} {env : Nat → Option Value} {a : Act} (hg : ∀ g, g < G → ι g = some ⟨g, 0, 0⟩) (hf : FR ι env a) {x : Operand} {v : Value} (h : aeval G env x = some v) : VR ι v (a.eval x) := by
  cases x with
  | tmp t => exact hf t v h
  | const c =>
    simp only [aeval] at h
    split at h
    · rename_i hp; cases h; exact VR.plain ι hp
    · cases h
  | global g =>
    simp only [aeval] at h
    split at h
    · rename_i hp
      cases h
      have := VR.ptr (ι := ι) g 0 ⟨g, 0, 0⟩ (hg g (by simpa using hp))
      exact this
    · cases h
  | func f => cases h; exact .func f _ _ rfl (by simp)

def strOk (n : Nat) : Bool := Nat.ble n 9223372036854775807
theorem strOk_max {n : Nat} (h : strOk n = true) : ¬ ((n : Nat) : Int) > IntKind.i64.max := by
  have h1 := Nat.le_of_ble_eq_true h
  have hm : IntKind.i64.max = ((9223372036854775807 : Nat) : Int) := rfl
  rw [hm]
  exact Int.not_lt.2 (Int.ofNat_le.2 h1)
def aeqB (op : BinOp) (b : Bool) : Option Value := match op with
  | .eql => mkB b
  | .neq => mkB (!b)
  | _ => none
/-- A binary operation on values. -/
def abin (P : Program) (op : BinOp) (t : TypeId) (x y : Value) : Option Value := match x with
  | .int k a => match y with
    | .int j b => match op with
      | .shl => ashift .shl k a b
      | .shr => ashift .shr k a b
      | op => match Nat.beq (kix k) (kix j) with
        | true => aint op k a b
        | false => none
    | _ => none
  | .bool a => match y with
    | .bool b => match P.underlying t with
      | some .bool => aeqB op (a == b)
      | _ => none
    | _ => none
  | .slice p _ _ => match y with
    | .slice q _ _ => match P.underlying t with
      | some (.slice _) => match p, q with
        | none, q => aeqB op q.isNone
        | some _, none => aeqB op false
        | _, _ => none
      | _ => none
    | _ => none
  | .pointer p => match y with
    | .pointer q => match P.underlying t with
      | some (.pointer _) => match p, q with
        | none, q => aeqB op q.isNone
        | some _, none => aeqB op false
        | _, _ => none
      | _ => none
    | _ => none
  | .nilFunc => match y with
    | .nilFunc => match P.underlying t with
      | some (.func ..) => aeqB op true
      | _ => none
    | .func .. => match P.underlying t with
      | some (.func ..) => aeqB op false
      | _ => none
    | _ => none
  | .func .. => match y with
    | .nilFunc => match P.underlying t with
      | some (.func ..) => aeqB op false
      | _ => none
    | _ => none
  | .string a => match y with
    | .string b => match op with
      | .eql => mkB (a.toList == b.toList)
      | .neq => mkB (!(a.toList == b.toList))
      | .lss => mkB (Op.bytesLess a.toList b.toList)
      | .gtr => mkB (!(Op.bytesLess a.toList b.toList || a.toList == b.toList))
      | .add => match strOk (a.size + b.size) with
        | true => some (.string (a ++ b))
        | false => none
      | _ => none
    | _ => none
  | _ => none

theorem aeqB_ok {P : Program} {op : BinOp} {t : TypeId} {x y : Value} {b : Bool} {v : Value} {w : World} (h : aeqB op b = some v)
    (he : ∀ op, op = .eql ∨ op = .neq → binOp op t x y = (match op with | .eql => do pure (.bool (← Op.equal t x y)) | _ => do pure (.bool (!(← Op.equal t x y)))))
    (hq : (Op.equal t x y).run P w = .ok b w) : (binOp op t x y).run P w = .ok v w := by
  cases op <;> simp only [aeqB, mkB_eq, Option.some.injEq] at h <;> first | cases h | skip
  · rw [he .eql (.inl rfl)]; simp [hq]
  · rw [he .neq (.inr rfl)]; simp [hq]

theorem guard_ok {P : Program} {op : BinOp} {t : TypeId} {x y : Operand} {a b : Value} (h : ∀ cs, a ≠ .agg cs) (h' : a ≠ .nilIface) (w : World) : (eqGuard op t x y a b).run P w = .ok () w := by
  cases op <;> simp only [eqGuard] <;> first | rfl | skip
  all_goals
    cases a <;> first | rfl | exact absurd rfl (h _) | exact absurd rfl h' | skip

theorem equal_bool {P : Program} {t : TypeId} (h : P.underlying t = some .bool) (a b : Bool) (w : World) : (Op.equal t (.bool a) (.bool b)).run P w = .ok (a == b) w := by
  have key : ∀ d, (Op.equalIn (d + 1) t (.bool a) (.bool b)).run P w = .ok (a == b) w := fun d => by simp [Op.equalIn, run_underlying h]
  exact key 9999
theorem equal_slice {P : Program} {t e : TypeId} (h : P.underlying t = some (.slice e)) (p q : Option Addr) (n c n' c' : Nat) (hp : p = none ∨ q = none) (w : World) :
    (Op.equal t (.slice p n c) (.slice q n' c')).run P w = .ok (p.isNone && q.isNone) w := by
  have key : ∀ d, (Op.equalIn (d + 1) t (.slice p n c) (.slice q n' c')).run P w = .ok (p.isNone && q.isNone) w := fun d => by
    rcases hp with rfl | rfl
    · simp [Op.equalIn, run_underlying h]
    · cases p <;> simp [Op.equalIn, run_underlying h]
  exact key 9999
theorem equal_ptr {P : Program} {t e : TypeId} (h : P.underlying t = some (.pointer e)) (p q : Option Addr) (hp : p = none ∨ q = none) (w : World) :
    (Op.equal t (.pointer p) (.pointer q)).run P w = .ok (p.isNone && q.isNone) w := by
  have key : ∀ d, (Op.equalIn (d + 1) t (.pointer p) (.pointer q)).run P w = .ok (p.isNone && q.isNone) w := fun d => by
    rcases hp with rfl | rfl
    · cases q <;> simp [Op.equalIn, run_underlying h]
    · cases p <;> simp [Op.equalIn, run_underlying h]
  exact key 9999
def isFn : Value → Option Bool
  | .nilFunc => some true
  | .func .. => some false
  | _ => none
theorem equal_func {P : Program} {t : TypeId} {ps rs : Array TypeId} {vd : Bool} (h : P.underlying t = some (.func ps rs vd)) {x y : Value} {a b : Bool} (hx : isFn x = some a) (hy : isFn y = some b) (hab : a = true ∨ b = true) (w : World) :
    (Op.equal t x y).run P w = .ok (a && b) w := by
  have key : ∀ d, (Op.equalIn (d + 1) t x y).run P w = .ok (a && b) w := fun d => by
    cases x <;> simp [isFn] at hx <;> cases y <;> simp [isFn] at hy <;> subst hx <;> subst hy <;> simp [Op.equalIn, run_underlying h] at hab ⊢
  exact key 9999
theorem aint_form {op : BinOp} {k : IntKind} {a b : Int} {v : Value} (h : aint op k a b = some v) : (∃ n, v = .int k n) ∨ ∃ b, v = .bool b := by
  cases op <;> simp only [aint, mkI_eq, mkB_eq] at h <;> (try split at h) <;> first
    | (cases h; done)
    | exact .inl ⟨_, (Option.some.inj h).symm⟩
    | exact .inr ⟨_, (Option.some.inj h).symm⟩
theorem ashift_form {op : BinOp} {k : IntKind} {a b : Int} {v : Value} (h : ashift op k a b = some v) : ∃ n, v = .int k n := by
  unfold ashift at h
  simp only [mkI_eq] at h
  split at h
  · cases h
  · split at h <;> first | exact ⟨_, (Option.some.inj h).symm⟩ | cases h

theorem abin_ok {P : Program} {op : BinOp} {t : TypeId} {ι : Inj} {x y v x' y' : Value} (h : abin P op t x y = some v) (hx : VR ι x x') (hy : VR ι y y') (ox oy : Operand) (w : World) :
    (do eqGuard op t ox oy x' y'; binOp op t x' y').run P w = .ok v w ∧ VR ι v v := by
  have plainV : ∀ b, VR ι (.bool b) (.bool b) := fun b => .bool b
  have aeqV : ∀ {op b v}, aeqB op b = some v → VR ι v v := fun {op b v} h => by
    cases op <;> simp only [aeqB, mkB_eq, Option.some.injEq] at h <;> first | (subst h; exact .bool _) | cases h
  have aintV : ∀ {op k a b v}, aint op k a b = some v → VR ι v v := fun {op k a b v} h => by
    rcases aint_form h with ⟨n, rfl⟩ | ⟨n, rfl⟩
    · exact .int _ _
    · exact .bool _
  have ashV : ∀ {op k a b v}, ashift op k a b = some v → VR ι v v := fun {op k a b v} h => by
    obtain ⟨n, rfl⟩ := ashift_form h
    exact .int _ _
  have hg : (eqGuard op t ox oy x' y').run P w = .ok () w := by
    refine guard_ok (fun cs e => ?_) (fun e => ?_) w
    · subst e; cases hx; simp [abin] at h
    · subst e; cases hx; simp [abin] at h
  have fin : (binOp op t x' y').run P w = .ok v w → VR ι v v → (do eqGuard op t ox oy x' y'; binOp op t x' y').run P w = .ok v w ∧ VR ι v v := fun h1 h2 => ⟨by simp [hg, h1], h2⟩
  unfold abin at h
  cases x <;> simp only [] at h <;> try (cases h; done)
  case int k a =>
    cases hx
    cases y <;> simp only [] at h <;> try (cases h; done)
    cases hy
    rename_i j b
    cases op <;> simp only [] at h
    case shl => exact fin (ashift_ok h w) (ashV h)
    case shr => exact fin (ashift_ok h w) (ashV h)
    all_goals
      split at h
      · rename_i hk
        obtain rfl := kix_inj hk
        exact fin (aint_ok h w) (aintV h)
      · cases h
  case bool a =>
    cases hx
    cases y <;> simp only [] at h <;> try (cases h; done)
    cases hy
    rename_i b
    split at h
    · rename_i hu
      exact fin (aeqB_ok h (fun op ho => by rcases ho with rfl | rfl <;> rfl) (equal_bool hu a b w)) (aeqV h)
    · cases h
  case slice p n c =>
    cases y <;> simp only [] at h <;> try (cases h; done)
    rename_i q n' c'
    split at h
    · rename_i e hu
      have hp : ∃ p' m d, x' = .slice p' m d ∧ p'.isNone = p.isNone := by cases hx <;> exact ⟨_, _, _, rfl, rfl⟩
      have hq : ∃ q' m d, y' = .slice q' m d ∧ q'.isNone = q.isNone := by cases hy <;> exact ⟨_, _, _, rfl, rfl⟩
      obtain ⟨p', m, d, rfl, hp⟩ := hp
      obtain ⟨q', m', d', rfl, hq⟩ := hq
      have run : ∀ b, aeqB op b = some v → (p' = none ∨ q' = none) → (p'.isNone && q'.isNone) = b → (binOp op t (.slice p' m d) (.slice q' m' d')).run P w = .ok v w := fun b hb hn hv =>
        aeqB_ok hb (fun op ho => by rcases ho with rfl | rfl <;> rfl) (by rw [equal_slice hu p' q' m d m' d' hn w, hv])
      split at h
      · have hp' : p' = none := by simpa using hp
        exact fin (run _ h (.inl hp') (by subst hp'; simp [hq])) (aeqV h)
      · have hq' : q' = none := by simpa using hq
        exact fin (run _ h (.inr hq') (by cases p' <;> simp_all)) (aeqV h)
      · cases h
    · cases h
  case pointer p =>
    cases y <;> simp only [] at h <;> try (cases h; done)
    rename_i q
    split at h
    · rename_i e hu
      have hp : ∃ p', x' = .pointer p' ∧ p'.isNone = p.isNone := by cases hx <;> exact ⟨_, rfl, rfl⟩
      have hq : ∃ q', y' = .pointer q' ∧ q'.isNone = q.isNone := by cases hy <;> exact ⟨_, rfl, rfl⟩
      obtain ⟨p', rfl, hp⟩ := hp
      obtain ⟨q', rfl, hq⟩ := hq
      have run : ∀ b, aeqB op b = some v → (p' = none ∨ q' = none) → (p'.isNone && q'.isNone) = b → (binOp op t (.pointer p') (.pointer q')).run P w = .ok v w := fun b hb hn hv => by
        refine aeqB_ok hb (fun op ho => ?_) (by rw [equal_ptr hu p' q' hn w, hv])
        rcases ho with rfl | rfl <;> rfl
      split at h
      · have hp' : p' = none := by simpa using hp
        exact fin (run _ h (.inl hp') (by subst hp'; simp [hq])) (aeqV h)
      · have hq' : q' = none := by simpa using hq
        exact fin (run _ h (.inr hq') (by cases p' <;> simp_all)) (aeqV h)
      · cases h
    · cases h
  case nilFunc =>
    cases hx
    cases y <;> simp only [] at h <;> try (cases h; done)
    case nilFunc =>
      cases hy
      split at h
      · rename_i hu
        exact fin (aeqB_ok h (fun op ho => by rcases ho with rfl | rfl <;> rfl) (equal_func hu rfl rfl (.inl rfl) w)) (aeqV h)
      · cases h
    case func =>
      cases hy
      split at h
      · rename_i hu
        exact fin (aeqB_ok h (fun op ho => by rcases ho with rfl | rfl <;> rfl) (equal_func hu rfl rfl (.inl rfl) w)) (aeqV h)
      · cases h
  case func =>
    cases hx
    cases y <;> simp only [] at h <;> try (cases h; done)
    cases hy
    split at h
    · rename_i hu
      exact fin (aeqB_ok h (fun op ho => by rcases ho with rfl | rfl <;> rfl) (equal_func (a := false) (b := true) hu rfl rfl (.inr rfl) w)) (aeqV h)
    · cases h
  case string a =>
    cases hx
    cases y <;> simp only [] at h <;> try (cases h; done)
    cases hy
    rename_i b
    cases op <;> simp only [mkB_eq, Option.some.injEq] at h <;> try (cases h; done)
    case add =>
      split at h
      · rename_i hl
        have hl' := strOk_max hl
        cases h
        refine fin ?_ (.string _)
        simp only [Go.binOp, Op.stringOp, if_neg hl']
        rfl
      · cases h
    all_goals
      subst h
      exact fin rfl (.bool _)
end Go.Vit
