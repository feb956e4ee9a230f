/- All operations that touch no memory, in one. -/
import Derived.Test.YticlkfhmmcepjaaDoorVitF
set_option linter.unusedSimpArgs false
set_option linter.unusedVariables false
namespace Go.Vit
open Go

def alen (P : Program) (t : TypeId) (x : Value) : Option Value := match P.underlying t with
  | some .string => match x with
    | .string s => some (.int .i64 (.ofNat s.size))
    | _ => none
  | some (.array n _) => some (.int .i64 (.ofNat n))
  | some (.slice _) => match x with
    | .slice _ n _ => natK n fun n => some (.int .i64 (.ofNat n))
    | _ => none
  | some (.pointer arr) => match P.underlying arr with
    | some (.array n _) => some (.int .i64 (.ofNat n))
    | _ => none
  | some (.map _ _) => match x with
    | .map none => some (.int .i64 (.ofNat 0))
    | _ => none
  | _ => none
theorem alen_ok {P : Program} {ι : Inj} {t ty : TypeId} {ts : Array TypeId} {x v x' : Value} (h : alen P t x = some v) (hx : VR ι x x') (ht : ts[0]? = some t) (w : World) :
    (Builtin.len_ ts ty #[x']).run P w = .ok v w ∧ VR ι v v := by
  unfold alen at h
  split at h
  · rename_i hu
    split at h
    · cases hx; cases h; exact ⟨by simp [Builtin.len_, ht, run_underlying hu, goInt], .int _ _⟩
    · cases h
  · rename_i n e hu
    cases h
    exact ⟨by simp [Builtin.len_, ht, run_underlying hu, goInt], .int _ _⟩
  · rename_i e hu
    split at h
    · rename_i a n c
      simp only [natK_eq, Option.some.injEq] at h
      subst h
      have : ∃ a' c', x' = .slice a' n c' := by cases hx <;> exact ⟨_, _, rfl⟩
      obtain ⟨a', c', rfl⟩ := this
      exact ⟨by simp [Builtin.len_, ht, run_underlying hu, goInt], .int _ _⟩
    · cases h
  · rename_i arr hu
    split at h
    · rename_i n e hu2
      cases h
      exact ⟨by simp [Builtin.len_, ht, run_underlying hu, run_underlying hu2, goInt], .int _ _⟩
    · cases h
  · rename_i k e hu
    split at h
    · cases hx; cases h; exact ⟨by simp [Builtin.len_, ht, run_underlying hu, goInt], .int _ _⟩
    · cases h
  · cases h

/-- The least, or the greatest, of integers. -/
def aleast (mn : Bool) (k : IntKind) (x : Int) : List Value → Option Value
  | [] => mkI k x
  | .int _ y :: l => match mn with
    | true => match ilt y x with
      | true => aleast mn k y l
      | false => aleast mn k x l
    | false => match ilt x y with
      | true => aleast mn k y l
      | false => aleast mn k x l
  | _ :: _ => none
theorem aleast_ok {P : Program} {ι : Inj} (w : World) (mn : Bool) : ∀ (k : IntKind) (x : Int) (l l' : List Value) (v : Value), aleast mn k x l = some v → VL ι l l' →
    (l'.foldlM (if mn then Builtin.min2 else Builtin.max2) (.int k x) : Sem Value).run P w = .ok v w ∧ VR ι v v
  | k, x, [], l', v, h, hl => by
    obtain rfl := hl.inv_nil
    simp only [aleast, mkI_eq, Option.some.injEq] at h
    subst h
    exact ⟨rfl, .int _ _⟩
  | k, x, y :: l, l', v, h, hl => by
    obtain ⟨y', l'', rfl, hy, hl'⟩ := hl.inv_cons
    cases y with
    | int j y =>
      cases hy
      have step : ∀ z : Int, (if mn then Builtin.min2 else Builtin.max2) (.int k x) (.int j y) = (pure (.int k z) : Sem Value) → aleast mn k z l = some v →
          ((.int j y :: l'').foldlM (if mn then Builtin.min2 else Builtin.max2) (.int k x) : Sem Value).run P w = .ok v w ∧ VR ι v v := fun z h1 h2 => by
        have ih := aleast_ok (P := P) w mn k z l l'' v h2 hl'
        refine ⟨?_, ih.2⟩
        rw [List.foldlM_cons, h1, pure_bind]
        exact ih.1
      simp only [aleast, ilt_eq] at h
      cases mn with
      | true =>
        simp only [] at h
        split at h
        · rename_i hlt
          exact step y (by simp at hlt; simp [Builtin.min2, hlt]) h
        · rename_i hlt
          exact step x (by simp at hlt; simp [Builtin.min2, Int.not_lt.2 hlt]) h
      | false =>
        simp only [] at h
        split at h
        · rename_i hlt
          exact step y (by simp at hlt; simp [Builtin.max2, hlt]) h
        · rename_i hlt
          exact step x (by simp at hlt; simp [Builtin.max2, Int.not_lt.2 hlt]) h
    | _ => simp [aleast] at h

def abuiltin (P : Program) (b : Builtin) (ts : Array TypeId) (vs : List Value) : Option Value := match b with
  | .len => match vs with
    | [x] => match lget ts.toList 0 with
      | some t => alen P t x
      | none => none
    | _ => none
  | .min => match vs with
    | .int k x :: l => aleast true k x l
    | _ => none
  | .max => match vs with
    | .int k x :: l => aleast false k x l
    | _ => none
  | _ => none

def aiface (P : Program) (t : TypeId) (x : Value) : Option Value := match P.underlying t with
  | some (.interface _) => none
  | some _ => some (.iface t x)
  | none => none
def plainZ (v : Value) : Bool := match v with
  | .agg cs => plainL cs.toList
  | v => plain v
theorem plainZ_ok (ι : Inj) {v : Value} (h : plainZ v = true) : VR ι v v := by
  unfold plainZ at h
  split at h
  · exact VL.agg (plainL_ok ι _ h)
  · exact VR.plain ι h
/-- A type assertion to a type that is no interface. -/
def aassert (P : Program) (x : Value) (t : TypeId) (ok : Bool) : Option Value := match P.underlying t with
  | some (.interface _) => none
  | none => none
  | some _ => match x with
    | .iface u v => match Nat.beq u t with
      | true => match ok with
        | true => some (.tuple ⟨[v, .bool true]⟩)
        | false => some v
      | false => match ok with
        | true => match tzero P t with
          | some z => match plainZ z with
            | true => some (.tuple ⟨[z, .bool false]⟩)
            | false => none
          | none => none
        | false => none
    | _ => none

def apure (P : Program) (ev : Operand → Option Value) (op : Op) : Option Value := match op with
  | .move x => ev x
  | .assign x => ev x
  | .pick c a b => match ev c with
    | some (.bool true) => ev a
    | some (.bool false) => ev b
    | _ => none
  | .binOp op t x y _ => match ev x with
    | some vx => match ev y with
      | some vy => abin P op t vx vy
      | none => none
    | none => none
  | .unOp op _ x => match ev x with
    | some vx => aun op vx
    | none => none
  | .convert src dst x => match ev x with
    | some vx => aconv P src dst vx
    | none => none
  | .extract x i => match ev x with
    | some vx => aextract vx i
    | none => none
  | .nilCheck x => match ev x with
    | some vx => anil vx
    | none => none
  | .fieldAddr s x f => match ev x with
    | some vx => afield P s vx f
    | none => none
  | .field t x f => match ev x with
    | some vx => afieldV P t vx f
    | none => none
  | .indexAddr t x i => match ev x with
    | some vx => match ev i with
      | some vi => aindexAddr P t vx vi
      | none => none
    | none => none
  | .index t x i => match ev x with
    | some vx => match ev i with
      | some vi => aindex P t vx vi
      | none => none
    | none => none
  | .slice t x lo hi mx => match ev x with
    | some vx => aslice P ev t vx lo hi mx
    | none => none
  | .makeFunc fn first cs => match fn with
    | .func f => match first.toList with
      | [] => match evL ev cs.toList with
        | some vs => some (.func (.func f) #[] ⟨vs⟩)
        | none => none
      | _ => none
    | _ => none
  | .makeInterface t x => match ev x with
    | some vx => aiface P t vx
    | none => none
  | .build t parts => abuild P ev t parts.toList
  | .typeAssert x _ t ok => match ev x with
    | some vx => aassert P vx t ok
    | none => none
  | .call c => match c.callee with
    | .builtin b => match evL ev c.args.toList with
      | some vs => abuiltin P b c.argTypes vs
      | none => none
    | _ => none
  | _ => none

theorem exec_builtin {P : Program} {ρ : Operand → Value} {o : Oper} {c : Call} {b : Builtin} (ho : o.op = .call c) (hc : c.callee = .builtin b) (w : World) :
    ∃ ks, (execOp ρ o).run P w = (builtin b c.argTypes o.type ks (c.args.map ρ)).run P w :=
  ⟨_, by simp [execOp, ho, resolve, hc, invoke]; rfl⟩

theorem apure_ok {P : Program} {ι : Inj} {ev : Operand → Option Value} {ρ : Operand → Value} (hev : ∀ x v, ev x = some v → VR ι v (ρ x)) {o : Oper} {v : Value} (h : apure P ev o.op = some v) (w : World) :
    ∃ u, (execOp ρ o).run P w = .ok (.value u) w ∧ VR ι v u := by
  obtain ⟨dst, op, type, pos, after, guard⟩ := o
  simp only [] at h
  cases op <;> simp only [apure] at h <;> try (cases h; done)
  case move x => exact ⟨ρ x, rfl, hev _ _ h⟩
  case assign x => exact ⟨ρ x, rfl, hev _ _ h⟩
  case pick c a b =>
    split at h
    · rename_i hc
      have := hev _ _ hc
      cases hb : ρ c <;> rw [hb] at this <;> cases this
      exact ⟨ρ a, by simp [execOp, hb, asBool], hev _ _ h⟩
    · rename_i hc
      have := hev _ _ hc
      cases hb : ρ c <;> rw [hb] at this <;> cases this
      exact ⟨ρ b, by simp [execOp, hb, asBool], hev _ _ h⟩
    · cases h
  case binOp op t x y ty =>
    split at h
    · rename_i vx hx
      split at h
      · rename_i vy hy
        obtain ⟨h1, h2⟩ := abin_ok h (hev _ _ hx) (hev _ _ hy) x y w
        refine ⟨v, ?_, h2⟩
        simp only [execOp, Sem.run_bind] at h1 ⊢
        simp [h1]
      · cases h
    · cases h
  case unOp op t x =>
    split at h
    · rename_i vx hx
      obtain ⟨h1, h2⟩ := aun_ok (P := P) h (hev _ _ hx) w
      exact ⟨v, by simp [execOp, h1], h2⟩
    · cases h
  case convert src dst x =>
    split at h
    · rename_i vx hx
      obtain ⟨h1, h2⟩ := aconv_ok h (hev _ _ hx) w
      exact ⟨v, by simp [execOp, h1], h2⟩
    · cases h
  case extract x i =>
    split at h
    · rename_i vx hx
      obtain ⟨u, h1, h2⟩ := aextract_ok (P := P) h (hev _ _ hx) w
      exact ⟨u, by simp [execOp, h1], h2⟩
    · cases h
  case nilCheck x =>
    split at h
    · rename_i vx hx
      have hr := hev _ _ hx
      cases vx <;> simp only [anil] at h <;> try (cases h; done)
      case pointer p =>
        cases p with
        | none => cases h
        | some a =>
          cases h
          refine ⟨ρ x, ?_, hr⟩
          have : ∃ b, ρ x = .pointer (some b) := by generalize ρ x = y at hr; cases hr; exact ⟨_, rfl⟩
          obtain ⟨b, hb⟩ := this
          simp [execOp, hb]
      case func f first cs =>
        cases h
        refine ⟨ρ x, ?_, hr⟩
        have : ∃ f ds, ρ x = .func (.func f) #[] ds := by generalize ρ x = y at hr; cases hr; exact ⟨_, _, rfl⟩
        obtain ⟨f, ds, hb⟩ := this
        simp [execOp, hb]
      case iface t y =>
        cases h
        refine ⟨ρ x, ?_, hr⟩
        have : ∃ t z, ρ x = .iface t z := by generalize ρ x = y at hr; cases hr; exact ⟨_, _, rfl⟩
        obtain ⟨t, z, hb⟩ := this
        simp [execOp, hb]
    · cases h
  case fieldAddr s x f =>
    split at h
    · rename_i vx hx
      obtain ⟨u, h1, h2⟩ := afield_ok h (hev _ _ hx) w
      exact ⟨u, by simp [execOp, h1], h2⟩
    · cases h
  case field t x f =>
    split at h
    · rename_i vx hx
      obtain ⟨u, h1, h2⟩ := afieldV_ok h (hev _ _ hx) w
      exact ⟨u, by simp [execOp, h1], h2⟩
    · cases h
  case indexAddr t x i =>
    split at h
    · rename_i vx hx
      split at h
      · rename_i vi hi
        obtain ⟨u, h1, h2⟩ := aindexAddr_ok h (hev _ _ hx) (hev _ _ hi) w
        exact ⟨u, by simp [execOp, h1], h2⟩
      · cases h
    · cases h
  case index t x i =>
    split at h
    · rename_i vx hx
      split at h
      · rename_i vi hi
        obtain ⟨u, h1, h2⟩ := aindex_ok h (hev _ _ hx) (hev _ _ hi) w
        exact ⟨u, by simp [execOp, h1], h2⟩
      · cases h
    · cases h
  case slice t x lo hi mx =>
    split at h
    · rename_i vx hx
      obtain ⟨u, h1, h2⟩ := aslice_ok hev h (hev _ _ hx) w
      exact ⟨u, by simp [execOp, h1], h2⟩
    · cases h
  case makeFunc fn first cs =>
    cases fn <;> simp only [] at h <;> try (cases h; done)
    rename_i f
    split at h
    · rename_i hf
      split at h
      · rename_i vs hvs
        cases h
        have hl := evL_ok hev _ _ hvs
        have hf' : first = #[] := by apply Array.ext'; simpa using hf
        subst hf'
        refine ⟨.func (.func f) #[] (cs.map ρ), by simp [execOp, Instr.makeFunc], ?_⟩
        exact .func f _ _ (by simpa using hl.1) fun i a b h1 h2 => hl.2 i a b (by simpa using h1) (by simpa using h2)
      · cases h
    · cases h
  case makeInterface t x =>
    split at h
    · rename_i vx hx
      unfold aiface at h
      split at h
      · cases h
      · rename_i d hd hu
        cases h
        refine ⟨.iface t (ρ x), ?_, .iface _ _ _ (hev _ _ hx)⟩
        have : P.concrete t = true := by unfold Program.concrete; rw [hu]; cases d <;> first | rfl | exact absurd rfl (hd _)
        simp [execOp, run_makeInterface w t (ρ x) this]
      · cases h
    · cases h
  case build t parts =>
    obtain ⟨u, h1, h2⟩ := abuild_ok hev h w
    exact ⟨u, by simp only [execOp, Sem.run_bind, h1]; rfl, h2⟩
  case typeAssert x xt t ok =>
    split at h
    · rename_i vx hx
      have hr := hev _ _ hx
      unfold aassert at h
      split at h
      · cases h
      · cases h
      · rename_i d hd hu
        cases vx <;> simp only [] at h <;> try (cases h; done)
        rename_i tt vv
        have : ∃ z, ρ x = .iface tt z ∧ VR ι vv z := by generalize ρ x = y at hr; cases hr; rename_i h; exact ⟨_, rfl, h⟩
        obtain ⟨z, hz, hvz⟩ := this
        split at h
        · rename_i hut
          have hut' : tt = t := by simpa using hut
          cases ok with
          | true =>
            cases h
            refine ⟨.tuple #[z, .bool true], ?_, VL.tuple (VL.cons hvz (VL.cons (.bool _) (VL.nil ι)))⟩
            cases d <;> first | exact absurd rfl (hd _) | simp [execOp, Instr.typeAssert, run_underlying hu, hz, hut']
          | false =>
            cases h
            refine ⟨z, ?_, hvz⟩
            cases d <;> first | exact absurd rfl (hd _) | simp [execOp, Instr.typeAssert, run_underlying hu, hz, hut']
        · rename_i hut
          have hut' : ¬ tt = t := Nat.ne_of_beq_eq_false hut
          cases ok with
          | true =>
            simp only [] at h
            split at h
            · rename_i zz hzz
              split at h
              · rename_i hpz
                cases h
                refine ⟨.tuple #[zz, .bool false], ?_, VL.tuple (VL.cons (plainZ_ok ι hpz) (VL.cons (.bool _) (VL.nil ι)))⟩
                cases d <;> first | exact absurd rfl (hd _) | simp [execOp, Instr.typeAssert, run_underlying hu, hz, hut', run_tzero w hzz]
              · cases h
            · cases h
          | false => cases h
    · cases h
  case call c =>
    split at h
    · rename_i b hb
      split at h
      · rename_i vs hvs
        have hl := evL_ok hev _ _ hvs
        obtain ⟨ks, he⟩ := exec_builtin (P := P) (ρ := ρ) (o := { dst, op := .call c, type, pos, after, guard }) rfl hb w
        cases b <;> simp only [abuiltin] at h <;> try (cases h; done)
        case len =>
          split at h
          · rename_i x
            split at h
            · rename_i t ht
              obtain ⟨y, ys, hyy, hxy, hys⟩ := hl.inv_cons
              obtain rfl := hys.inv_nil
              have hargs : c.args.map ρ = #[y] := by apply Array.ext'; simpa using hyy
              rw [lget_eq] at ht
              obtain ⟨h1, h2⟩ := alen_ok (ty := type) (ts := c.argTypes) h hxy (by simpa using ht) w
              exact ⟨v, by rw [he, hargs]; simp [builtin, h1], h2⟩
            · cases h
          · cases h
        case min =>
          split at h
          · rename_i k x l
            obtain ⟨y, ys, hyy, hxy, hys⟩ := hl.inv_cons
            cases hxy
            obtain ⟨h1, h2⟩ := aleast_ok (P := P) w true k x l ys v h hys
            have hargs : (c.args.map ρ).toList = .int k x :: ys := by simpa using hyy
            refine ⟨v, ?_, h2⟩
            rw [he]
            simp only [builtin, Builtin.min_, hargs, Sem.run_bind]
            simp only [if_true] at h1
            simp [h1]
          · cases h
        case max =>
          split at h
          · rename_i k x l
            obtain ⟨y, ys, hyy, hxy, hys⟩ := hl.inv_cons
            cases hxy
            obtain ⟨h1, h2⟩ := aleast_ok (P := P) w false k x l ys v h hys
            have hargs : (c.args.map ρ).toList = .int k x :: ys := by simpa using hyy
            refine ⟨v, ?_, h2⟩
            rw [he]
            simp only [builtin, Builtin.max_, hargs, Sem.run_bind]
            simp only [Bool.false_eq_true, if_false] at h1
            simp [h1]
          · cases h
      · cases h
    · cases h
end Go.Vit
