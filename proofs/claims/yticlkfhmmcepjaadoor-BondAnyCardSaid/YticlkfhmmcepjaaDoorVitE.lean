/- The other operations that touch no memory. -/
import Derived.Test.YticlkfhmmcepjaaDoorVitD
set_option linter.unusedSimpArgs false
set_option linter.unusedVariables false
namespace Go.Vit
open Go

def evL (ev : Operand → Option Value) : List Operand → Option (List Value)
  | [] => some []
  | x :: xs => match ev x with
    | some v => match evL ev xs with
      | some vs => some (v :: vs)
      | none => none
    | none => none
theorem evL_ok {ι : Inj} {ev : Operand → Option Value} {ρ : Operand → Value} (h : ∀ x v, ev x = some v → VR ι v (ρ x)) : ∀ (xs : List Operand) (vs : List Value), evL ev xs = some vs → VL ι vs (xs.map ρ)
  | [], vs, e => by cases e; exact VL.nil ι
  | x :: xs, vs, e => by
    simp only [evL] at e
    split at e
    · split at e
      · cases e; rename_i hv _ vs' hvs; exact VL.cons (h x _ hv) (evL_ok h xs vs' hvs)
      · cases e
    · cases e

def aun (op : UnOp) (x : Value) : Option Value := match x with
  | .int k n => match op with
    | .neg => mkI k (fwrap k (Int.sub 0 n))
    | .xor => mkI k (abits .xor k (match sgn k with
      | true => -1
      | false => k.max) n)
    | _ => none
  | .bool b => match op with
    | .not => mkB (!b)
    | _ => none
  | _ => none
theorem aun_ok {P : Program} {ι : Inj} {op : UnOp} {x v x' : Value} (h : aun op x = some v) (hx : VR ι x x') (w : World) : (Op.unary op x').run P w = .ok v w ∧ VR ι v v := by
  unfold aun at h
  cases x <;> simp only [] at h <;> try (cases h; done)
  case int k n =>
    cases hx
    cases op <;> simp only [mkI_eq, fwrap_eq, abits_eq, Option.some.injEq] at h <;> try (cases h; done)
    · subst h; exact ⟨rfl, .int _ _⟩
    · subst h
      have e : (match sgn k with | true => (-1 : Int) | false => k.max) = if k.signed then -1 else k.max := by cases k <;> rfl
      rw [e]
      exact ⟨by simp [Op.unary, Op.intBits, slowBits], .int _ _⟩
  case bool b =>
    cases hx
    cases op <;> simp only [mkB_eq, Option.some.injEq] at h <;> try (cases h; done)
    subst h; exact ⟨rfl, .bool _⟩

def aconv (P : Program) (src dst : TypeId) (x : Value) : Option Value := match x with
  | .int _ n => match P.underlying src with
    | none => none
    | some _ => match P.underlying dst with
      | some (.int k) => mkI k (fwrap k n)
      | _ => none
  | .string s => match P.underlying src with
    | none => none
    | some _ => match P.underlying dst with
      | some .string => some (.string s)
      | _ => none
  | _ => none
theorem aconv_ok {P : Program} {ι : Inj} {src dst : TypeId} {x v x' : Value} (h : aconv P src dst x = some v) (hx : VR ι x x') (w : World) : (convert src dst x').run P w = .ok v w ∧ VR ι v v := by
  unfold aconv at h
  cases x <;> simp only [] at h <;> try (cases h; done)
  case int k n =>
    cases hx
    split at h
    · cases h
    · rename_i d hs
      split at h
      · rename_i k' hd
        simp only [mkI_eq, fwrap_eq, Option.some.injEq] at h
        subst h
        exact ⟨by simp [convert, run_underlying hs, run_underlying hd, Conv.intToInt], .int _ _⟩
      · cases h
  case string s =>
    cases hx
    split at h
    · cases h
    · rename_i d hs
      split at h
      · rename_i hd
        cases h
        refine ⟨?_, .string _⟩
        cases d <;> simp [convert, run_underlying hs, run_underlying hd]
      · cases h

def lget {α : Type} : List α → Nat → Option α
  | [], _ => none
  | a :: l, n => match n with
    | 0 => some a
    | Nat.succ m => lget l m
@[simp] theorem lget_eq {α : Type} : ∀ (l : List α) (n : Nat), lget l n = l[n]?
  | [], n => by simp [lget]
  | a :: l, 0 => rfl
  | a :: l, n + 1 => by simpa [lget] using lget_eq l n

def aextract (x : Value) (i : Nat) : Option Value := match x with
  | .tuple vs => lget vs.toList i
  | _ => none
theorem aextract_ok {P : Program} {ι : Inj} {i : Nat} {x v x' : Value} (h : aextract x i = some v) (hx : VR ι x x') (w : World) : ∃ u, (Instr.extract x' i).run P w = .ok u w ∧ VR ι v u := by
  cases x <;> simp only [aextract] at h <;> try (cases h; done)
  obtain ⟨ds, rfl, hl⟩ := VL.of_tuple hx
  rw [lget_eq] at h
  obtain ⟨u, hu, hr⟩ := hl.get h
  have hu' : ds[i]? = some u := by simpa using hu
  exact ⟨u, by simp [Instr.extract, hu'], hr⟩

def anil (x : Value) : Option Value := match x with
  | .pointer (some a) => some (.pointer (some a))
  | .func f first cs => some (.func f first cs)
  | .iface t v => some (.iface t v)
  | _ => none

/-- The place of a field. -/
def afield (P : Program) (s : TypeId) (x : Value) (f : Nat) : Option Value := match x with
  | .pointer (some ⟨b, o, none⟩) => match P.underlying s with
    | some (.struct fields) => match lget fields.toList f with
      | some fd => match tsize P fd.type with
        | some (Nat.succ _) => natK (Nat.add o fd.offset) fun q => some (.pointer (some ⟨b, q, none⟩))
        | _ => none
      | none => none
    | _ => none
  | _ => none
theorem addrAdd (b o n : Nat) : Addr.add ⟨b, o, none⟩ n = ⟨b, o + n, none⟩ := by
  unfold Addr.add
  split
  · subst_vars; rfl
  · rfl
theorem afield_ok {P : Program} {ι : Inj} {s : TypeId} {f : Nat} {x v x' : Value} (h : afield P s x f = some v) (hx : VR ι x x') (w : World) : ∃ u, (Instr.fieldAt s x' f).run P w = .ok u w ∧ VR ι v u := by
  unfold afield at h
  split at h
  · rename_i b o
    split at h
    · rename_i fields hu
      split at h
      · rename_i fd hf
        split at h
        · rename_i n hs
          simp only [natK_eq, Option.some.injEq] at h
          subst h
          cases hx with
          | ptr _ _ e he =>
            rw [lget_eq] at hf
            have hf' : fields[f]? = some fd := by simpa using hf
            refine ⟨.pointer (some ⟨e.cb, e.base + (o + fd.offset), none⟩), ?_, .ptr _ _ _ he⟩
            simp [Instr.fieldAt, run_underlying hu, hf', Instr.sureAddr, fieldPlace, run_tsize w hs, addrAdd, Nat.add_assoc]
        · cases h
      · cases h
    · cases h
  · cases h

/-- The place of an element. -/
def aindexAddr (P : Program) (t : TypeId) (x i : Value) : Option Value := match i with
  | .int _ n => match n with
    | .negSucc _ => none
    | .ofNat n => match P.underlying t with
      | some (.slice elem) => match x with
        | .slice (some ⟨b, o, _⟩) len _ => match Nat.blt n len with
          | true => match tsize P elem with
            | some s => natK (Nat.add o (Nat.mul n s)) fun q => some (.pointer (some ⟨b, q, none⟩))
            | none => none
          | false => none
        | _ => none
      | some (.array len elem) => match x with
        | .pointer (some ⟨b, o, none⟩) => match Nat.blt n len with
          | true => match tsize P elem with
            | some s => natK (Nat.add o (Nat.mul n s)) fun q => some (.pointer (some ⟨b, q, none⟩))
            | none => none
          | false => none
        | _ => none
      | _ => none
  | _ => none
theorem VR.slice_some {ι : Inj} {b o n c : Nat} {s : Option Nat} {u : Value} (h : VR ι (.slice (some ⟨b, o, s⟩) n c) u) : ∃ e q d, ι b = some e ∧ u = .slice (some ⟨e.cb, q, none⟩) n d ∧ (0 < n → q = e.base + o) := by
  cases h with
  | slOpen _ _ _ _ e he => exact ⟨e, _, _, he, rfl, fun _ => rfl⟩
  | slExact _ _ _ _ e he => exact ⟨e, _, _, he, rfl, fun _ => rfl⟩
  | slEnd _ _ q c e he => exact ⟨e, q, c, he, rfl, fun h => absurd h (by omega)⟩
theorem aindexAddr_ok {P : Program} {ι : Inj} {t : TypeId} {x i v x' i' : Value} (h : aindexAddr P t x i = some v) (hx : VR ι x x') (hi : VR ι i i') (w : World) : ∃ u, (Instr.indexAt t x' i').run P w = .ok u w ∧ VR ι v u := by
  unfold aindexAddr at h
  cases i <;> simp only [] at h <;> try (cases h; done)
  rename_i k n
  cases hi
  cases n <;> simp only [] at h <;> try (cases h; done)
  rename_i n
  split at h
  · rename_i elem hu
    split at h
    · rename_i b o sp len c
      split at h
      · rename_i hlt
        split at h
        · rename_i s hs
          simp only [natK_eq, Option.some.injEq] at h
          subst h
          obtain ⟨e, q, d, he, rfl, hq⟩ := hx.slice_some
          have hlt' : n < len := by simpa using hlt
          obtain rfl := hq (by omega)
          refine ⟨.pointer (some ⟨e.cb, e.base + (o + n * s), none⟩), ?_, .ptr _ _ _ he⟩
          simp [Instr.indexAt, asIntOf, run_underlying hu, run_tsize w hs, hlt', addrAdd, Nat.add_assoc]
        · cases h
      · cases h
    · cases h
  · rename_i len elem hu
    split at h
    · rename_i b o
      split at h
      · rename_i hlt
        split at h
        · rename_i s hs
          simp only [natK_eq, Option.some.injEq] at h
          subst h
          cases hx with
          | ptr _ _ e he =>
            have hlt' : n < len := by simpa using hlt
            refine ⟨.pointer (some ⟨e.cb, e.base + (o + n * s), none⟩), ?_, .ptr _ _ _ he⟩
            simp [Instr.indexAt, asIntOf, run_underlying hu, run_tsize w hs, hlt', addrAdd, Nat.add_assoc, Instr.sureAddr]
        · cases h
      · cases h
    · cases h
  · cases h

def apart (P : Program) (t : TypeId) (cs : List Value) (off : Nat) : Option Value := match tagg P t with
  | some true => match tsize P t with
    | some s => some (.agg ⟨(cs.drop off).take s⟩)
    | none => none
  | some false => lget cs off
  | none => none
theorem apart_ok {P : Program} {ι : Inj} {t : TypeId} {cs : List Value} {ds : Array Value} {off : Nat} {v : Value} (h : apart P t cs off = some v) (hc : VL ι cs ds.toList) (w : World) : ∃ u, (part t ds off).run P w = .ok u w ∧ VR ι v u := by
  unfold apart at h
  split at h
  · rename_i ha
    split at h
    · rename_i s hs
      cases h
      refine ⟨.agg (ds.extract off (off + s)), by simp [part, run_tagg w ha, run_tsize w hs], VL.agg ?_⟩
      have := (hc.drop off).take s
      simpa [Array.toList_extract, List.extract] using this
    · cases h
  · rename_i ha
    rw [lget_eq] at h
    obtain ⟨u, hu, hr⟩ := hc.get h
    have hu' : ds[off]? = some u := by simpa using hu
    exact ⟨u, by simp [part, run_tagg w ha, hu'], hr⟩
  · cases h

def aindex (P : Program) (t : TypeId) (x i : Value) : Option Value := match i with
  | .int _ n => match n with
    | .negSucc _ => none
    | .ofNat n => match P.underlying t with
      | some (.array len elem) => match x with
        | .agg cs => match Nat.blt n len with
          | true => match tsize P elem with
            | some s => apart P elem cs.toList (Nat.mul n s)
            | none => none
          | false => none
        | _ => none
      | some .string => match x with
        | .string s => match lget s.data.toList n with
          | some c => some (.int .u8 (.ofNat c.toNat))
          | none => none
        | _ => none
      | _ => none
  | _ => none
theorem aindex_ok {P : Program} {ι : Inj} {t : TypeId} {x i v x' i' : Value} (h : aindex P t x i = some v) (hx : VR ι x x') (hi : VR ι i i') (w : World) : ∃ u, (Instr.index t x' i').run P w = .ok u w ∧ VR ι v u := by
  unfold aindex at h
  cases i <;> simp only [] at h <;> try (cases h; done)
  rename_i k n
  cases hi
  cases n <;> simp only [] at h <;> try (cases h; done)
  rename_i n
  split at h
  · rename_i len elem hu
    split at h
    · rename_i cs
      split at h
      · rename_i hlt
        split at h
        · rename_i s hs
          obtain ⟨ds, rfl, hl⟩ := VL.of_agg hx
          obtain ⟨u, hu1, hr⟩ := apart_ok (ds := ds) h hl w
          have hlt' : n < len := by simpa using hlt
          refine ⟨u, ?_, hr⟩
          have hu2 : (part elem ds (n * s)).run P w = .ok u w := hu1
          simp [Instr.index, asIntOf, run_underlying hu, run_tsize w hs, hlt', hu2]
        · cases h
      · cases h
    · cases h
  · rename_i hu
    split at h
    · rename_i s
      cases hx
      split at h
      · rename_i c hc
        cases h
        rw [lget_eq] at hc
        have hc' : s[n]? = some c := by
          have hn : n < s.data.toList.length := (List.getElem?_eq_some_iff.1 hc).1
          have hn' : n < s.size := by simpa using hn
          have e2 : s.data.toList[n]? = some (s.data.toList[n]) := List.getElem?_eq_getElem hn
          rw [e2] at hc
          cases hc
          rw [getElem?_pos s n hn']
          rfl
        exact ⟨.int .u8 c.toNat, by simp [Instr.index, asIntOf, run_underlying hu, hc'], .int _ _⟩
      · cases h
    · cases h
  · cases h

def afieldV (P : Program) (t : TypeId) (x : Value) (f : Nat) : Option Value := match x with
  | .agg cs => match P.underlying t with
    | some (.struct fields) => match lget fields.toList f with
      | some fd => apart P fd.type cs.toList fd.offset
      | none => none
    | _ => none
  | _ => none
theorem afieldV_ok {P : Program} {ι : Inj} {t : TypeId} {f : Nat} {x v x' : Value} (h : afieldV P t x f = some v) (hx : VR ι x x') (w : World) : ∃ u, (Instr.field t x' f).run P w = .ok u w ∧ VR ι v u := by
  unfold afieldV at h
  cases x <;> simp only [] at h <;> try (cases h; done)
  obtain ⟨ds, rfl, hl⟩ := VL.of_agg hx
  split at h
  · rename_i fields hu
    split at h
    · rename_i fd hf
      rw [lget_eq] at hf
      have hf' : fields[f]? = some fd := by simpa using hf
      obtain ⟨u, hu1, hr⟩ := apart_ok (ds := ds) h hl w
      exact ⟨u, by simp [Instr.field, run_underlying hu, hf', asAgg, hu1], hr⟩
    · cases h
  · cases h

/-! ### Slices of slices and arrays -/
def anat (x : Value) : Option Nat := match x with
  | .int _ n => match n with
    | .ofNat n => natK n fun n => some n
    | .negSucc _ => none
  | _ => none
theorem anat_ok {ι : Inj} {x x' : Value} {n : Nat} (h : anat x = some n) (hx : VR ι x x') : ∃ k, x' = .int k (n : Int) := by
  unfold anat at h
  cases x <;> simp only [] at h <;> try (cases h; done)
  cases hx
  rename_i k z
  cases z <;> simp only [natK_eq, Option.some.injEq] at h <;> try (cases h; done)
  subst h
  exact ⟨k, rfl⟩
/-- An optional bound. -/
def abound (ev : Operand → Option Value) (x : Option Operand) (dflt : Nat) : Option Nat := match x with
  | none => some dflt
  | some x => match ev x with
    | some v => anat v
    | none => none
/-- A slice's part: low, high, and the greatest, of what has the bounds 'len' and 'cap'. -/
def abounds (ev : Operand → Option Value) (len cap : Nat) (lo hi mx : Option Operand) : Option (Nat × Nat × Nat) :=
  match abound ev mx cap with
  | none => none
  | some m => match abound ev hi len with
    | none => none
    | some h => match abound ev lo 0 with
      | none => none
      | some l => match Nat.ble l h && (Nat.ble h m && Nat.ble m cap) with
        | true => match mx, hi with
          | some _, none => none
          | _, _ => some (l, h, m)
        | false => none
def aslice (P : Program) (ev : Operand → Option Value) (t : TypeId) (x : Value) (lo hi mx : Option Operand) : Option Value :=
  match P.underlying t with
  | some (.slice elem) => match tsize P elem with
    | none => none
    | some s => match x with
      | .slice none 0 0 => match abounds ev 0 0 lo hi mx with
        | some (l, h, m) => match Nat.beq (l + h + m) 0 with
          | true => some (.slice none 0 0)
          | false => none
        | none => none
      | .slice (some ⟨b, o, some 0⟩) len cap => match abounds ev len cap lo hi mx with
        | none => none
        | some (l, h, m) => match Nat.beq m l with
          | true => some (.slice (some ⟨b, o, some 0⟩) (Nat.sub h l) (Nat.sub m l))
          | false => some (.slice (some ⟨b, Nat.add o (Nat.mul l s), some 0⟩) (Nat.sub h l) (Nat.sub m l))
      | .slice (some ⟨b, o, none⟩) len cap => match abounds ev len cap lo hi mx with
        | none => none
        | some (l, h, m) => match mx with
          | some _ => match Nat.beq m l with
            | true => some (.slice (some ⟨b, o, some 0⟩) (Nat.sub h l) (Nat.sub m l))
            | false => some (.slice (some ⟨b, Nat.add o (Nat.mul l s), some 0⟩) (Nat.sub h l) (Nat.sub m l))
          | none => match Nat.beq l 0 with
            | true => some (.slice (some ⟨b, o, none⟩) h cap)
            | false => match Nat.beq cap l with
              | true => some (.slice (some ⟨b, o, some 1⟩) 0 0)
              | false => some (.slice (some ⟨b, Nat.add o (Nat.mul l s), none⟩) (Nat.sub h l) (Nat.sub cap l))
      | _ => none
  | some (.array n elem) => match tsize P elem with
    | none => none
    | some s => match x with
      | .pointer (some ⟨b, o, none⟩) => match abounds ev n n lo hi none with
        | none => none
        | some (l, h, m) => match mx with
          | some _ => none
          | none => match Nat.beq m l with
            | true => some (.slice (some ⟨b, o, some 0⟩) (Nat.sub h l) (Nat.sub m l))
            | false => some (.slice (some ⟨b, Nat.add o (Nat.mul l s), some 0⟩) (Nat.sub h l) (Nat.sub m l))
      | _ => none
  | some .string => match x with
    | .string s => match mx with
      | some _ => none
      | none => match abounds ev s.size s.size lo hi none with
        | none => none
        | some (l, h, _) => some (.string (s.extract l h))
    | _ => none
  | _ => none

theorem abound_run {P : Program} {ι : Inj} {ev : Operand → Option Value} {ρ : Operand → Value} (hev : ∀ x v, ev x = some v → VR ι v (ρ x)) {x : Option Operand} {d n : Nat} (h : abound ev x d = some n) :
    (x = none ∧ n = d) ∨ ∃ y k, x = some y ∧ ρ y = .int k (n : Int) ∧ ∀ (y : Nat) code w, n ≤ y → (Instr.sliceBound (.int k (n : Int)) y code).run P w = .ok n w := by
  unfold abound at h
  split at h
  · cases h; exact .inl ⟨rfl, rfl⟩
  · rename_i y
    split at h
    · rename_i v hv
      obtain ⟨k, hk⟩ := anat_ok h (hev _ _ hv)
      refine .inr ⟨y, k, rfl, hk, fun z code w hz => ?_⟩
      simp [Instr.sliceBound, asIntOf, hz]
    · cases h

/-- The model's bounds: the abstract slice has 'cap', the machine's 'cap + ex' (ex = 0 where a greatest is given, or nothing is known to be more). -/
theorem abounds_run {P : Program} {ι : Inj} {ev : Operand → Option Value} {ρ : Operand → Value} (hev : ∀ x v, ev x = some v → VR ι v (ρ x)) {len cap l h m : Nat} {lo hi mx : Option Operand}
    (hb : abounds ev len cap lo hi mx = some (l, h, m)) (sl : Bool) (ex : Nat) (w : World) :
    (Instr.sliceBounds sl len (cap + ex) (lo.map ρ) (hi.map ρ) (mx.map ρ)).run P w = .ok (l, h, if mx.isSome then m else cap + ex) w ∧ l ≤ h ∧ h ≤ m ∧ m ≤ cap ∧ (mx = none → m = cap) := by
  unfold abounds at hb
  split at hb
  · cases hb
  · rename_i m' hm
    split at hb
    · cases hb
    · rename_i h' hh
      split at hb
      · cases hb
      · rename_i l' hl
        split at hb
        · rename_i hle
          simp only [Bool.and_eq_true, Nat.ble_eq] at hle
          obtain ⟨h1, h2, h3⟩ := hle
          have a1 : h' ≤ m' + ex := by omega
          have a2 : m' ≤ cap + ex := by omega
          have a4 : h' ≤ cap + ex := by omega
          rcases abound_run (P := P) hev hl with ⟨rfl, rfl⟩ | ⟨yl, kl, rfl, el, rl⟩ <;> rcases abound_run (P := P) hev hh with ⟨rfl, rfl⟩ | ⟨yh, kh, rfl, eh, rh⟩ <;> rcases abound_run (P := P) hev hm with ⟨rfl, rfl⟩ | ⟨ym, km, rfl, em, rm⟩ <;> simp only [Option.some.injEq, Prod.mk.injEq, reduceCtorEq] at hb
          all_goals obtain ⟨rfl, rfl, rfl⟩ := hb
          all_goals refine ⟨?_, h1, h2, h3, by simp⟩
          all_goals simp [Instr.sliceBounds, *]
        · cases hb
end Go.Vit
