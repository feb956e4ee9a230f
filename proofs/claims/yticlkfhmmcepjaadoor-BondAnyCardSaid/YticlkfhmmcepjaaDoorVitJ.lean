/- All operations but calls of functions, in one; what they look at. -/
import Derived.Test.YticlkfhmmcepjaaDoorVitI
set_option linter.unusedSimpArgs false
set_option linter.unusedVariables false
namespace Go.Vit
open Go

section
variable {P : Program} {G R U L : Nat} {B : World} {ι : Inj} {m : Mem} {w : World}

def acopy (P : Program) (L : Nat) (m : Mem) (t : TypeId) (d s : Value) : Option (Value × Mem) := match P.underlying t with
  | some (.slice e) => match tsize P e with
    | none => none
    | some sz => match asrc m sz s with
      | none => none
      | some (k, news) => match d with
        | .slice none 0 0 => some (.int .i64 (.ofNat 0), m)
        | .slice (some ⟨b, o, _⟩) dn _ => natK (nmin k dn) fun n => match n with
          | 0 => some (.int .i64 (.ofNat 0), m)
          | Nat.succ j => match awr L m b o (news.take (Nat.mul (Nat.succ j) sz)) with
            | some m' => some (.int .i64 (.ofNat (Nat.succ j)), m')
            | none => none
        | _ => none
  | _ => none
theorem acopy_ok (h : Rel G R B U ι m w) (hR : R ≤ L) {t ty : TypeId} {ts : Array TypeId} {d s v d' s' : Value} {m' : Mem} (ha : acopy P L m t d s = some (v, m')) (hd : VR ι d d') (hs' : VR ι s s') (ht : ts[0]? = some t) :
    ∃ u w', (Builtin.copy_ ts ty #[d', s']).run P w = .ok u w' ∧ VR ι v u ∧ Rel G R B U ι m' w' ∧ Step L ι m w ι m' w' := by
  unfold acopy at ha
  split at ha
  · rename_i e hu
    split at ha
    · cases ha
    · rename_i sz hsz
      split at ha
      · cases ha
      · rename_i k news hsrc
        obtain ⟨us, hvl, hul, hfc, hlen, ⟨xa, xn, xc, hxe⟩, hk⟩ := asrc_ok (P := P) h hsrc hs'
        split at ha
        · cases hd
          cases ha
          refine ⟨goInt 0, w, ?_, .int _ _, h, Step.refl' _ _ _ _⟩
          have h0 : (Builtin.firstCells sz 0 s').run P w = .ok #[] w := by
            subst hxe
            cases xa <;> simp [Builtin.firstCells, loadCells, loadCellsFrom]
          simp [Builtin.copy_, ht, run_underlying hu, run_tsize w hsz, hlen, h0]
        · rename_i b o sp dn c
          simp only [natK_eq, nmin_eq] at ha
          obtain ⟨e', q, dd, he, rfl, hq⟩ := hd.slice_some
          split at ha
          · rename_i h0n
            cases ha
            refine ⟨goInt 0, w, ?_, .int _ _, h, Step.refl' _ _ _ _⟩
            have h0 : (Builtin.firstCells sz 0 s').run P w = .ok #[] w := by
              subst hxe
              cases xa <;> simp [Builtin.firstCells, loadCells, loadCellsFrom]
            have hmin : Nat.min k dn = 0 := h0n
            simp [Builtin.copy_, ht, run_underlying hu, run_tsize w hsz, hlen, h0, hmin, storeCells]
          · rename_i j hj
            split at ha
            · rename_i m1 hm1
              cases ha
              have hmin : Nat.min k dn = j + 1 := hj
              have hmin' : min k dn = j + 1 := hj
              obtain ⟨a, xc', rfl, hcell⟩ := hk (by omega)
              obtain rfl := hq (by omega)
              have hle : (j + 1) * sz ≤ k * sz := Nat.mul_le_mul_right _ (by omega)
              have hus : (us.take ((j + 1) * sz)).length = (j + 1) * sz := by rw [List.length_take]; omega
              have hf : (Builtin.firstCells sz (j + 1) (.slice (some a) k xc')).run P w = .ok (us.take ((j + 1) * sz)).toArray w :=
                run_firstCells_some w sz (j + 1) a k xc' _ hus (fun i u hi => by
                  rw [List.getElem?_take] at hi
                  split at hi
                  · exact hcell i u hi
                  · cases hi)
              obtain ⟨w', hr, g1, g2⟩ := awr_ok (P := P) h hR hm1 he (hvl.take ((j + 1) * sz))
              refine ⟨goInt ((j + 1 : Nat) : Int), w', ?_, .int _ _, g1, g2⟩
              simp [Builtin.copy_, ht, run_underlying hu, run_tsize w hsz, hlen, hmin, hf, hr]
            · cases ha
        · cases ha
  · cases ha

def aclear (P : Program) (L : Nat) (m : Mem) (t : TypeId) (x : Value) : Option (Value × Mem) := match P.underlying t with
  | some (.slice e) => match x with
    | .slice none 0 0 => some (Go.undef, m)
    | .slice (some ⟨b, o, _⟩) n _ => match n with
      | 0 => some (Go.undef, m)
      | Nat.succ j => match azero P e with
        | some zs => match awr L m b o (azrow zs (Nat.succ j)) with
          | some m' => some (Go.undef, m')
          | none => none
        | none => none
    | _ => none
  | _ => none
theorem aclear_ok (h : Rel G R B U ι m w) (hR : R ≤ L) {t ty : TypeId} {ts : Array TypeId} {x v x' : Value} {m' : Mem} (ha : aclear P L m t x = some (v, m')) (hx : VR ι x x') (ht : ts[0]? = some t) :
    ∃ u w', (Builtin.clear_ ts ty #[x']).run P w = .ok u w' ∧ VR ι v u ∧ Rel G R B U ι m' w' ∧ Step L ι m w ι m' w' := by
  unfold aclear at ha
  split at ha
  · rename_i e hu
    split at ha
    · cases hx
      cases ha
      exact ⟨Go.undef, w, by simp [Builtin.clear_, ht, run_underlying hu, Go.undef], VR.undef ι, h, Step.refl' _ _ _ _⟩
    · rename_i b o sp n c
      obtain ⟨e', q, dd, he, rfl, hq⟩ := hx.slice_some
      split at ha
      · cases ha
        exact ⟨Go.undef, w, by simp [Builtin.clear_, ht, run_underlying hu, Go.undef], VR.undef ι, h, Step.refl' _ _ _ _⟩
      · rename_i j
        split at ha
        · rename_i zs hzs
          obtain ⟨z, hz1, hz2, hz3⟩ := azero_ok (ι := ι) hzs w
          split at ha
          · rename_i m1 hm1
            cases ha
            obtain rfl := hq (by omega)
            have hvl := azrow_VL hz3 (j + 1)
            obtain ⟨w', hr, g1, g2⟩ := awr_ok (P := P) h hR hm1 he hvl
            refine ⟨Go.undef, w', ?_, VR.undef ι, g1, g2⟩
            have hr2 : (storeCells ⟨e'.cb, e'.base + o, none⟩ (Builtin.zeroCells z.cells (j + 1)).toList).run P w = .ok () w' := hr
            simp [Builtin.clear_, ht, run_underlying hu, hz1, hr2, Go.undef]
          · cases ha
        · cases ha
    · cases ha
  · cases ha

/-- All operations but a call of a function. -/
def aop (P : Program) (L : Nat) (ev : Operand → Option Value) (m : Mem) (op : Op) : Option (Value × Mem) := match op with
  | .alloc t => aalloc P m t
  | .box _ x => match ev x with
    | some v => abox m v
    | none => none
  | .buildSlice t len parts => abuildSlice P ev m t len parts.toList
  | .makeSlice t l c => match ev l with
    | some vl => match ev c with
      | some vc => amakeSlice P m t vl vc
      | none => none
    | none => none
  | .load t x => match ev x with
    | some vx => match aload P m t vx with
      | some v => some (v, m)
      | none => none
    | none => none
  | .store t x y => match ev x with
    | some vx => match ev y with
      | some vy => astore P L m t vx vy
      | none => none
    | none => none
  | .call c => match c.callee with
    | .builtin .append => match evL ev c.args.toList with
      | some [s, x] => match c.argTypes.toList with
        | [t, t'] => match Nat.beq t t' with
          | true => aappend P L m t s x
          | false => none
        | _ => none
      | _ => none
    | .builtin .copy => match evL ev c.args.toList with
      | some [d, s] => match lget c.argTypes.toList 0 with
        | some t => acopy P L m t d s
        | none => none
      | _ => none
    | .builtin .clear => match evL ev c.args.toList with
      | some [x] => match lget c.argTypes.toList 0 with
        | some t => aclear P L m t x
        | none => none
      | _ => none
    | _ => match apure P ev (.call c) with
      | some v => some (v, m)
      | none => none
  | op => match apure P ev op with
    | some v => some (v, m)
    | none => none

theorem opOk_of_pure (h : Rel G R B U ι m w) {ev : Operand → Option Value} {ρ : Operand → Value} (hev : ∀ x v, ev x = some v → VR ι v (ρ x)) {o : Oper} {v : Value} {m' : Mem}
    (ha : (match apure P ev o.op with | some v => some (v, m) | none => none) = some (v, m')) : OpOk P G R B U L ι m w ρ o v m' := by
  split at ha
  · rename_i v1 hv1
    cases ha
    obtain ⟨u, h1, h2⟩ := apure_ok (P := P) hev hv1 w
    exact ⟨_, u, ι, w, h1, .inl rfl, h2, h, Step.refl' _ _ _ _⟩
  · cases ha

theorem aop_ok (h : Rel G R B U ι m w) (hR : R ≤ L) (hL : L ≤ m.next) {ev : Operand → Option Value} {ρ : Operand → Value} (hev : ∀ x v, ev x = some v → VR ι v (ρ x)) {o : Oper} {v : Value} {m' : Mem}
    (ha : aop P L ev m o.op = some (v, m')) (hU : m'.next ≤ U) : OpOk P G R B U L ι m w ρ o v m' := by
  obtain ⟨dst, op, type, pos, after, guard⟩ := o
  simp only [] at ha
  cases op
  case alloc t => exact aalloc_ok h hL ha hU rfl ρ
  case box t x =>
    simp only [aop] at ha
    split at ha
    · rename_i vx hx; exact abox_ok h hL ha hU (t := t) (x := x) rfl (hev _ _ hx)
    · cases ha
  case buildSlice t len parts => exact abuildSlice_ok h hL hev ha hU rfl
  case makeSlice t l c =>
    simp only [aop] at ha
    split at ha
    · rename_i vl hl
      split at ha
      · rename_i vc hc; exact amakeSlice_ok h hL ha hU (hev _ _ hl) (hev _ _ hc) rfl
      · cases ha
    · cases ha
  case load t x =>
    simp only [aop] at ha
    split at ha
    · rename_i vx hx
      split at ha
      · rename_i v1 hv1
        cases ha
        obtain ⟨u, h1, h2⟩ := aload_ok (P := P) h hv1 (hev _ _ hx)
        exact ⟨_, u, ι, w, by simp [execOp, h1], .inl rfl, h2, h, Step.refl' _ _ _ _⟩
      · cases ha
    · cases ha
  case store t x y =>
    simp only [aop] at ha
    split at ha
    · rename_i vx hx
      split at ha
      · rename_i vy hy; exact astore_ok h hR ha (hev _ _ hx) (hev _ _ hy) rfl
      · cases ha
    · cases ha
  case call c =>
    simp only [aop] at ha
    split at ha
    · rename_i hc
      split at ha
      · rename_i s x hvs
        have hl := evL_ok hev _ _ hvs
        split at ha
        · rename_i t t' hts
          split at ha
          · rename_i htt
            obtain rfl := Nat.eq_of_beq_eq_true htt
            obtain ⟨s', l1, e1, hs, hl1⟩ := hl.inv_cons
            obtain ⟨x', l2, e2, hx, hl2⟩ := hl1.inv_cons
            obtain rfl := hl2.inv_nil
            subst e2
            obtain ⟨ks, he⟩ := exec_builtin (P := P) (ρ := ρ) (o := { dst, op := .call c, type, pos, after, guard }) rfl hc w
            have hargs : c.args.map ρ = #[s', x'] := by apply Array.ext'; simpa using e1
            have hats : c.argTypes = #[t, t] := by apply Array.ext'; simpa using hts
            obtain ⟨u, κ, w', h1, h2, h3, h4⟩ := aappend_ok (P := P) (ty := type) h hR hL ha hU hs hx
            refine ⟨_, u, κ, w', ?_, .inl rfl, h2, h3, h4⟩
            rw [he, hargs, hats]
            simp [builtin, h1]
          · cases ha
        · cases ha
      · cases ha
    · rename_i hc
      split at ha
      · rename_i d s hvs
        have hl := evL_ok hev _ _ hvs
        split at ha
        · rename_i t ht
          rw [lget_eq] at ht
          obtain ⟨d', l1, e1, hd, hl1⟩ := hl.inv_cons
          obtain ⟨s', l2, e2, hs, hl2⟩ := hl1.inv_cons
          obtain rfl := hl2.inv_nil
          subst e2
          obtain ⟨ks, he⟩ := exec_builtin (P := P) (ρ := ρ) (o := { dst, op := .call c, type, pos, after, guard }) rfl hc w
          have hargs : c.args.map ρ = #[d', s'] := by apply Array.ext'; simpa using e1
          obtain ⟨u, w', h1, h2, h3, h4⟩ := acopy_ok (P := P) (ty := type) (ts := c.argTypes) h hR ha hd hs (by simpa using ht)
          refine ⟨_, u, ι, w', ?_, .inl rfl, h2, h3, h4⟩
          rw [he, hargs]
          simp [builtin, h1]
        · cases ha
      · cases ha
    · rename_i hc
      split at ha
      · rename_i x hvs
        have hl := evL_ok hev _ _ hvs
        split at ha
        · rename_i t ht
          rw [lget_eq] at ht
          obtain ⟨x', l1, e1, hx, hl1⟩ := hl.inv_cons
          obtain rfl := hl1.inv_nil
          obtain ⟨ks, he⟩ := exec_builtin (P := P) (ρ := ρ) (o := { dst, op := .call c, type, pos, after, guard }) rfl hc w
          have hargs : c.args.map ρ = #[x'] := by apply Array.ext'; simpa using e1
          obtain ⟨u, w', h1, h2, h3, h4⟩ := aclear_ok (P := P) (ty := type) (ts := c.argTypes) h hR ha hx (by simpa using ht)
          refine ⟨_, u, ι, w', ?_, .inl rfl, h2, h3, h4⟩
          rw [he, hargs]
          simp [builtin, h1]
        · cases ha
      · cases ha
    · exact opOk_of_pure (o := { dst, op := .call c, type, pos, after, guard }) h hev ha
  all_goals exact opOk_of_pure (o := { dst, op := _, type, pos, after, guard }) h hev ha
end

/-! ### Abstract memory grows; what is below the bound stays -/
structure Ext (L : Nat) (m m' : Mem) : Prop where
  next : m.next ≤ m'.next
  ok : m'.ok
  kept : ∀ b, b < L → b < m.next → m'.rd b = m.rd b
theorem Ext.refl {L : Nat} {m : Mem} (h : m.ok) : Ext L m m := ⟨Nat.le_refl _, h, fun _ _ _ => rfl⟩
theorem Ext.trans {L : Nat} {m m' m'' : Mem} (h : Ext L m m') (h' : Ext L m' m'') : Ext L m m'' :=
  ⟨Nat.le_trans h.next h'.next, h'.ok, fun b h1 h2 => (h'.kept b h1 (Nat.lt_of_lt_of_le h2 h.next)).trans (h.kept b h1 h2)⟩
theorem Ext.mono {L L' : Nat} {m m' : Mem} (h : Ext L' m m') (hL : L ≤ L') : Ext L m m' := ⟨h.next, h.ok, fun b h1 h2 => h.kept b (Nat.lt_of_lt_of_le h1 hL) h2⟩
theorem anew_ext {L : Nat} {m m' : Mem} {esz : Nat} {cs : List Value} {f : Nat → Value} {v : Value} (h : anew m esz cs f = some (v, m')) : Ext L m m' := by
  unfold anew at h
  split at h
  · rename_i m1 hm
    simp only [natK_eq, Option.some.injEq, Prod.mk.injEq] at h
    obtain ⟨_, rfl⟩ := h
    exact ⟨by have := (Mem.new_next hm).1; omega, Mem.new_ok hm, fun b _ hb => Mem.rd_new_lt hm hb⟩
  · cases h
theorem awr_ext {L : Nat} {m m' : Mem} {b o : Nat} {vs : List Value} (hm : m.ok) (h : awr L m b o vs = some m') : Ext L m m' := by
  unfold awr at h
  split at h
  · rename_i hL
    have hL' := Nat.le_of_ble_eq_true hL
    split at h
    · rename_i k hk
      split at h
      · split at h
        · cases h
          exact ⟨Nat.le_refl _, Mem.put_ok hm _ _, fun c hc _ => Mem.rd_put_ne hm _ (Mem.rd_lt hk) (by omega)⟩
        · cases h
      · cases h
    · cases h
  · cases h
theorem aop_ext {P : Program} {L : Nat} {ev : Operand → Option Value} {m m' : Mem} {op : Op} {v : Value} (hm : m.ok) (h : aop P L ev m op = some (v, m')) : Ext L m m' := by
  have pureN : ∀ op, (match apure P ev op with | some v => some (v, m) | none => none) = some (v, m') → Ext L m m' := fun op h => by
    split at h <;> cases h; exact Ext.refl hm
  cases op
  case alloc t =>
    simp only [aop, aalloc] at h
    split at h
    · exact anew_ext h
    · cases h
  case box t x =>
    simp only [aop, abox] at h
    split at h
    · exact anew_ext h
    · cases h
  case buildSlice t len parts =>
    simp only [aop, abuildSlice] at h
    (repeat' split at h) <;> first | exact anew_ext h | cases h
  case makeSlice t l c =>
    simp only [aop, amakeSlice] at h
    (repeat' split at h) <;> first | exact anew_ext h | cases h
  case load t x =>
    simp only [aop] at h
    (repeat' split at h) <;> cases h; exact Ext.refl hm
  case store t x y =>
    simp only [aop, astore] at h
    (repeat' split at h) <;> first | (rename_i hw; cases h; exact awr_ext hm hw) | cases h
  case call c =>
    simp only [aop] at h
    split at h
    · split at h
      · split at h
        · split at h
          · simp only [aappend, natK_eq] at h
            (repeat' split at h) <;> first
              | exact anew_ext h
              | (cases h; exact Ext.refl hm)
              | (rename_i hw; cases h; exact awr_ext hm hw)
              | (cases h; done)
              | skip
            have key : ∀ b, Nat.ble L b = true → (∃ blk, m.rd b = some blk) → Ext L m (m.put b none) := fun b hLb ⟨blk, hblk⟩ =>
              ⟨Nat.le_refl _, Mem.put_ok hm _ _, fun c hc _ => Mem.rd_put_ne hm _ (Mem.rd_lt hblk) (by have := Nat.le_of_ble_eq_true hLb; omega)⟩
            refine Ext.trans (key _ ?_ ?_) (anew_ext h) <;> first | assumption | exact ⟨_, by assumption⟩
          · cases h
        · cases h
      · cases h
    · split at h
      · split at h
        · simp only [acopy, natK_eq] at h
          (repeat' split at h) <;> first
            | (rename_i hw; cases h; exact awr_ext hm hw)
            | (cases h; exact Ext.refl hm)
            | cases h
        · cases h
      · cases h
    · split at h
      · split at h
        · simp only [aclear] at h
          (repeat' split at h) <;> first
            | (rename_i hw; cases h; exact awr_ext hm hw)
            | (cases h; exact Ext.refl hm)
            | cases h
        · cases h
      · cases h
    · exact pureN _ h
  all_goals first
    | (simp only [aop, apure] at h; cases h; done)
    | (simp only [aop] at h; exact pureN _ h)

/-! ### An operation looks at its operands alone -/
theorem evL_congr {ev ev' : Operand → Option Value} : ∀ (xs : List Operand), (∀ x ∈ xs, ev x = ev' x) → evL ev xs = evL ev' xs
  | [], _ => rfl
  | x :: xs, h => by simp only [evL]; rw [h x (by simp), evL_congr xs fun y hy => h y (by simp [hy])]
theorem evP_congr {ev ev' : Operand → Option Value} : ∀ (xs : List (Nat × Operand)), (∀ p ∈ xs, ev p.2 = ev' p.2) → evP ev xs = evP ev' xs
  | [], _ => rfl
  | (i, x) :: xs, h => by simp only [evP]; rw [h (i, x) (by simp), evP_congr xs fun y hy => h y (by simp [hy])]
theorem abound_congr {ev ev' : Operand → Option Value} {x : Option Operand} {d : Nat} (h : ∀ y, x = some y → ev y = ev' y) : abound ev x d = abound ev' x d := by
  cases x with
  | none => rfl
  | some y => simp only [abound]; rw [h y rfl]
theorem abounds_congr {ev ev' : Operand → Option Value} {a b : Nat} {lo hi mx : Option Operand} (h : ∀ y, lo = some y ∨ hi = some y ∨ mx = some y → ev y = ev' y) : abounds ev a b lo hi mx = abounds ev' a b lo hi mx := by
  unfold abounds
  rw [abound_congr (ev := ev) (ev' := ev') fun y hy => h y (.inr (.inr hy)), abound_congr (ev := ev) (ev' := ev') fun y hy => h y (.inr (.inl hy)), abound_congr (ev := ev) (ev' := ev') fun y hy => h y (.inl hy)]
theorem aslice_congr {P : Program} {ev ev' : Operand → Option Value} {t : TypeId} {x : Value} {lo hi mx : Option Operand} (h : ∀ y, lo = some y ∨ hi = some y ∨ mx = some y → ev y = ev' y) : aslice P ev t x lo hi mx = aslice P ev' t x lo hi mx := by
  have h1 : ∀ a b, abounds ev a b lo hi mx = abounds ev' a b lo hi mx := fun a b => abounds_congr h
  have h2 : ∀ a b, abounds ev a b lo hi none = abounds ev' a b lo hi none := fun a b => abounds_congr fun y hy => h y (by rcases hy with h | h | h; exact .inl h; exact .inr (.inl h); cases h)
  unfold aslice
  simp only [h1, h2]

theorem apure_congr {P : Program} {ev ev' : Operand → Option Value} {op : Op} (h : ∀ x ∈ op.operands, ev x = ev' x) : apure P ev op = apure P ev' op := by
  cases op <;> simp only [apure] <;> simp only [Op.operands] at h <;> try rfl
  case move x => exact h x (by simp)
  case assign x => exact h x (by simp)
  case pick c a b => rw [h c (by simp), h a (by simp), h b (by simp)]
  case binOp op t x y ty => rw [h x (by simp), h y (by simp)]
  case unOp op t x => rw [h x (by simp)]
  case convert src dst x => rw [h x (by simp)]
  case extract x i => rw [h x (by simp)]
  case nilCheck x => rw [h x (by simp)]
  case fieldAddr s x f => rw [h x (by simp)]
  case field s x f => rw [h x (by simp)]
  case indexAddr t x i => rw [h x (by simp), h i (by simp)]
  case index t x i => rw [h x (by simp), h i (by simp)]
  case slice t x lo hi mx =>
    rw [h x (by simp)]
    split
    · exact aslice_congr fun y hy => h y (by rcases hy with rfl | rfl | rfl <;> simp)
    · rfl
  case makeFunc fn first cs =>
    rw [evL_congr cs.toList fun x hx => h x (by simp [Array.mem_toList_iff.1 hx])]
  case makeInterface t x => rw [h x (by simp)]
  case build t parts =>
    unfold abuild
    rw [evP_congr parts.toList fun p hp => h p.2 (by simpa using ⟨p.1, Array.mem_toList_iff.1 hp⟩)]
  case typeAssert x t1 t2 ok => rw [h x (by simp)]
  case call c =>
    have : evL ev c.args.toList = evL ev' c.args.toList := evL_congr _ fun x hx => h x (by simp [Call.operands, Array.mem_toList_iff.1 hx])
    rw [this]

theorem aop_congr {P : Program} {L : Nat} {m : Mem} {ev ev' : Operand → Option Value} {op : Op} (h : ∀ x ∈ op.operands, ev x = ev' x) : aop P L ev m op = aop P L ev' m op := by
  have hp := apure_congr (P := P) h
  cases op <;> simp only [aop] <;> (try (rw [hp])) <;> simp only [Op.operands] at h
  case box t x => rw [h x (by simp)]
  case buildSlice t len parts =>
    unfold abuildSlice
    rw [evP_congr parts.toList fun p hp => h p.2 (by simpa using ⟨p.1, Array.mem_toList_iff.1 hp⟩)]
  case makeSlice t l c => rw [h l (by simp), h c (by simp)]
  case load t x => rw [h x (by simp)]
  case store t x y => rw [h x (by simp), h y (by simp)]
  case call c =>
    have : evL ev c.args.toList = evL ev' c.args.toList := evL_congr _ fun x hx => h x (by simp [Call.operands, Array.mem_toList_iff.1 hx])
    rw [this]
end Go.Vit
