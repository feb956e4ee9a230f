/- Slices' parts, literals, and all operations that touch no memory in one. -/
import Derived.Test.YticlkfhmmcepjaaDoorVitE
set_option linter.unusedSimpArgs false
set_option linter.unusedVariables false
namespace Go.Vit
open Go

theorem aslice_ok {P : Program} {ι : Inj} {ev : Operand → Option Value} {ρ : Operand → Value} (hev : ∀ x v, ev x = some v → VR ι v (ρ x)) {t : TypeId} {x v x' : Value} {lo hi mx : Option Operand}
    (h : aslice P ev t x lo hi mx = some v) (hx : VR ι x x') (w : World) : ∃ u, (Instr.sliceAt t x' (lo.map ρ) (hi.map ρ) (mx.map ρ)).run P w = .ok u w ∧ VR ι v u := by
  unfold aslice at h
  split at h
  · rename_i elem hu
    split at h
    · cases h
    · rename_i s hs
      split at h
      · -- the nil slice
        cases hx
        split at h
        · rename_i l hh m hb
          split at h
          · rename_i hz
            cases h
            have hz' : l + hh + m = 0 := by simpa using hz
            obtain ⟨hr, _⟩ := abounds_run (P := P) hev hb true 0 w
            obtain rfl : l = 0 := by omega
            obtain rfl : hh = 0 := by omega
            obtain rfl : m = 0 := by omega
            simp only [Nat.add_zero, ite_self] at hr
            exact ⟨.slice none 0 0, by simp [Instr.sliceAt, Instr.slice, run_underlying hu, hr, run_tsize w hs], .nilSlice⟩
          · cases h
        · cases h
      · -- a known capacity
        rename_i b o len cap
        split at h
        · cases h
        · rename_i l hh m hb
          cases hx with
          | slExact _ _ _ _ e he =>
            obtain ⟨hr, h1, h2, h3, h4⟩ := abounds_run (P := P) hev hb true 0 w
            have hm : (if mx.isSome then m else cap) = m := by
              cases mx with
              | none => simp [h4 rfl]
              | some _ => rfl
            simp only [Nat.add_zero, hm] at hr
            split at h
            · rename_i hml
              have hml' : m = l := by simpa using hml
              cases h
              refine ⟨.slice (some ⟨e.cb, e.base + o, none⟩) (hh - l) (m - l), ?_, .slExact _ _ _ _ _ he⟩
              simp [Instr.sliceAt, Instr.slice, run_underlying hu, hr, run_tsize w hs, hml']
            · rename_i hml
              have hml' : ¬ m = l := Nat.ne_of_beq_eq_false hml
              cases h
              refine ⟨.slice (some ⟨e.cb, e.base + (o + l * s), none⟩) (hh - l) (m - l), ?_, .slExact _ _ _ _ _ he⟩
              simp [Instr.sliceAt, Instr.slice, run_underlying hu, hr, run_tsize w hs, hml', addrAdd, Nat.add_assoc]
      · -- an open one
        rename_i b o len cap
        split at h
        · cases h
        · rename_i l hh m hb
          cases hx with
          | slOpen _ _ _ _ e he =>
            obtain ⟨hr, h1, h2, h3, h4⟩ := abounds_run (P := P) hev hb true e.extra w
            split at h
            · rename_i y
              simp only [Option.isSome_some, if_true] at hr
              split at h
              · rename_i hml
                have hml' : m = l := by simpa using hml
                cases h
                refine ⟨.slice (some ⟨e.cb, e.base + o, none⟩) (hh - l) (m - l), ?_, .slExact _ _ _ _ _ he⟩
                simp only [Option.map_some] at hr ⊢
                simp [Instr.sliceAt, Instr.slice, run_underlying hu, hr, run_tsize w hs, hml']
              · rename_i hml
                have hml' : ¬ m = l := Nat.ne_of_beq_eq_false hml
                cases h
                refine ⟨.slice (some ⟨e.cb, e.base + (o + l * s), none⟩) (hh - l) (m - l), ?_, .slExact _ _ _ _ _ he⟩
                simp only [Option.map_some] at hr ⊢
                simp [Instr.sliceAt, Instr.slice, run_underlying hu, hr, run_tsize w hs, hml', addrAdd, Nat.add_assoc]
            · have hm := h4 rfl
              subst hm
              simp only [Option.isSome_none, Bool.false_eq_true, if_false] at hr
              split at h
              · rename_i hl0
                have hl0' : l = 0 := by simpa using hl0
                subst hl0'
                cases h
                refine ⟨.slice (some ⟨e.cb, e.base + o, none⟩) hh (m + e.extra), ?_, .slOpen _ _ _ _ _ he⟩
                simp only [Option.map_none] at hr ⊢
                simp [Instr.sliceAt, Instr.slice, run_underlying hu, hr, run_tsize w hs, addrAdd]
              · rename_i hl0
                have hl0' : ¬ l = 0 := Nat.ne_of_beq_eq_false hl0
                split at h
                · rename_i hcl
                  have hcl' : m = l := by simpa using hcl
                  subst hcl'
                  obtain rfl : hh = m := by omega
                  cases h
                  simp only [Option.map_none] at hr ⊢
                  by_cases hex : e.extra = 0
                  · refine ⟨.slice (some ⟨e.cb, e.base + o, none⟩) 0 0, ?_, .slEnd _ _ _ _ _ he⟩
                    rw [hex, Nat.add_zero] at hr
                    simp [Instr.sliceAt, Instr.slice, run_underlying hu, hr, run_tsize w hs, hex]
                  · refine ⟨.slice (some ⟨e.cb, e.base + o + hh * s, none⟩) 0 e.extra, ?_, .slEnd _ _ _ _ _ he⟩
                    simp [Instr.sliceAt, Instr.slice, run_underlying hu, hr, run_tsize w hs, hex, addrAdd]
                · rename_i hcl
                  have hcl' : ¬ m = l := Nat.ne_of_beq_eq_false hcl
                  cases h
                  have hne : ¬ m + e.extra = l := by omega
                  have hsub : m + e.extra - l = m - l + e.extra := by omega
                  refine ⟨.slice (some ⟨e.cb, e.base + (o + l * s), none⟩) (hh - l) (m - l + e.extra), ?_, .slOpen _ _ _ _ _ he⟩
                  simp only [Option.map_none] at hr ⊢
                  simp [Instr.sliceAt, Instr.slice, run_underlying hu, hr, run_tsize w hs, hne, addrAdd, Nat.add_assoc, hsub]
      · cases h
  · rename_i n elem hu
    split at h
    · cases h
    · rename_i s hs
      split at h
      · rename_i b o
        split at h
        · cases h
        · rename_i l hh m hb
          split at h
          · cases h
          · cases hx with
            | ptr _ _ e he =>
              obtain ⟨hr, h1, h2, h3, h4⟩ := abounds_run (P := P) hev hb false 0 w
              have hm := h4 rfl
              subst hm
              simp only [Nat.add_zero, ite_self, Option.map_none] at hr
              split at h
              · rename_i hml
                have hml' : m = l := by simpa using hml
                subst hml'
                cases h
                refine ⟨.slice (some ⟨e.cb, e.base + o, none⟩) (hh - m) (m - m), ?_, .slExact _ _ _ _ _ he⟩
                simp [Instr.sliceAt, run_underlying hu, hr, run_tsize w hs, Instr.sureAddr]
              · rename_i hml
                have hml' : ¬ m = l := Nat.ne_of_beq_eq_false hml
                cases h
                refine ⟨.slice (some ⟨e.cb, e.base + (o + l * s), none⟩) (hh - l) (m - l), ?_, .slExact _ _ _ _ _ he⟩
                simp [Instr.sliceAt, run_underlying hu, hr, run_tsize w hs, hml', addrAdd, Nat.add_assoc, Instr.sureAddr]
      · cases h
  · rename_i hu
    split at h
    · rename_i s
      cases hx
      split at h
      · cases h
      · split at h
        · cases h
        · rename_i l hh m hb
          cases h
          obtain ⟨hr, h1, h2, h3, h4⟩ := abounds_run (P := P) hev hb false 0 w
          simp only [Nat.add_zero, Option.map_none] at hr
          exact ⟨.string (s.extract l hh), by simp [Instr.sliceAt, Instr.slice, run_underlying hu, hr], .string _⟩
    · cases h
  · cases h

/-! ### Literals -/
/-- Values are laid into cells. -/
def lay (place : Nat → Option (Nat × Nat)) (cells : List Value) : List (Nat × Value) → Option (List Value)
  | [] => some cells
  | (i, v) :: rest => match place i with
    | none => none
    | some (off, size) => match Nat.beq v.cells.toList.length size && Nat.ble (off + v.cells.toList.length) cells.length with
      | true => lay place (cells.take off ++ v.cells.toList ++ cells.drop (off + v.cells.toList.length)) rest
      | false => none
theorem foldSet (off : Nat) : ∀ (xs : List Value) (k : Nat) (cells : Array Value), off + k + xs.length ≤ cells.size →
    ((xs.zipIdx k).foldl (fun cs (p : Value × Nat) => cs.setIfInBounds (off + p.2) p.1) cells).toList = cells.toList.take (off + k) ++ xs ++ cells.toList.drop (off + k + xs.length)
  | [], k, cells, _ => by simp
  | x :: xs, k, cells, h => by
    simp only [List.zipIdx_cons, List.foldl_cons]
    simp only [List.length_cons] at h
    rw [foldSet off xs (k + 1) (cells.setIfInBounds (off + k) x) (by simp; omega)]
    rw [Array.toList_setIfInBounds]
    have := list_seg_step cells.toList (off + k) x xs (by simp; omega)
    exact this
theorem lay_ok {ι : Inj} {place : Nat → Option (Nat × Nat)} : ∀ (parts : List (Nat × Value)) (parts' : List (Nat × Value)) (cells : List Value) (cells' : Array Value) (r : List Value),
    lay place cells parts = some r → VL ι cells cells'.toList → parts.length = parts'.length → (∀ (i : Nat) p q, parts[i]? = some p → parts'[i]? = some q → p.1 = q.1 ∧ VR ι p.2 q.2) →
    ∃ r', Instr.fill place cells' parts' = some r' ∧ VL ι r r'.toList
  | [], parts', cells, cells', r, h, hc, hl, hp => by
    cases parts' with
    | nil => cases h; exact ⟨cells', rfl, hc⟩
    | cons _ _ => cases hl
  | (i, v) :: rest, parts', cells, cells', r, h, hc, hl, hp => by
    cases parts' with
    | nil => cases hl
    | cons q rest' =>
      obtain ⟨j, u⟩ := q
      have h0 := hp 0 (i, v) (j, u) rfl rfl
      obtain ⟨h01, h02⟩ := h0
      simp only [] at h01
      subst h01
      simp only [lay] at h
      split at h
      · cases h
      · rename_i off size hpl
        split at h
        · rename_i hcond
          simp only [Bool.and_eq_true, Nat.beq_eq, Nat.ble_eq] at hcond
          have hv := VR.cells h02
          have e1 : u.cells.size = size := by rw [← hcond.1, hv.1]; simp
          have e2 : ¬ cells'.size < off + u.cells.size := by
            have : cells.length = cells'.size := by simpa using hc.1
            have : v.cells.toList.length = u.cells.size := by simpa using hv.1
            omega
          have hfold : (u.cells.zipIdx.foldl (fun cs (p : Value × Nat) => cs.setIfInBounds (off + p.2) p.1) cells').toList = cells'.toList.take off ++ u.cells.toList ++ cells'.toList.drop (off + u.cells.toList.length) := by
            have := foldSet off u.cells.toList 0 cells' (by simp; omega)
            rw [← Array.foldl_toList, Array.toList_zipIdx]
            simpa using this
          obtain ⟨r', hr', hvr⟩ := lay_ok rest rest' _ (u.cells.zipIdx.foldl (fun cs (p : Value × Nat) => cs.setIfInBounds (off + p.2) p.1) cells') r h
            (by
              rw [hfold]
              have := ((hc.take off).append hv).append (hc.drop (off + v.cells.toList.length))
              rwa [hv.1] at this ⊢)
            (by simpa using hl) (fun k p q hk hq => hp (k + 1) p q (by simpa using hk) (by simpa using hq))
          refine ⟨r', ?_, hvr⟩
          simp only [Instr.fill, hpl]
          have e3 : (u.cells.size ≠ size || decide (off + u.cells.size > cells'.size)) = false := by
            simp only [Bool.or_eq_false_iff, decide_eq_false_iff_not]
            exact ⟨by simp [e1], by omega⟩
          simp only [e3]
          exact hr'
        · cases h

def evP (ev : Operand → Option Value) : List (Nat × Operand) → Option (List (Nat × Value))
  | [] => some []
  | (i, x) :: xs => match ev x with
    | some v => match evP ev xs with
      | some vs => some ((i, v) :: vs)
      | none => none
    | none => none
theorem evP_ok {ι : Inj} {ev : Operand → Option Value} {ρ : Operand → Value} (h : ∀ x v, ev x = some v → VR ι v (ρ x)) : ∀ (xs : List (Nat × Operand)) (vs : List (Nat × Value)), evP ev xs = some vs →
    vs.length = (xs.map fun p => (p.1, ρ p.2)).length ∧ ∀ (i : Nat) p q, vs[i]? = some p → (xs.map fun p => (p.1, ρ p.2))[i]? = some q → p.1 = q.1 ∧ VR ι p.2 q.2
  | [], vs, e => by cases e; exact ⟨rfl, by simp⟩
  | (i, x) :: xs, vs, e => by
    simp only [evP] at e
    split at e
    · rename_i v hv
      split at e
      · rename_i vs' hvs
        cases e
        obtain ⟨h1, h2⟩ := evP_ok h xs vs' hvs
        refine ⟨by simpa using h1, fun k p q hp hq => ?_⟩
        cases k with
        | zero => simp at hp hq; subst hp; subst hq; exact ⟨rfl, h x v hv⟩
        | succ k => exact h2 k p q (by simpa using hp) (by simpa using hq)
      · cases e
    · cases e

def plainL : List Value → Bool
  | [] => true
  | v :: l => plain v && plainL l
theorem plainL_ok (ι : Inj) : ∀ (l : List Value), plainL l = true → VL ι l l
  | [], _ => VL.nil ι
  | v :: l, h => by
    simp only [plainL, Bool.and_eq_true] at h
    exact VL.cons (VR.plain ι h.1) (plainL_ok ι l h.2)

/-- The cells of a type's zero. -/
def azero (P : Program) (t : TypeId) : Option (List Value) := match tzero P t with
  | some z => match plainL z.cells.toList with
    | true => some z.cells.toList
    | false => none
  | none => none
theorem azero_ok {P : Program} {ι : Inj} {t : TypeId} {cs : List Value} (h : azero P t = some cs) (w : World) : ∃ z, (zeroValue t).run P w = .ok z w ∧ cs = z.cells.toList ∧ VL ι cs z.cells.toList := by
  unfold azero at h
  split at h
  · rename_i z hz
    split at h
    · rename_i hp; cases h; exact ⟨z, run_tzero w hz, rfl, plainL_ok ι _ hp⟩
    · cases h
  · cases h

def places (P : Program) : List Field → Option (List (Nat × Nat))
  | [] => some []
  | f :: fs => match tsize P f.type with
    | some s => match places P fs with
      | some l => some ((f.offset, s) :: l)
      | none => none
    | none => none
theorem places_ok {P : Program} (w : World) : ∀ (fs : List Field) (l : List (Nat × Nat)), places P fs = some l → (fs.mapM (fun f => do pure (f.offset, ← sizeOf f.type)) : Sem (List (Nat × Nat))).run P w = .ok l w
  | [], l, h => by cases h; rfl
  | f :: fs, l, h => by
    simp only [places] at h
    split at h
    · rename_i s hs
      split at h
      · rename_i l' hl
        cases h
        have ih := places_ok w fs l' hl
        simp only [List.mapM_cons, Sem.run_bind, run_tsize w hs, Result.andThen_ok, Sem.run_pure, ih]
      · cases h
    · cases h

def abuild (P : Program) (ev : Operand → Option Value) (t : TypeId) (parts : List (Nat × Operand)) : Option Value :=
  match azero P t with
  | none => none
  | some zs => match evP ev parts with
    | none => none
    | some ps => match P.underlying t with
      | some (.struct fields) => match places P fields.toList with
        | some pl => match lay (fun i => lget pl i) zs ps with
          | some cs => some (.agg ⟨cs⟩)
          | none => none
        | none => none
      | some (.array _ elem) => match tsize P elem with
        | some s => match lay (fun i => some (Nat.mul i s, s)) zs ps with
          | some cs => some (.agg ⟨cs⟩)
          | none => none
        | none => none
      | _ => none
theorem abuild_ok {P : Program} {ι : Inj} {ev : Operand → Option Value} {ρ : Operand → Value} (hev : ∀ x v, ev x = some v → VR ι v (ρ x)) {t : TypeId} {parts : Array (Nat × Operand)} {v : Value}
    (h : abuild P ev t parts.toList = some v) (w : World) : ∃ u, (Instr.build t (parts.map fun (i, x) => (i, ρ x))).run P w = .ok u w ∧ VR ι v u := by
  unfold abuild at h
  split at h
  · cases h
  · rename_i zs hz
    obtain ⟨z, hz1, hz2, hz3⟩ := azero_ok (ι := ι) hz w
    split at h
    · cases h
    · rename_i ps hps
      obtain ⟨hl1, hl2⟩ := evP_ok hev _ _ hps
      have hpl : (parts.map fun (p : Nat × Operand) => (p.1, ρ p.2)).toList = parts.toList.map fun p => (p.1, ρ p.2) := by simp
      split at h
      · rename_i fields hu
        split at h
        · rename_i pl hpl1
          split at h
          · rename_i cs hcs
            cases h
            have hfun : (fun i => lget pl i) = (fun i => (pl.toArray)[i]?) := by funext i; simp
            rw [hfun] at hcs
            obtain ⟨r', hr', hvr⟩ := lay_ok ps _ zs z.cells cs hcs hz3 hl1 hl2
            refine ⟨.agg r', ?_, VL.agg hvr⟩
            have hm := places_ok w _ _ hpl1
            have hmA : (fields.mapM (fun f => do pure (f.offset, ← sizeOf f.type)) : Sem (Array (Nat × Nat))).run P w = .ok pl.toArray w := by
              rw [Array.mapM_eq_mapM_toList, Sem.run_map, hm]
              rfl
            have hr2 : Instr.fill (fun x => pl[x]?) z.cells (List.map (fun x => (x.fst, ρ x.snd)) parts.toList) = some r' := by simpa using hr'
            simp only [Instr.build, Sem.run_bind, hz1, Result.andThen_ok, run_underlying hu, hmA]
            simp [hr2]
          · cases h
        · cases h
      · rename_i len elem hu
        split at h
        · rename_i s hs
          split at h
          · rename_i cs hcs
            cases h
            obtain ⟨r', hr', hvr⟩ := lay_ok ps _ zs z.cells cs hcs hz3 hl1 hl2
            refine ⟨.agg r', ?_, VL.agg hvr⟩
            have hr2 : Instr.fill (fun i => some (i * s, s)) z.cells (List.map (fun x => (x.fst, ρ x.snd)) parts.toList) = some r' := hr'
            simp [Instr.build, hz1, run_underlying hu, run_tsize w hs, hr2]
          · cases h
        · cases h
      · cases h
end Go.Vit
