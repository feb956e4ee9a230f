/- Functions of plain values, by what they yield: such a call leaves nothing behind. -/
import Derived.Test.YtcaoifacidnhcaaDoorVitX
import Derived.Test.YtcaoifacidnhcaaDoorVitAC
set_option linter.unusedSimpArgs false
set_option linter.unusedVariables false
namespace Go.Vit
open Go

abbrev PF := List Value → Option Value
def pfind : List (Nat × PF) → Nat → Option PF
  | [], _ => none
  | (g, f) :: l, h => match Nat.beq g h with
    | true => some f
    | false => pfind l h
def pureLC (l : List (Nat × PF)) (S : CallT) : CallT := fun h args L m => match pfind l h with
  | some f => match f args with
    | some v => some (v, m)
    | none => none
  | none => S h args L m
def mEmp (G : Nat) : Mem := ⟨.e, G⟩
theorem rel_emp {G R U U2 : Nat} {B : World} {ι : Inj} {m : Mem} {w : World} (h : Rel G R B U ι m w) : Rel G (mEmp G).next w U2 (fun b => (esG G)[b]?) (mEmp G) w := by
  refine Rel.start (by simp [mEmp, esG]) (fun g hg => by simp [esG, hg]) (fun b e hb => ?_) (fun b e k hb hk => ?_)
  · obtain ⟨h1, rfl⟩ := esG_get hb
    exact h.size _ _ (h.gl b h1)
  · exfalso
    simp [Mem.rd, mEmp, Tr.get, depth] at hk
/-- Scalars, and structs, arrays and tuples of scalars. -/
def plainD (v : Value) : Bool := match v with
  | .agg cs => plainL cs.toList
  | .tuple cs => plainL cs.toList
  | v => plain v
def plainLD : List Value → Bool
  | [] => true
  | v :: l => plainD v && plainLD l
theorem arr_same {ι : Inj} {cs ds : Array Value} (hs : cs.size = ds.size) (hv : ∀ (i : Nat) (v u : Value), cs[i]? = some v → ds[i]? = some u → VR ι v u) (hp : plainL cs.toList = true) : ds = cs := by
  apply Array.ext_getElem?
  intro i
  by_cases hi : i < cs.size
  · have e1 : cs[i]? = some cs[i] := by simp [hi]
    have e2 : ds[i]? = some ds[i] := by simp [show i < ds.size by omega]
    rw [e1, e2, plain_same (hv i _ _ e1 e2) (plainL_get (i := i) hp (by simp [hi]))]
  · rw [Array.getElem?_eq_none (by omega), Array.getElem?_eq_none (by omega)]
theorem plainD_same {ι : Inj} {v u : Value} (h : VR ι v u) (hp : plainD v = true) : u = v := by
  cases h with
  | agg cs ds hs hv => rw [arr_same hs hv hp]
  | tuple cs ds hs hv => rw [arr_same hs hv hp]
  | _ => first | rfl | (unfold plainD plain at hp; cases hp; done)
theorem plainD_VR (ι : Inj) {v : Value} (hp : plainD v = true) : VR ι v v := by
  have key : ∀ cs : Array Value, plainL cs.toList = true → ∀ (i : Nat) (a b : Value), cs[i]? = some a → cs[i]? = some b → VR ι a b := fun cs hc i a b h1 h2 => by
    rw [h1] at h2; cases h2
    exact VR.plain ι (plainL_get (i := i) hc (by simpa using h1))
  cases v with
  | agg cs => exact .agg cs cs rfl (key cs hp)
  | tuple cs => exact .tuple cs cs rfl (key cs hp)
  | _ => exact VR.plain ι hp
theorem plainLD_get : ∀ {l : List Value} {i : Nat} {v : Value}, plainLD l = true → l[i]? = some v → plainD v = true
  | [], i, v, _, h => by simp at h
  | a :: l, i, v, hl, h => by
    simp only [plainLD, Bool.and_eq_true] at hl
    cases i with
    | zero => simp at h; subst h; exact hl.1
    | succ i => simp at h; exact plainLD_get hl.2 h
theorem plain_VL {ι : Inj} {l r : List Value} (h : VL ι l r) (hp : plainLD l = true) : r = l := by
  obtain ⟨h1, h2⟩ := h
  apply List.ext_getElem?
  intro i
  by_cases hi : i < l.length
  · have e1 : l[i]? = some l[i] := by simp [hi]
    have e2 : r[i]? = some r[i] := by simp [show i < r.length by omega]
    rw [e1, e2, plainD_same (h2 i _ _ e1 e2) (plainLD_get hp e1)]
  · rw [List.getElem?_eq_none (by omega), List.getElem?_eq_none (by omega)]
theorem VL.plain {ι : Inj} {l : List Value} (hp : plainLD l = true) : VL ι l l :=
  ⟨rfl, fun i a b h1 h2 => by rw [h1] at h2; cases h2; exact plainD_VR ι (plainLD_get hp h1)⟩

/-- What is known of such a function: a run of it, from a memory that holds nothing. -/
structure PureOk (P : Program) (G lf n : Nat) (t : Bt Value) (g : Nat) (f : PF) : Prop where
  body : ∃ fn, P.funcs[g]? = some fn ∧ fn.body.isNone = false
  args : ∀ as v, f as = some v → plainLD as = true
  out : ∀ as v, f as = some v → plainD v = true
  run : ∀ as v, f as = some v → runT t n g as G (mEmp G) (fun u _ => some u) = some v
theorem pureL_ok {P : Program} {G R lf n : Nat} {B : World} {sp : FuncId → Bool} {S S2 : CallT} {t : Bt Value} {l : List (Nat × PF)} (ht : t.All (Good P G lf sp S)) (hP : Prog P) (hS : ∀ B, CallOk P G G B S) (hS2 : CallOk P G R B S2)
    (hall : ∀ g f, pfind l g = some f → PureOk P G lf n t g f) : CallOk P G R B (pureLC l S2) := by
  have opn : ∀ h args L m v m', pureLC l S2 h args L m = some (v, m') → S2 h args L m = some (v, m') ∨ (∃ f, pfind l h = some f ∧ f args = some v ∧ m' = m) := by
    intro h args L m v m' hh
    unfold pureLC at hh
    split at hh
    · rename_i f hf
      split at hh
      · rename_i u hu; cases hh; exact .inr ⟨f, hf, hu, rfl⟩
      · cases hh
    · exact .inl hh
  refine ⟨fun f args L m v m' hm hL h => ?_, fun f args L m v m' h => ?_, fun g args L m v m' h U ι w cargs hrel hR hLm hU hargs => ?_⟩
  · rcases opn _ _ _ _ _ _ h with h | ⟨_, _, _, rfl⟩
    · exact hS2.ext _ _ _ _ _ _ hm hL h
    · exact ⟨Nat.le_refl _, trivial, fun _ _ _ => rfl⟩
  · rcases opn _ _ _ _ _ _ h with h | ⟨f, hf, _, _⟩
    · exact hS2.fn _ _ _ _ _ _ h
    · exact (hall _ _ hf).body
  · rcases opn _ _ _ _ _ _ h with h | ⟨f, hf, hv, rfl⟩
    · exact hS2.ok _ _ _ _ _ _ h _ _ _ _ hrel hR hLm hU hargs
    · have hok := hall _ _ hf
      have hpa := hok.args _ _ hv
      have hca : cargs.toList = args := plain_VL hargs hpa
      obtain ⟨v', m2, h1, h2⟩ := runT_sim ht n _ _ _ _ _ _ (hok.run _ _ hv)
      have hv' : v' = v := Option.some.inj h2
      subst hv'
      have hc := callM_ok (G := G) (R := G) (B := w) (sp := sp) (lf := lf) (hS w) hP n
      refine (hc.ok _ _ _ _ _ _ h1 m2.next (fun b => (esG G)[b]?) w cargs (rel_emp hrel) (Nat.le_refl _) (Nat.le_refl _) (Nat.le_refl _) (by rw [hca]; exact VL.plain hpa)).mono fun e W' ⟨u, κ, he, g1, g2, g3⟩ => ?_
      have hu := plainD_same g1 (hok.out _ _ hv)
      subst hu
      have hblk : ∀ k, k < w.heap.size → W'.heap[k]? = w.heap[k]? := fun k hk => g3.block k hk fun b e h1 h2 => absurd h2 (by show ¬ b < G; omega)
      exact ⟨_, ι, he, plainD_VR ι (hok.out _ _ hv), hrel.stays g3.size hblk, ⟨Inj.le_refl _, fun b _ _ => Nat.lt_or_ge b _, fun b e h h' => (by rw [h] at h'; cases h'), Nat.le_refl _, fun _ _ _ => rfl, g3.os, g3.tape, g3.output, g3.size, fun k hk _ => hblk k hk⟩⟩
/-- The table's entry. -/
def SPure {β : Type} (f : PF) : FnK β := fun _ args L m k => match f args with
  | some v => k v m
  | none => none
theorem SPure_good {β : Type} {P : Program} {G lf : Nat} {sp : FuncId → Bool} {S : CallT} {l : List (Nat × PF)} {g : Nat} {f : PF} (hsp : sp g = true) (hf : pfind l g = some f) : Good (β := β) P G lf sp (pureLC l S) g (SPure f) := by
  refine .inl ⟨hsp, fun cK args L m k r h => ?_⟩
  unfold SPure at h
  split at h
  · rename_i v hv
    exact ⟨v, m, by simp only [pureLC, hf, hv], h⟩
  · cases h
theorem Good.skip {β : Type} {P : Program} {G lf : Nat} {sp : FuncId → Bool} {S : CallT} {l : List (Nat × PF)} {g : Nat} {x : FnK β} (hf : pfind l g = none) (h : Good P G lf sp S g x) : Good P G lf sp (pureLC l S) g x := by
  rcases h with ⟨h1, h2⟩ | h
  · refine .inl ⟨h1, fun cK args L m k r hr => ?_⟩
    obtain ⟨v, m', h3, h4⟩ := h2 _ _ _ _ _ _ hr
    exact ⟨v, m', by simp only [pureLC, hf]; exact h3, h4⟩
  · exact .inr h
/-- Two integers, a fraction. -/
def ints2 (as : List Value) : Option (Int × Int) := match ints as with
  | some [a, b] => some (a, b)
  | _ => none
def aggI (v : Value) : Option (List Int) := match v with
  | .agg cs => ints cs.toList
  | _ => none
theorem plainL_intV : ∀ (l : List Int), plainL (intV l) = true
  | [] => rfl
  | a :: l => by
    simp only [intV, List.map_cons, plainL, Bool.and_eq_true]
    exact ⟨rfl, plainL_intV l⟩
theorem ints2_some {as : List Value} {a b : Int} (h : ints2 as = some (a, b)) : as = [.int .i64 a, .int .i64 b] := by
  unfold ints2 at h
  split at h
  · rename_i x y hx
    cases h
    exact ints_some hx
  · cases h
theorem aggI_some {v : Value} {l : List Int} (h : aggI v = some l) : v = .agg ⟨intV l⟩ := by
  unfold aggI at h
  split at h
  · rename_i cs
    rw [← ints_some h]
  · cases h
end Go.Vit
