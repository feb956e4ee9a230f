/- From a run to a row's contract: the start, the tables, the post. -/
import Derived.Test.YticlkfhmmcepjaaDoorVitP
import Derived.Deep.DeepHandedRow
import Derived.Lib.LaidTab
import Derived.WalkKit
import Derived.ProofKit
import Derived.OpenShut
set_option linter.unusedSimpArgs false
set_option linter.unusedVariables false
namespace Go.Vit
open Go Go.ChangeShapes Go.WideShapes Go.RowKit

/-- What was there is as it was. -/
structure Stays (w w' : World) : Prop where
  os : w'.os = w.os
  output : w'.output = w.output
  size : w.heap.size ≤ w'.heap.size
  block : ∀ k, k < w.heap.size → w'.heap[k]? = w.heap[k]?

theorem Step.stays {L : Nat} {ι κ : Inj} {m m' : Mem} {w w' : World} (h : Step L ι m w κ m' w') (hL : m.next ≤ L) : Stays w w' :=
  ⟨h.os, h.output, h.size, fun k hk => h.block k hk fun b e h1 h2 => absurd h2 (by omega)⟩
theorem Stays.kept {w w' : World} (h : Stays w w') (may : MemPlace → Prop) : w.keptBut w' may := by
  refine ⟨h.os, h.output, fun i hi => ?_⟩
  rw [h.block i hi]
  cases hx : w.heap[i]? with
  | none => simp
  | some o => cases o <;> simp
theorem Stays.frozen {w w' : World} (h : Stays w w') {a : Addr} (ha : a.block < w.heap.size) : w'.frozen? a = w.frozen? a := by
  unfold World.frozen?
  rw [h.block _ ha]
theorem Stays.cell {w w' : World} (h : Stays w w') {a : Addr} (ha : a.block < w.heap.size) : w'.cell? a = w.cell? a := by
  unfold World.cell?
  rw [h.block _ ha]

/-- The post of a law that answers true and whose arguments read as before. -/
theorem post_stays {H : Type} {enc : TypeId × Value → H} {P : Program} {f : Func} {s : ChangeSpec} {apart fresh handsOn again : Bool} {W W' : World} {args : Array Value} {v : Value} {ds gs : List (DataW H)} {before pa pv : List MemPlace}
    (hW : DataW.Whole enc P f.params.toList s.vars apart W args.toList ds gs before)
    (hres : ∀ (b : Nat) (sp : Nat → Bool) (hd : Bool), DataW.TrodAll enc P W' b sp hd f.resultTypes.toList (v.resultList f.resultTypes.size) (s.fn H (ds ++ gs)).results [])
    (hargs : ∀ sp : Nat → Bool, (∀ p ∈ before, sp p.block = true) → DataW.TrodAll enc P W' 0 sp true f.params.toList args.toList (s.fn H (ds ++ gs)).args pa)
    (hvars : ∀ sp : Nat → Bool, (∀ p ∈ before, sp p.block = true) → DataW.TrodVars enc P W' sp s.vars (s.fn H (ds ++ gs)).vars pv)
    (hps : before = pa ++ pv) (hs : Stays W W')
    (hok : ∀ (j : Nat) (t : TypeId) (r : Value), f.resultTypes[j]? = some t → (v.resultList f.resultTypes.size)[j]? = some r → Value.okWide P W' .any 0 t r) :
    s.post enc P f apart fresh handsOn again W args v W' := by
  have hlt := hW.lt
  have key : ∀ p ∈ before, decide (p.block < W.heap.size) = true := fun p hp => decide_eq_true (hlt p hp)
  have split : ∀ p, p ∈ before → p ∈ pa ∨ p ∈ pv := fun p hp => by rw [hps] at hp; exact List.mem_append.1 hp
  have nofr : W'.noneFrozen before := by
    obtain ⟨_, _, _, _, _, hz, _⟩ := hW
    intro b off hb
    exact (hs.frozen (hlt _ hb)).trans (hz b off hb)
  have nod : apart = true → before.Nodup := by
    obtain ⟨_, _, _, _, _, _, hn⟩ := hW
    exact hn
  refine ⟨ds, gs, before, [], pa, pv, hW, hres _ _ _, hargs _ key, hvars _ key, World.keptBut_mono (fun p hp => ⟨hp, .inr (split p hp)⟩) (hs.kept (· ∈ before)), fun _ => ⟨hok, ?_⟩⟩
  have g1 := trodAll_append (hargs (fun _ => true) fun _ _ => rfl) (hres 0 (fun _ => true) true)
  exact ⟨_, _, before, ⟨[] ++ pa, pv, g1, hvars _ fun _ _ => rfl, hps, nofr, nod⟩, fun p hp _ => hp⟩

/-! ### The start -/
theorem Rel.start {W : World} {G U : Nat} {m : Mem} {es : List Ent} (hok : Nat.ble m.next 65536 = true) (hn : m.next = es.length) (hG : ∀ g, g < G → es[g]? = some ⟨g, 0, 0⟩)
    (hsz : ∀ (b : Nat) (e : Ent), es[b]? = some e → e.cb < W.heap.size)
    (hcells : ∀ (b : Nat) (e : Ent) (k : Blk), es[b]? = some e → m.rd b = some k → k.ents = none ∧ ∀ (i : Nat) (v : Value), k.cells[i]? = some v → ∃ u, VR (fun b => es[b]?) v u ∧ W.cell? ⟨e.cb, e.base + i, none⟩ = some u) :
    Rel G m.next W U (fun b => es[b]?) m W := by
  have hlt : ∀ (b : Nat) (e : Ent), es[b]? = some e → b < m.next := fun b e h => by rw [hn]; exact (List.getElem?_eq_some_iff.1 h).1
  refine ⟨Nat.le_of_ble_eq_true hok, Nat.le_refl _, ⟨Nat.le_refl _, fun _ _ => rfl⟩, hG, fun b e h => .inl (hlt b e h), hsz, fun b e h1 h2 => absurd (hlt b e h2) (by omega), fun b e k h1 h2 _ i v hv => (hcells b e k h1 h2).2 i v hv,
    fun b e k h1 h2 => absurd (hlt b e h2) (by omega), fun b b' e e' k k' h1 _ h2 => absurd (hlt b e h2) (by omega), fun b e k es' h1 h2 h3 => ?_⟩
  have := (hcells b e k h1 h2).1
  rw [h3] at this
  cases this

/-! ### Tables that a row lists -/
theorem laid_mem {P : Program} {W : World} : ∀ {l : List (String × DataW Unit)} {ps : List MemPlace}, DataW.LaidVars P W l ps → ∀ n d, (n, d) ∈ l →
    ∃ g t cs fuel p, P.globalNamed n = some g ∧ (P.globals[g]?).map (·.type) = some t ∧ W.var? P n = some cs ∧ DataW.trod (fun _ => ()) P W 0 (fun _ => true) false fuel t cs.toList = some (d, p)
  | [], _, _, n, d, hm => by cases hm
  | (n', d') :: l, ps, h, n, d, hm => by
    obtain ⟨g, t, cs, fuel, p, q, h1, h2, h3, h4, h5, _⟩ := h
    cases hm with
    | head => exact ⟨g, t, cs, fuel, p, h1, h2, h3, h4⟩
    | tail _ hm => exact laid_mem h5 n d hm
theorem tab_of_laid {P : Program} {W : World} {name : String} {k : IntKind} {zs : List Int} {l : List (String × DataW Unit)} {g : Nat} {t e : TypeId} {n : Nat}
    (hg : P.globalNamed name = some g) (hty : (P.globals[g]?).map (·.type) = some t) (ht : P.underlying t = some (.array n e)) (he : P.underlying e = some (.int k)) (hce : P.cellsOf e = 1) (hct : P.cellsOf t = n)
    (h : laidMet P l W) (hm : (name, Lib.tabData k zs) ∈ l) : g < W.heap.size ∧ ∀ (i : Nat) z, zs[i]? = some z → W.cell? ⟨g, i, none⟩ = some (.int k z) := by
  obtain ⟨ps, hl, _⟩ := h
  obtain ⟨g', t', cs, fuel, p, h1, h2, h3, h4⟩ := laid_mem hl _ _ hm
  obtain rfl := Option.some.inj (hg.symm.trans h1)
  obtain rfl := Option.some.inj (hty.symm.trans h2)
  have hcs := Lib.cells_of_tab ht he hce hct h4
  have hlt : g < W.heap.size := by
    simp only [World.var?, hg, Option.bind_some] at h3
    split at h3
    · rename_i hx; exact (Array.getElem?_eq_some_iff.1 hx).1
    · cases h3
  refine ⟨hlt, fun i z hz => ?_⟩
  rw [World.var?_cell hg h3 i]
  have : cs.toList[i]? = some (.int k z) := by rw [hcs]; simp [hz]
  simpa using this

/-! ### The answer -/
/-- The run answers true. -/
def says (x : Option (Value × Mem)) : Bool := match x with
  | some (v, _) => match v with
    | .bool b => b
    | _ => false
  | none => false
theorem calls_of_says {P : Program} {G : Nat} {m : Mem} {W : World} {ι : Inj} (hP : Prog P) {KK : FuncId → List Nat} {lf n : Nat} {f : FuncId} {args : List Value} {cargs : Array Value}
    (hrel : Rel G m.next W 65536 ι m W) (hargs : VL ι args cargs.toList) {S : CallT} (hS : CallOk P G m.next W S) (h : says (callN S P G KK lf n f args m.next m) = true) :
    Calls P f cargs W fun e W' => e = .returned (.bool true) ∧ Stays W W' := by
  have hc := callN_ok (G := G) (R := m.next) (B := W) hS hP KK lf n
  unfold says at h
  split at h
  · rename_i v m' hx
    have hext := hc.ext _ _ _ _ _ _ hrel.ok (Nat.le_refl _) hx
    refine (hc.ok _ _ _ _ _ _ hx 65536 ι W cargs hrel (Nat.le_refl _) (Nat.le_refl _) hext.ok hargs).mono fun e W' ⟨u, κ, he, g1, g2, g3⟩ => ?_
    split at h
    · cases h
      cases g1
      exact ⟨he, g3.stays (Nat.le_refl _)⟩
    · cases h
  · cases h
end Go.Vit
