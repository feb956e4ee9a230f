/- All orders of a region: the proof. -/
import Derived.Test.YticlkfhmmcepjaaDoorVitM
set_option linter.unusedSimpArgs false
set_option linter.unusedVariables false
namespace Go.Vit
open Go

theorem aeval_ok1 {G : Nat} {ι : Inj} {env : Nat → Option Value} {a : Act} (hg : ∀ g, g < G → ι g = some ⟨g, 0, 0⟩) {x : Operand} (hf : ∀ t, x = .tmp t → ∀ v, env t = some v → VR ι v (a.tmps.getD t Go.undef)) {v : Value} (h : aeval G env x = some v) : VR ι v (a.eval x) := by
  cases x with
  | tmp t => exact hf t rfl v h
  | const c =>
    simp only [aeval] at h
    split at h
    · rename_i hp; cases h; exact VR.plain ι hp
    · cases h
  | global g =>
    simp only [aeval] at h
    split at h
    · rename_i hp
      cases h
      have := VR.ptr (ι := ι) g 0 ⟨g, 0, 0⟩ (hg g (by simpa using hp))
      exact this
    · cases h
  | func f => cases h; exact .func f _ _ rfl (by simp)

section
variable {P : Program} {G R U L : Nat} {B : World} {call : CallT}

theorem exA_congr {ev ev' : Operand → Option Value} {m : Mem} {op : Op} (h : ∀ x ∈ op.operands, ev x = ev' x) : exA P call L ev m op = exA P call L ev' m op := by
  unfold exA
  split
  · rename_i f args hcal
    obtain ⟨c, rfl, hcc, hargs⟩ := acallee_some hcal
    rw [h f (by simp [Op.operands, Call.operands, hcc])]
    have : evL ev args = evL ev' args := evL_congr _ fun x hx => h x (by rw [← hargs] at hx; simp [Op.operands, Call.operands, Array.mem_toList_iff.1 hx])
    rw [this]
  · exact aop_congr h

variable {ops : Array Oper} {N : Nat} {K : List Nat} (tr : Nat → Fr × Mem)

def EM (ops : Array Oper) (i : Nat) : Prop := ∃ o, (flags ops.toList)[i]? = some (o, true) ∧ pureKind o.op = false
def MK (ops : Array Oper) (i : Nat) : Prop := ∃ o f, (flags ops.toList)[i]? = some (o, f) ∧ pureKind o.op = false
def Done (listed : Array Bool) (i : Nat) : Prop := i < listed.size ∧ listed.getD i false = true

theorem flag_of {i : Nat} {o : Oper} (h : ops[i]? = some o) : ∃ f, (flags ops.toList)[i]? = some (o, f) := by
  have hl : (flags ops.toList)[i]?.map (·.1) = some o := by rw [← List.getElem?_map, flags_fst]; simpa using h
  obtain ⟨⟨o', f⟩, h1, rfl⟩ := Option.map_eq_some_iff.1 hl
  exact ⟨f, h1⟩
theorem of_flag {i : Nat} {o : Oper} {f : Bool} (h : (flags ops.toList)[i]? = some (o, f)) : ops[i]? = some o := by
  have hl : (flags ops.toList)[i]?.map (·.1) = some o := by rw [h]; rfl
  rw [← List.getElem?_map, flags_fst] at hl
  simpa using hl

/-- The text's order: what it is known to do. -/
structure Txt (P : Program) (G R : Nat) (B : World) (L : Nat) (call : CallT) (ops : Array Oper) (N : Nat) (K : List Nat) (tr : Nat → Fr × Mem) : Prop where
  facts : DrawFacts ops.toList
  stp : ∀ i o f, (flags ops.toList)[i]? = some (o, f) → Stp P G N K call ops.toList L o f (tr i) (tr (i + 1))
  ok0 : (tr 0).2.ok
  hc : CallOk P G R B call
  hL : L ≤ (tr 0).2.next

theorem Txt.ext (h : Txt P G R B L call ops N K tr) {i : Nat} (hi : i < ops.size) (hk : (tr i).2.ok) (hl : L ≤ (tr i).2.next) : Ext L (tr i).2 (tr (i + 1)).2 ∧ (¬ EM ops i → Ext (tr i).2.next (tr i).2 (tr (i + 1)).2) := by
  obtain ⟨o, ho⟩ : ∃ o, ops[i]? = some o := ⟨ops[i], by simp [hi]⟩
  obtain ⟨f, hf⟩ := flag_of ho
  obtain ⟨_, h1 | ⟨v, _, hx, _⟩⟩ := h.stp i o f hf
  · rw [h1.2.1]; exact ⟨Ext.refl hk, fun _ => Ext.refl hk⟩
  · cases f with
    | true =>
      have := exA_ext h.hc hk (by first | assumption | exact Nat.le_refl _ | omega) hx
      refine ⟨this, fun hem => ?_⟩
      cases hp : pureKind o.op with
      | false => exact absurd ⟨o, hf, hp⟩ hem
      | true =>
        rw [exA_pure hp] at hx
        split at hx
        · simp only [Option.some.injEq, Prod.mk.injEq] at hx; rw [← hx.2]; exact Ext.refl hk
        · cases hx
    | false =>
      have := exA_ext h.hc hk (by first | assumption | exact Nat.le_refl _ | omega) hx
      exact ⟨this.mono hl, fun _ => this⟩
theorem Txt.all (h : Txt P G R B L call ops N K tr) : ∀ i, i ≤ ops.size → (tr i).2.ok ∧ L ≤ (tr i).2.next
  | 0, _ => ⟨h.ok0, h.hL⟩
  | i + 1, hi => by
    obtain ⟨h1, h2⟩ := h.all i (by omega)
    have := (h.ext tr (i := i) (by omega) h1 h2).1
    exact ⟨this.ok, Nat.le_trans h2 this.next⟩
theorem Txt.exts (h : Txt P G R B L call ops N K tr) {p : Nat} : ∀ q, p ≤ q → q ≤ ops.size → Ext L (tr p).2 (tr q).2 ∧ ((∀ k, p ≤ k → k < q → ¬ EM ops k) → Ext (tr p).2.next (tr p).2 (tr q).2)
  | 0, hpq, hq => by
    obtain rfl : p = 0 := by omega
    exact ⟨Ext.refl h.ok0, fun _ => Ext.refl h.ok0⟩
  | q + 1, hpq, hq => by
    by_cases he : p = q + 1
    · subst he; exact ⟨Ext.refl (h.all tr _ hq).1, fun _ => Ext.refl (h.all tr _ hq).1⟩
    · obtain ⟨h1, h2⟩ := h.exts (p := p) q (by omega) (by omega)
      obtain ⟨g1, g2⟩ := h.all tr q (by omega)
      obtain ⟨e1, e2⟩ := h.ext tr (i := q) (by omega) g1 g2
      refine ⟨h1.trans e1, fun hk => ?_⟩
      have a1 := h2 fun k hk1 hk2 => hk k hk1 (by omega)
      exact a1.trans ((e2 (hk q (by omega) (by omega))).mono a1.next)

theorem Txt.nowrite (h : Txt P G R B L call ops N K tr) {t p : Nat} : ∀ q, p ≤ q → q ≤ ops.size → (∀ k x, p ≤ k → k < q → ops[k]? = some x → x.dst ≠ some t) → fget K (tr q).1 t = fget K (tr p).1 t
  | 0, hpq, hq, _ => by obtain rfl : p = 0 := by omega
                        rfl
  | q + 1, hpq, hq, hw => by
    by_cases he : p = q + 1
    · subst he; rfl
    · rw [← h.nowrite (t := t) (p := p) q (by omega) (by omega) fun k x h1 h2 => hw k x h1 (by omega)]
      obtain ⟨o, ho⟩ : ∃ o, ops[q]? = some o := ⟨ops[q]'(by omega), by simp [show q < ops.size by omega]⟩
      obtain ⟨f, hf⟩ := flag_of ho
      have hne := hw q o (by omega) (by omega) ho
      have key : ∀ v, (tr (q + 1)).1 = putA K (tr q).1 o.dst v → fget K (tr (q + 1)).1 t = fget K (tr q).1 t := fun v hv => by
        rw [hv]
        unfold putA
        split
        · rename_i d hd; exact fget_fset_ne fun e => hne (by rw [hd, e])
        · rfl
      obtain ⟨_, h1 | ⟨v, _, _, h1⟩⟩ := h.stp q o f hf
      · exact key _ h1.2.2
      · exact key _ h1

theorem nextEM (ops : Array Oper) : ∀ (c i : Nat), i + c = ops.size → ∃ r, i ≤ r ∧ r ≤ ops.size ∧ (∀ k, i ≤ k → k < r → ¬ EM ops k) ∧ (r < ops.size → EM ops r)
  | 0, i, h => ⟨i, Nat.le_refl _, by omega, fun k h1 h2 => by omega, fun h1 => by omega⟩
  | c + 1, i, h => by
    by_cases he : EM ops i
    · exact ⟨i, Nat.le_refl _, by omega, fun k h1 h2 => by omega, fun _ => he⟩
    · obtain ⟨r, h1, h2, h3, h4⟩ := nextEM ops c (i + 1) (by omega)
      refine ⟨r, by omega, h2, fun k hk1 hk2 => ?_, h4⟩
      by_cases hk : k = i
      · subst hk; exact he
      · exact h3 k (by omega) hk2

/-- Slots that are settled: of each, the operations carried out that write it are those ahead of j. -/
def Slots (ops : Array Oper) (K : List Nat) (tr : Nat → Fr × Mem) (D : Nat → Prop) (ι : Inj) (a : Act) : Prop :=
  ∀ t j, j ≤ ops.size → (∀ k x, ops[k]? = some x → x.dst = some t → (D k ↔ k < j)) → ∀ v, fget K (tr j).1 t = some v → VR ι v (a.tmps.getD t Go.undef)

structure Inv (G R : Nat) (B : World) (U L : Nat) (ops : Array Oper) (K : List Nat) (tr : Nat → Fr × Mem) (ι0 : Inj) (a0 : Act) (w0 : World) (listed : Array Bool) (a : Act) (w : World) : Prop where
  lsz : listed.size = ops.size
  down : ∀ i o, ops[i]? = some o → Done listed i → ∀ e ∈ o.after, Region.binds .any e = true → Done listed e.on
  tsz : a.tmps.size = a0.tmps.size
  dfs : a.defers = a0.defers
  mem : ∃ ι r, r ≤ ops.size ∧ (∀ i, i < r → EM ops i → Done listed i) ∧ (r < ops.size → EM ops r ∧ ¬ Done listed r) ∧ (∀ i, r ≤ i → MK ops i → ¬ Done listed i) ∧
    Rel G R B U ι (tr r).2 w ∧ (∀ i, i < ops.size → ¬ Done listed i → ∀ b, (tr i).2.next ≤ b → b < (tr (i + 1)).2.next → ι b = none) ∧
    Step L ι0 (tr 0).2 w0 ι (tr r).2 w ∧ Slots ops K tr (Done listed) ι a

theorem done_set {listed : Array Bool} {i k : Nat} (hi : i < listed.size) : Done (listed.setIfInBounds i true) k ↔ Done listed k ∨ k = i := by
  unfold Done
  simp only [Array.size_setIfInBounds, Array.getD_eq_getD_getElem?]
  by_cases hk : k = i
  · subst hk; simp [hi]
  · rw [Array.getElem?_setIfInBounds_ne (by omega)]; simp [hk]

theorem clash_of {x o : Oper} {l : List Oper} {t : Nat} (h : (x.dst = some t ∧ (t ∈ looks l o ∨ o.dst = some t)) ∨ (o.dst = some t ∧ (t ∈ looks l x ∨ x.dst = some t))) : clash l x o = true := by
  unfold clash
  rcases h with ⟨h1, h2 | h2⟩ | ⟨h1, h2 | h2⟩
  · simp [h1, (memb_iff _ _).2 h2]
  · simp [h1, h2]
  · simp [h1, (memb_iff _ _).2 h2]
  · simp [h1, h2]

theorem slots_step (ht : Txt P G R B L call ops N K tr) {D : Nat → Prop} {ι κ : Inj} {a : Act} {i : Nat} {o : Oper} {v u : Value} (hs : Slots ops K tr D ι a) (ho : ops[i]? = some o) (hnD : ¬ D i)
    (hlate : ∀ k, bit (masks ops.toList []) k i = true → ¬ D k) (hle : ι.le κ) (hv : VR κ v u) (hfr : (tr (i + 1)).1 = putA K (tr i).1 o.dst v) (hN : ∀ d, o.dst = some d → d < a.tmps.size) :
    Slots ops K tr (fun k => D k ∨ k = i) κ (a.put o.dst u) := by
  have hi : i < ops.size := (Array.getElem?_eq_some_iff.1 ho).1
  intro t j hj hcond x hx
  by_cases hd : o.dst = some t
  · have hij : i < j := (hcond i o ho hd).1 (.inr rfl)
    have hnw := ht.nowrite tr (p := i + 1) (t := t) j (by omega) hj fun k y h1 h2 hy hyd => by
      have hDk : D k ∨ k = i := (hcond k y hy hyd).2 h2
      obtain ⟨f, hf⟩ := flag_of ho
      obtain ⟨g, hg⟩ := flag_of hy
      have hb := ht.facts.pair i k o f y g (by omega) hf hg (by rw [clash_of (.inl ⟨hd, .inr hyd⟩)]; rfl)
      rcases hDk with h3 | h3
      · exact hlate k hb h3
      · omega
    rw [hnw, hfr, hd] at hx
    obtain rfl := fget_fset_same hx
    rw [hd]
    have := hN t hd
    simpa [Act.put, this] using hv
  · have hsame : (a.put o.dst u).tmps.getD t Go.undef = a.tmps.getD t Go.undef := by
      cases hd' : o.dst with
      | none => rfl
      | some d =>
        have hne : d ≠ t := fun e => hd (by rw [hd', e])
        simp [Act.put, Array.getElem?_setIfInBounds_ne hne]
    rw [hsame]
    refine (hs t j hj (fun k y hy hyd => ?_) x hx).mono hle
    have hki : k ≠ i := fun e => by subst e; rw [ho] at hy; cases hy; exact hd hyd
    have := hcond k y hy hyd
    simpa [hki] using this

theorem Inv.allDone {ι0 : Inj} {a0 : Act} {w0 : World} {listed : Array Bool} {a : Act} {w : World} (ht : Txt P G R B L call ops N K tr) (h : Inv G R B U L ops K tr ι0 a0 w0 listed a w) (hr : Region.ready .any ops listed = []) : ∀ i, i < ops.size → Done listed i := by
  intro i
  induction i using Nat.strongRecOn with
  | _ i ih =>
    intro hi
    apply Classical.byContradiction
    intro hnd
    obtain ⟨o, ho⟩ : ∃ o, ops[i]? = some o := ⟨ops[i], by simp [hi]⟩
    have hl : i < listed.size := by rw [h.lsz]; exact hi
    have : i ∈ Region.ready .any ops listed := by
      refine mem_ready.2 ⟨?_, o, ho, fun e he hb => ?_⟩
      · cases hb : listed.getD i true with
        | false => rfl
        | true =>
          exact absurd ⟨hl, by simpa [hl] using hb⟩ hnd
      · have := ht.facts.edge i o (by simpa using ho) e he hb
        exact (ih e.on this (by omega)).2
    rw [hr] at this
    cases this

theorem draw_core (hP : Prog P) (ht : Txt P G R B L call ops N K tr) (hR : R ≤ L) (hU : (tr ops.size).2.next ≤ U) {ι0 : Inj} {a0 : Act} {w0 : World} (hN : N ≤ a0.tmps.size) {Q : Exit → Act → World → Prop}
    (hQ : ∀ κ a' w', Rel G R B U κ (tr ops.size).2 w' → FR κ (fget K (tr ops.size).1) a' → a'.tmps.size = a0.tmps.size → a'.defers = a0.defers → Step L ι0 (tr 0).2 w0 κ (tr ops.size).2 w' → Q .normal a' w')
    (hd0 : ∀ b e, ι0 b = some e → b < (tr 0).2.next ∨ U ≤ b) :
    ∀ (fuel : Nat) (listed : Array Bool) (a : Act) (w : World), Inv G R B U L ops K tr ι0 a0 w0 listed a w → ops.size ≤ listed.toList.count true + fuel → wpAny P .any ops Q fuel listed a w := by
  have fin : ∀ listed a w, Inv G R B U L ops K tr ι0 a0 w0 listed a w → Region.ready .any ops listed = [] → Q .normal a w := fun listed a w hI hr => by
    have hall := hI.allDone tr ht hr
    obtain ⟨ι, r, h1, h2, h3, h4, h5, h6, h7, h8⟩ := hI.mem
    have hrn : r = ops.size := by
      rcases Nat.lt_or_ge r ops.size with h | h
      · exact absurd (hall r h) (h3 h).2
      · omega
    subst hrn
    exact hQ ι a w h5 (fun t v hv => h8 t ops.size (Nat.le_refl _) (fun k x hx _ => ⟨fun _ => (Array.getElem?_eq_some_iff.1 hx).1, fun h => hall k h⟩) v hv) hI.tsz hI.dfs h7
  intro fuel
  induction fuel with
  | zero =>
    intro listed a w hI hcnt
    have hr : Region.ready .any ops listed = [] := by
      apply List.eq_nil_iff_forall_not_mem.2
      intro i hi
      obtain ⟨h1, o, ho, _⟩ := mem_ready.1 hi
      have hi' : i < listed.size := by rw [hI.lsz]; exact (Array.getElem?_eq_some_iff.1 ho).1
      have hle := List.count_le_length (a := true) (l := listed.toList)
      have heq : listed.toList.count true = listed.toList.length := by
        have := hI.lsz
        simp only [Array.length_toList] at hle ⊢
        omega
      have := List.count_eq_length.1 heq listed[i] (by simp)
      have h1' : listed[i] = false := by simpa [hi'] using h1
      rw [h1'] at this
      cases this
    exact ⟨hr, fin listed a w hI hr⟩
  | succ fuel ih =>
    intro listed a w hI hcnt
    refine ⟨fin listed a w hI, fun i hi => ?_⟩
    obtain ⟨hun, o, ho, hall⟩ := mem_ready.1 hi
    have hin : i < ops.size := (Array.getElem?_eq_some_iff.1 ho).1
    have hil : i < listed.size := by rw [hI.lsz]; exact hin
    have hli : listed[i] = false := by simpa [hil] using hun
    have hnD : ¬ Done listed i := fun h => by have := h.2; simp [hil, hli] at this
    have hD' : ∀ k x, ops.toList[k]? = some x → (Done listed k ∨ k = i) → ∀ e ∈ x.after, Region.binds .any e = true → (Done listed e.on ∨ e.on = i) := fun k x hx hk e he hb => by
      rcases hk with hk | rfl
      · exact .inl (hI.down k x (by simpa using hx) hk e he hb)
      · have : x = o := by have hx' : ops[k]? = some x := by simpa using hx
                           rw [ho] at hx'; cases hx'; rfl
        subst this
        have h1 := hall e he hb
        refine .inl ⟨?_, h1⟩
        have := ht.facts.edge k x (by simpa using ho) e he hb
        omega
    have hbef : ∀ j, bit (masks ops.toList []) i j = true → j ≠ i → Done listed j := fun j hj hne => by
      rcases bit_down hD' hj (.inr rfl) with h | h
      · exact h
      · exact absurd h hne
    have haft : ∀ k, bit (masks ops.toList []) k i = true → ¬ Done listed k := fun k hk hDk =>
      hnD (bit_down (D := Done listed) (fun k x hx hk e he hb => hI.down k x (by simpa using hx) hk e he hb) hk hDk)
    obtain ⟨f, hf⟩ := flag_of ho
    -- of the slots that the operation names, the writers ahead of it have been carried out, and no others
    have hnames : ∀ t, (t ∈ looks ops.toList o ∨ o.dst = some t) → ∀ k x, ops[k]? = some x → x.dst = some t → (Done listed k ↔ k < i) := fun t htt k x hx hxd => by
      obtain ⟨g, hg⟩ := flag_of hx
      rcases Nat.lt_trichotomy k i with hki | hki | hki
      · refine ⟨fun _ => hki, fun _ => hbef k ?_ (by omega)⟩
        exact ht.facts.pair k i x g o f hki hg hf (by rw [clash_of (.inl ⟨hxd, htt⟩)]; rfl)
      · subst hki; exact ⟨fun h => absurd h hnD, fun h => by omega⟩
      · refine ⟨fun h => absurd h (haft k ?_), fun h => by omega⟩
        exact ht.facts.pair i k o f x g hki hf hg (by rw [clash_of (.inr ⟨hxd, htt⟩)]; rfl)
    obtain ⟨ι, r, h1, h2, h3, h4, h5, h6, h7, h8⟩ := hI.mem
    obtain ⟨hdN, hst⟩ := ht.stp i o f hf
    have hdsz : ∀ d, o.dst = some d → d < a.tmps.size := fun d hd => by rw [hI.tsz]; exact Nat.lt_of_lt_of_le (hdN d hd) hN
    have hslot : ∀ t, t ∈ looks ops.toList o → ∀ v, fget K (tr i).1 t = some v → VR ι v (a.tmps.getD t Go.undef) := fun t htl v hv =>
      h8 t i (by omega) (hnames t (.inl htl)) v hv
    have hcnt' : ops.size ≤ (listed.setIfInBounds i true).toList.count true + fuel := by
      have hl' : i < listed.toList.length := by simpa using hil
      have hv : listed.toList[i] = false := by simpa using hli
      rw [Array.toList_setIfInBounds, List.count_set hl', hv]
      show _ ≤ listed.toList.count true - 0 + 1 + fuel
      omega
    have hdown' : ∀ k x, ops[k]? = some x → Done (listed.setIfInBounds i true) k → ∀ e ∈ x.after, Region.binds .any e = true → Done (listed.setIfInBounds i true) e.on := fun k x hx hk e he hb =>
      (done_set hil).2 (hD' k x (by simpa using hx) ((done_set hil).1 hk) e he hb)
    -- the state once the operation is carried out
    have go : ∀ (v u : Value) (κ : Inj) (w' : World) (r' : Nat), ι.le κ → VR κ v u → (tr (i + 1)).1 = putA K (tr i).1 o.dst v → r' ≤ ops.size →
        (∀ k, k < r' → EM ops k → Done (listed.setIfInBounds i true) k) → (r' < ops.size → EM ops r' ∧ ¬ Done (listed.setIfInBounds i true) r') → (∀ k, r' ≤ k → MK ops k → ¬ Done (listed.setIfInBounds i true) k) →
        Rel G R B U κ (tr r').2 w' → (∀ k, k < ops.size → ¬ Done (listed.setIfInBounds i true) k → ∀ b, (tr k).2.next ≤ b → b < (tr (k + 1)).2.next → κ b = none) →
        Step L ι0 (tr 0).2 w0 κ (tr r').2 w' → wpAny P .any ops Q fuel (listed.setIfInBounds i true) (a.put o.dst u) w' := by
      intro v u κ w' r' hle hvu hfr g1 g2 g3 g4 g5 g6 g7
      refine ih _ _ _ ⟨by simpa using hI.lsz, hdown', ?_, ?_, κ, r', g1, g2, g3, g4, g5, g6, g7, ?_⟩ hcnt'
      · cases o.dst <;> simp [Act.put, hI.tsz]
      · cases o.dst <;> simp [Act.put, hI.dfs]
      · intro t j hj hcond x hx
        exact slots_step tr ht h8 ho hnD haft hle hvu hfr hdsz t j hj (fun k y hy hyd => by have := hcond k y hy hyd; rw [done_set hil] at this; exact this) x hx
    -- the same where no effect on memory has been carried out
    have keepR : ∀ (v u : Value) (κ : Inj) (w' : World), i ≠ r → (MK ops i → i < r) → ι.le κ → VR κ v u → (tr (i + 1)).1 = putA K (tr i).1 o.dst v → Rel G R B U κ (tr r).2 w' →
        (∀ k, k < ops.size → k ≠ i → ¬ Done listed k → ∀ b, (tr k).2.next ≤ b → b < (tr (k + 1)).2.next → κ b = none) → Step L ι0 (tr 0).2 w0 κ (tr r).2 w' → wpAny P .any ops Q fuel (listed.setIfInBounds i true) (a.put o.dst u) w' := by
      intro v u κ w' hir him hle hvu hfr g5 g6 g7
      refine go v u κ w' r hle hvu hfr h1 (fun k hk hem => (done_set hil).2 (.inl (h2 k hk hem))) (fun hrn => ⟨(h3 hrn).1, fun h => ?_⟩) (fun k hk hmk h => ?_) g5 (fun k hk hnk => g6 k hk (fun e => hnk ((done_set hil).2 (.inr e))) (fun e => hnk ((done_set hil).2 (.inl e)))) g7
      · rcases (done_set hil).1 h with h | h
        · exact (h3 hrn).2 h
        · exact hir h.symm
      · rcases (done_set hil).1 h with h | h
        · exact h4 k hk hmk h
        · subst h; have := him hmk; omega
    -- and where it was the next one with an effect
    have moveR : ∀ (v u : Value) (κ : Inj) (w' : World), i = r → ι.le κ → VR κ v u → (tr (i + 1)).1 = putA K (tr i).1 o.dst v → Rel G R B U κ (tr (i + 1)).2 w' →
        (∀ k, k < ops.size → k ≠ i → ¬ Done listed k → ∀ b, (tr k).2.next ≤ b → b < (tr (k + 1)).2.next → κ b = none) → Step L ι0 (tr 0).2 w0 κ (tr (i + 1)).2 w' → wpAny P .any ops Q fuel (listed.setIfInBounds i true) (a.put o.dst u) w' := by
      intro v u κ w' hir hle hvu hfr g5 g6 g7
      obtain ⟨r', k1, k2, k3, k4⟩ := nextEM ops (ops.size - (i + 1)) (i + 1) (by omega)
      have hext := (ht.exts tr (p := i + 1) r' k1 k2).2 k3
      have hUr : (tr r').2.next ≤ U := Nat.le_trans (ht.exts tr (p := r') ops.size k2 (Nat.le_refl _)).1.next hU
      refine go v u κ w' r' hle hvu hfr k2 (fun k hk hem => (done_set hil).2 ?_) (fun hrn => ⟨k4 hrn, fun h => ?_⟩) (fun k hk hmk h => ?_)
        (g5.fwd hext.next hext.ok hUr fun b hb => hext.kept b hb hb) (fun k hk hnk => g6 k hk (fun e => hnk ((done_set hil).2 (.inr e))) (fun e => hnk ((done_set hil).2 (.inl e))))
        (g7.fwd hext.next (fun b e he => (hd0 b e he).imp id fun h => by omega) fun b hb1 hb2 => hext.kept b hb2 hb2)
      · rcases Nat.lt_trichotomy k i with hki | hki | hki
        · exact .inl (h2 k (by omega) hem)
        · exact .inr hki
        · exact absurd hem (k3 k (by omega) hk)
      · rcases (done_set hil).1 h with h | h
        · obtain ⟨oo, hoo, hpp⟩ := k4 hrn
          exact h4 r' (by omega) ⟨oo, true, hoo, hpp⟩ h
        · omega
      · rcases (done_set hil).1 h with h | h
        · exact h4 k (by omega) hmk h
        · omega
    have hRi : R ≤ (tr i).2.next := by have := (ht.all tr i (by omega)).2; omega
    unfold wpOp
    rw [ho]
    simp only []
    have hwant : ∀ b, wantA K ops.toList (tr i).1 o = some b → Region.wanted o (yielded ops a.tmps) = b := fun b hb =>
      wantA_ok hb fun t v hv ⟨j, oj, hj, hoj, hod⟩ => hslot t (by
        unfold looks
        cases hg : o.guard with
        | none => rw [hg] at hj; cases hj
        | some p =>
          obtain ⟨gj, gw⟩ := p
          rw [hg] at hj
          cases hj
          have : lget ops.toList gj = some oj := by rw [lget_eq]; simpa using hoj
          refine List.mem_append_right _ ?_
          simp only [this, hod]
          exact List.mem_singleton.2 rfl) v hv
    rcases hst with ⟨hw, hm, hfr⟩ | ⟨v, hw, hx, hfr⟩
    · -- not wanted
      rw [hwant _ hw]
      simp only [Bool.false_eq_true, if_false]
      by_cases hir : i = r
      · refine moveR Go.undef Go.undef ι w hir (Inj.le_refl _) (VR.undef ι) hfr (by rw [hm, hir]; exact h5) (fun k hk hki hnk => h6 k hk hnk) (by rw [hm, hir]; exact h7)
      · by_cases hri : r < i
        · -- behind the next effect: only if it touches no memory
          refine go Go.undef Go.undef ι w r (Inj.le_refl _) (VR.undef ι) hfr h1 (fun k hk hem => (done_set hil).2 (.inl (h2 k hk hem))) (fun hrn => ⟨(h3 hrn).1, fun h => ?_⟩) (fun k hk hmk h => ?_) h5 (fun k hk hnk => h6 k hk (fun e => hnk ((done_set hil).2 (.inl e)))) h7
          · rcases (done_set hil).1 h with h | h
            · exact (h3 hrn).2 h
            · exact hir h.symm
          · rcases (done_set hil).1 h with h | h
            · exact h4 k hk hmk h
            · subst h
              obtain ⟨oo, ff, hoo, hpp⟩ := hmk
              rw [hf] at hoo
              cases hoo
              obtain ⟨⟨orr, horr, hprr⟩, hndr⟩ := h3 (by omega)
              exact hndr (hbef r (ht.facts.pair r k orr true o f hri horr hf (by simp [hpp, hprr])) (by omega))
        · exact keepR Go.undef Go.undef ι w hir (fun _ => by omega) (Inj.le_refl _) (VR.undef ι) hfr h5 (fun k hk hki hnk => h6 k hk hnk) h7
    · -- wanted
      rw [hwant _ hw]
      simp only [if_true]
      have hmemlt : pureKind o.op = false → f = false → i < r := fun hp hff => by
        rcases Nat.lt_trichotomy i r with h | h | h
        · exact h
        · subst h
          obtain ⟨⟨orr, horr, hprr⟩, _⟩ := h3 hin
          rw [hf] at horr
          cases horr
          cases hff
        · obtain ⟨⟨orr, horr, hprr⟩, hndr⟩ := h3 (by omega)
          exact absurd (hbef r (ht.facts.pair r i orr true o f h horr hf (by simp [hp, hprr])) (by omega)) hndr
      have hmemeq : pureKind o.op = false → f = true → i = r := fun hp hff => by
        subst hff
        rcases Nat.lt_trichotomy i r with h | h | h
        · exact absurd (h2 i h ⟨o, hf, hp⟩) hnD
        · exact h
        · obtain ⟨⟨orr, horr, hprr⟩, hndr⟩ := h3 (by omega)
          exact absurd (hbef r (ht.facts.pair r i orr true o true h horr hf (by simp [hp, hprr])) (by omega)) hndr
      -- what it looks at
      have hopn : ∀ x ∈ o.op.operands, ∀ y, aeval G (fget K (tr i).1) x = some y → VR ι y (a.eval x) := fun x hxo y hy => by
        refine aeval_ok1 h5.gl (fun t ht1 v hv => ?_) hy
        refine hslot t ?_ v hv
        unfold looks
        exact List.mem_append_left _ (List.mem_filterMap.2 ⟨.tmp t, by subst ht1; simpa using hxo, rfl⟩)
      obtain ⟨ev', hagree, hev'⟩ : ∃ ev' : Operand → Option Value, (∀ x ∈ o.op.operands, aeval G (fget K (tr i).1) x = ev' x) ∧ ∀ x y, ev' x = some y → VR ι y (a.eval x) := by
        refine ⟨fun x => @ite _ (x ∈ o.op.operands) (Classical.propDecidable _) (aeval G (fget K (tr i).1) x) none, fun x hxo => by simp [hxo], fun x y hy => ?_⟩
        by_cases hxo : x ∈ o.op.operands
        · dsimp only at hy; rw [if_pos hxo] at hy; exact hopn x hxo y hy
        · dsimp only at hy; rw [if_neg hxo] at hy; cases hy
      rw [exA_congr hagree] at hx
      have hnx : (tr i).2.next ≤ (tr (i + 1)).2.next := (ht.exts tr (p := i) (i + 1) (by omega) (by omega)).1.next
      have hUi : (tr (i + 1)).2.next ≤ U := Nat.le_trans (ht.exts tr (p := i + 1) ops.size (by omega) (Nat.le_refl _)).1.next hU
      have hmono : ∀ p q, p ≤ q → q ≤ ops.size → (tr p).2.next ≤ (tr q).2.next := fun p q h1 h2 => (ht.exts tr (p := p) q h1 h2).1.next
      have ids : ∀ κ w', Step L ι (tr i).2 w κ (tr (i + 1)).2 w' ∨ Step (tr i).2.next ι (tr i).2 w κ (tr (i + 1)).2 w' → ∀ k, k < ops.size → k ≠ i → ¬ Done listed k → ∀ b, (tr k).2.next ≤ b → b < (tr (k + 1)).2.next → κ b = none := by
        intro κ w' hs k hk hki hnk b hb1 hb2
        have h0 := h6 k hk hnk b hb1 hb2
        cases hκ : κ b with
        | none => rfl
        | some e =>
          have hfr2 : (tr i).2.next ≤ b ∧ b < (tr (i + 1)).2.next := by
            rcases hs with hs | hs
            · exact ⟨(hs.fresh b e hκ h0).1, (hs.fresh b e hκ h0).2.1⟩
            · exact ⟨(hs.fresh b e hκ h0).1, (hs.fresh b e hκ h0).2.1⟩
          rcases Nat.lt_trichotomy k i with h | h | h
          · have := hmono (k + 1) i (by omega) (by omega); omega
          · exact absurd h hki
          · have := hmono (i + 1) k (by omega) (by omega); omega
      cases hp : pureKind o.op with
      | true =>
        rw [exA_pure hp] at hx
        split at hx
        · rename_i v1 hv1
          simp only [Option.some.injEq, Prod.mk.injEq] at hx
          obtain ⟨rfl, hmm⟩ := hx
          obtain ⟨u, hrun, hvu⟩ := apure_ok (P := P) hev' hv1 w
          have hir : i ≠ r := fun e => by
            subst e
            obtain ⟨⟨orr, horr, hprr⟩, _⟩ := h3 hin
            rw [hf] at horr
            cases horr
            rw [hp] at hprr; cases hprr
          have hnm : MK ops i → i < r := fun ⟨oo, ff, hoo, hpp⟩ => by rw [hf] at hoo; cases hoo; rw [hp] at hpp; cases hpp
          refine .inl ?_
          unfold Oper.wp
          rw [hrun]
          exact keepR v1 u ι w hir hnm (Inj.le_refl _) hvu hfr h5 (fun k hk hki hnk => h6 k hk hnk) h7
        · cases hx
      | false =>
        cases f with
        | true =>
          have hir := hmemeq hp rfl
          subst hir
          refine .inl (exA_ok hP ht.hc h5 hR (ht.all tr i (by omega)).2 hev' hx hUi fun u κ w' hvu g1 g2 => ?_)
          exact moveR v u κ w' rfl g2.le hvu hfr g1 (ids κ w' (.inl g2)) (h7.trans g2)
        | false =>
          have hir := hmemlt hp rfl
          have hnoEM : ∀ k, i ≤ k → k < r → ¬ EM ops k := fun k hk1 hk2 ⟨ok, hok, hpk⟩ => by
            by_cases hki : k = i
            · subst hki; rw [hf] at hok; cases hok
            · exact haft k (ht.facts.pair i k o false ok true (by omega) hf hok (by simp [hp, hpk])) (h2 k hk2 ⟨ok, hok, hpk⟩)
          have e1 := (ht.exts tr (p := i) r (by omega) h1).2 hnoEM
          have e2 := (ht.exts tr (p := i + 1) r (by omega) h1).2 fun k hk1 hk2 => hnoEM k (by omega) hk2
          have hdom : ∀ b e, ι b = some e → b < (tr i).2.next ∨ (tr (i + 1)).2.next ≤ b := fun b e he => by
            by_cases hb1 : b < (tr i).2.next
            · exact .inl hb1
            · by_cases hb2 : (tr (i + 1)).2.next ≤ b
              · exact .inr hb2
              · have := h6 i hin hnD b (by omega) (by omega)
                rw [this] at he; cases he
          have hback := h5.back (m := (tr i).2) (U' := (tr (i + 1)).2.next) hRi (ht.all tr i (by omega)).1 e1.next (fun b hb => e1.kept b hb hb) hdom
          refine .inl (exA_ok hP ht.hc hback hRi (Nat.le_refl _) hev' hx (Nat.le_refl _) fun u κ w' hvu g1 g2 => ?_)
          have hUr : (tr r).2.next ≤ U := Nat.le_trans (hmono r ops.size h1 (Nat.le_refl _)) hU
          have hmerge := h5.merge g1 g2 e2.next (fun b hb => e2.kept b hb hb) hRi hUr
          refine keepR v u κ w' (by omega) (fun _ => hir) g2.le hvu hfr hmerge (ids κ w' (.inr g2)) ?_
          have hblk : ∀ k, k < w.heap.size → w'.heap[k]? = w.heap[k]? := fun k hk => g2.block k hk fun b e hb1 hb2 => by omega
          refine ⟨Inj.le_trans h7.le g2.le, h7.foreign, fun b e he hn0 => ?_, h7.next, h7.kept, g2.os.trans h7.os, g2.tape.trans h7.tape, g2.output.trans h7.output, Nat.le_trans h7.size g2.size, fun k hk hno => ?_⟩
          · cases hi0 : ι b with
            | some e' =>
              have := g2.le _ _ hi0
              rw [he] at this
              cases this
              exact h7.fresh b e hi0 hn0
            | none =>
              obtain ⟨k1, k2, k3⟩ := g2.fresh b e he hi0
              have := hmono 0 i (by omega) (by omega)
              have := e2.next
              refine ⟨by omega, by omega, ?_⟩
              rcases k3 with k3 | ⟨b0, _, k4, k5, _⟩
              · exact .inl (Nat.le_trans h7.size k3)
              · omega
          · rw [hblk k (Nat.lt_of_lt_of_le hk h7.size)]
            exact h7.block k hk hno
end
end Go.Vit
