/- The library's sort of ints, by its contract. -/
import Derived.Test.YtgimcgdehgbljaaVitW
import Derived.Sort.Grow
set_option linter.unusedSimpArgs false
set_option linter.unusedVariables false
namespace Go.Vit
open Go Go.Sort

def insI (x : Int) : List Int → List Int
  | [] => [x]
  | y :: l => match ile x y with
    | true => x :: y :: l
    | false => y :: insI x l
def isortI : List Int → List Int
  | [] => []
  | x :: l => insI x (isortI l)
def ints : List Value → Option (List Int)
  | [] => some []
  | v :: l => match v with
    | .int k n => match Nat.beq (kix k) 3 with
      | true => match ints l with
        | some r => some (n :: r)
        | none => none
      | false => none
    | _ => none
def intV (l : List Int) : List Value := l.map (Value.int .i64)
theorem kix_i64 : ∀ {k : IntKind}, Nat.beq (kix k) 3 = true → k = .i64 := by
  intro k h; cases k <;> first | rfl | cases h
theorem ints_some : ∀ {l : List Value} {r : List Int}, ints l = some r → l = intV r
  | [], r, h => by cases h; rfl
  | v :: l, r, h => by
    unfold ints at h
    split at h
    · split at h
      · rename_i hk
        obtain rfl := kix_i64 hk
        split at h
        · rename_i r' hr
          cases h
          rw [ints_some hr]; rfl
        · cases h
      · cases h
    · cases h
theorem ints_intV : ∀ (r : List Int), ints (intV r) = some r
  | [] => rfl
  | n :: r => by
    show ints (.int .i64 n :: intV r) = _
    simp only [ints, kix, Nat.beq_refl, ints_intV r]

theorem insI_perm (x : Int) : ∀ l, (insI x l).Perm (x :: l)
  | [] => List.Perm.refl _
  | y :: l => by
    simp only [insI]
    split
    · exact List.Perm.refl _
    · exact ((insI_perm x l).cons y).trans (List.Perm.swap x y l)
theorem isortI_perm : ∀ l, (isortI l).Perm l
  | [] => List.Perm.refl _
  | x :: l => (insI_perm x _).trans ((isortI_perm l).cons x)
theorem insI_sorted (x : Int) : ∀ l : List Int, l.Pairwise (· ≤ ·) → (insI x l).Pairwise (· ≤ ·)
  | [], _ => by simp [insI]
  | y :: l, h => by
    simp only [insI]
    rw [List.pairwise_cons] at h
    split
    · rename_i hb
      rw [ile_e] at hb
      have hb : x ≤ y := of_decide_eq_true hb
      refine List.pairwise_cons.2 ⟨fun z hz => ?_, List.pairwise_cons.2 h⟩
      rcases List.mem_cons.1 hz with rfl | hz
      · exact hb
      · exact Int.le_trans hb (h.1 z hz)
    · rename_i hb
      rw [ile_e] at hb
      have hb : ¬ x ≤ y := of_decide_eq_false hb
      refine List.pairwise_cons.2 ⟨fun z hz => ?_, insI_sorted x l h.2⟩
      rcases List.mem_cons.1 ((insI_perm x l).mem_iff.1 hz) with rfl | hz
      · omega
      · exact h.1 z hz
theorem isortI_sorted : ∀ l, (isortI l).Pairwise (· ≤ ·)
  | [] => List.Pairwise.nil
  | x :: l => insI_sorted x _ (isortI_sorted l)
theorem isortI_length (l : List Int) : (isortI l).length = l.length := (isortI_perm l).length_eq
theorem isortI_merge (l : List Int) : l.mergeSort (fun x y => decide (x ≤ y)) = isortI l := by
  refine List.Perm.eq_of_pairwise (le := fun a b => a ≤ b) (fun a b _ _ h1 h2 => Int.le_antisymm h1 h2) ?_ (isortI_sorted l) ((List.mergeSort_perm l _).trans (isortI_perm l).symm)
  have := List.pairwise_mergeSort (le := fun x y : Int => decide (x ≤ y)) (fun a b c h1 h2 => by simp at h1 h2 ⊢; omega) (fun a b => by simp; omega) l
  exact this.imp fun h => of_decide_eq_true h

/-- What the sort does. -/
def sortA (L : Nat) (m : Mem) (v : Value) : Option (Value × Mem) := match v with
  | .slice none 0 0 => some (.tuple #[], m)
  | .slice (some ⟨b, o, _⟩) n _ => match n with
    | 0 => some (.tuple #[], m)
    | Nat.succ k => match Nat.ble n 1048576 with
      | true => match rdc m b o n with
        | some cs => match ints cs with
          | some l => match awr L m b o (intV (isortI l)) with
            | some m' => some (.tuple #[], m')
            | none => none
          | none => none
        | none => none
      | false => none
  | _ => none
def sortC (g : FuncId) : CallT := fun f args L m => match Nat.beq f g with
  | true => match args with
    | [v] => sortA L m v
    | _ => none
  | false => none
/-- What is known of the function. -/
structure SortOk (P : Program) (f : FuncId) : Prop where
  body : ∃ fn, P.funcs[f]? = some fn ∧ fn.body.isNone = false
  full : ∀ (blk off cap : Nat) (zs : List Int) (w : World), Holds (Value.int .i64) w blk off zs.toArray → blk < w.heap.size → zs.length < 4611686018427387904 →
    Calls P f #[.slice (some ⟨blk, off, none⟩) zs.length cap] w fun e w' => e = .returned (.tuple #[]) ∧ ∃ n os, w' = grow (putRow (Value.int .i64) (Sort.ahead w n) blk off (zs.mergeSort fun x y => decide (x ≤ y)).toArray) os
  none : ∀ (p : Option Addr) (cap : Nat) (w : World), Calls P f #[.slice p 0 cap] w fun e w' => e = .returned (.tuple #[]) ∧ w' = w

section
variable {G R U L : Nat} {B : Base} {ι : Inj} {m : Mem} {w : World}
theorem Rel.grow (h : Rel G R B U ι m w) (os : Array Obj) : Rel G R B U ι m (Sort.grow w os) := by
  have hh : ∀ k, k < w.heap.size → (Sort.grow w os).heap[k]? = w.heap[k]? := fun k hk => heap_grow_old w os hk
  have hs : w.heap.size ≤ (Sort.grow w os).heap.size := by rw [size_grow]; omega
  refine ⟨h.ok, h.rlt, ⟨Nat.le_trans h.old.size hs, fun k hk => (hh k (Nat.lt_of_lt_of_le hk h.old.size)).trans (h.old.block k hk)⟩, h.gl, h.dom, fun b e hb => Nat.lt_of_lt_of_le (h.size b e hb) hs, h.ge, ?_, ?_, h.disj, ?_⟩
  · intro b e k h1 h2 h3 i v hv
    obtain ⟨u, hu, hc⟩ := h.cells b e k h1 h2 h3 i v hv
    exact ⟨u, hu, by rw [cell?_grow w os _ (h.size b e h1)]; exact hc⟩
  · intro b e k h0 h1 h2 h3
    rw [hh _ (h.size b e h1)]
    exact h.own b e k h0 h1 h2 h3
  · intro b e k es h1 h2 h3
    rw [hh _ (h.size b e h1)]
    exact h.maps b e k es h1 h2 h3
theorem Step.grow (L : Nat) (ι : Inj) (m : Mem) (w : World) (os : Array Obj) : Step L ι m w ι m (Sort.grow w os) :=
  ⟨Inj.le_refl _, fun b _ _ => Nat.lt_or_ge b m.next, fun b e h h' => (by rw [h] at h'; cases h'), Nat.le_refl _, fun _ _ _ => rfl, rfl, rfl, rfl, by rw [size_grow]; omega, fun k hk _ => heap_grow_old w os hk⟩
end
theorem awr_some {L : Nat} {m m' : Mem} {b o : Nat} {vs : List Value} (h : awr L m b o vs = some m') : L ≤ b ∧ ∃ k, m.rd b = some k ∧ k.ents = none ∧ o + vs.length ≤ k.cells.length ∧ m' = m.put b (some { k with cells := k.cells.take o ++ (vs ++ k.cells.drop (o + vs.length)) }) := by
  unfold awr at h
  split at h
  · rename_i hL
    split at h
    · rename_i k hk
      split at h
      · rename_i he
        split at h
        · rename_i hb
          cases h
          rw [Bool.and_eq_true] at hb
          exact ⟨Nat.le_of_ble_eq_true hL, k, hk, he, Nat.le_of_ble_eq_true hb.1, rfl⟩
        · cases h
      · cases h
    · cases h
  · cases h
theorem rdc_some {m : Mem} {b o n : Nat} {cs : List Value} (h : rdc m b o n = some cs) : ∃ k, m.rd b = some k ∧ k.ents = none ∧ o + n ≤ k.cells.length ∧ cs = (k.cells.drop o).take n := by
  unfold rdc at h
  split at h
  · rename_i k hk
    split at h
    · rename_i he
      split at h
      · rename_i hb
        cases h
        exact ⟨k, hk, he, Nat.le_of_ble_eq_true hb, rfl⟩
      · cases h
    · cases h
  · cases h
/-- The row as the model writes it, and as the sort's contract says it. -/
theorem putRow_eq {w : World} {cb o : Nat} {c : Array Value} {t : TypeId} (hh : w.heap[cb]? = some (.cells c t (0, 0))) (l : List Int) (hfit : o + l.length ≤ c.size) :
    putRow (Value.int .i64) w cb o l.toArray = w.setRow cb (c.toList.take o ++ intV l ++ c.toList.drop (o + (intV l).length)).toArray := by
  have key : putCells (Value.int .i64) o l.toArray c = (c.toList.take o ++ intV l ++ c.toList.drop (o + (intV l).length)).toArray := by
    apply Array.ext_getElem?
    intro k
    simp only [putCells, Array.getElem?_mapIdx, List.getElem?_toArray, List.size_toArray]
    have hl : (intV l).length = l.length := List.length_map _
    have ht : (c.toList.take o).length = o := by simp; omega
    by_cases h1 : k < o
    · rw [List.append_assoc, List.getElem?_append_left (by omega), List.getElem?_take, if_pos h1]
      simp only [Array.getElem?_toList]
      cases hc : c[k]? with
      | none => rfl
      | some x => simp only [Option.map_some]; rw [if_neg (by omega)]
    · by_cases h2 : k < o + l.length
      · rw [List.append_assoc, List.getElem?_append_right (by omega), ht, List.getElem?_append_left (by omega)]
        have hk : k < c.size := by omega
        have hkl : k - o < l.length := by omega
        rw [Array.getElem?_eq_getElem hk]
        simp only [Option.map_some]
        rw [if_pos ⟨by omega, h2⟩]
        simp [intV, hkl]
      · have ht2 : (c.toList.take o ++ intV l).length = o + l.length := by rw [List.length_append, ht, hl]
        rw [List.getElem?_append_right (by omega), ht2, List.getElem?_drop, hl, show o + l.length + (k - (o + l.length)) = k by omega]
        simp only [Array.getElem?_toList]
        cases hc : c[k]? with
        | none => rfl
        | some x => simp only [Option.map_some]; rw [if_neg (by omega)]
  rw [← key]
  unfold putRow mapBlock World.setRow
  congr 1
  apply Array.ext_getElem?
  intro k
  simp only [Array.getElem?_modify]
  by_cases hk : cb = k
  · subst hk
    simp only [if_true, hh, Option.map_some, onCells]
  · simp [hk]

theorem sortC_ok {P : Program} {G R : Nat} {B : Base} {g : FuncId} (hs : SortOk P g) : FOk P G R B (sortC g) := by
  have opn : ∀ f args L m v m', sortC g f args L m = some (v, m') → f = g ∧ ∃ v0, args = [v0] ∧ sortA L m v0 = some (v, m') := by
    intro f args L m v m' h
    unfold sortC at h
    split at h
    · rename_i hb
      split at h
      · exact ⟨Nat.eq_of_beq_eq_true hb, _, rfl, h⟩
      · cases h
    · cases h
  have opn2 : ∀ {L : Nat} {m m' : Mem} {v0 v : Value}, sortA L m v0 = some (v, m') → v = .tuple #[] ∧ ((m' = m ∧ ∃ p c, v0 = .slice p 0 c) ∨
      ∃ b o x k c l, v0 = .slice (some ⟨b, o, x⟩) (k + 1) c ∧ k + 1 ≤ 1048576 ∧ rdc m b o (k + 1) = some (intV l) ∧ awr L m b o (intV (isortI l)) = some m') := by
    intro L m m' v0 v h
    unfold sortA at h
    split at h
    · cases h; exact ⟨rfl, .inl ⟨rfl, _, _, rfl⟩⟩
    · split at h
      · cases h; exact ⟨rfl, .inl ⟨rfl, _, _, rfl⟩⟩
      · split at h
        · rename_i hle
          split at h
          · rename_i cs hcs
            split at h
            · rename_i l hl
              split at h
              · rename_i m2 hm2
                cases h
                rw [ints_some hl] at hcs
                exact ⟨rfl, .inr ⟨_, _, _, _, _, l, rfl, Nat.le_of_ble_eq_true hle, hcs, hm2⟩⟩
              · cases h
            · cases h
          · cases h
        · cases h
    · cases h
  refine ⟨fun f args L m v m' hm hL h => ?_, fun f args L m v m' h => ?_, fun f args L m v m' h U ι w cargs hrel hR hLm hU hargs => ?_⟩
  · obtain ⟨_, v0, _, h⟩ := opn _ _ _ _ _ _ h
    obtain ⟨_, ⟨rfl, _⟩ | ⟨b, o, x, k, c, l, _, _, _, ha⟩⟩ := opn2 h
    · exact ⟨Nat.le_refl _, trivial, fun _ _ _ => rfl⟩
    · obtain ⟨hLb, k2, _, _, _, rfl⟩ := awr_some ha
      exact ⟨Nat.le_refl _, trivial, fun c hc _ => Mem.rd_put m b c _ (by omega)⟩
  · obtain ⟨rfl, _⟩ := opn _ _ _ _ _ _ h
    exact hs.body
  · obtain ⟨rfl, v0, rfl, h0⟩ := opn _ _ _ _ _ _ h
    obtain ⟨y, zs, hy, hv, hz⟩ := hargs.inv_cons
    obtain rfl := hz.inv_nil
    obtain rfl : cargs = #[y] := by cases cargs; simp_all
    obtain ⟨rfl, h1⟩ := opn2 h0
    rcases h1 with ⟨rfl, p, c, rfl⟩ | ⟨b, o, x, k, c, l, rfl, hkle, hrd, ha⟩
    · have : ∃ q d, y = .slice q 0 d := by cases hv <;> exact ⟨_, _, rfl⟩
      obtain ⟨q, d, rfl⟩ := this
      refine (hs.none q d w).mono fun e w' ⟨he, hw⟩ => ?_
      subst hw
      exact ⟨_, ι, he, .tuple _ _ rfl (by simp), hrel, Step.refl' _ _ _ _⟩
    · obtain ⟨hLb, kb, hkb, hents, hfit, rfl⟩ := awr_some ha
      obtain ⟨kb2, hkb2, _, hfit2, hcs⟩ := rdc_some hrd
      rw [hkb] at hkb2
      cases hkb2
      have hRb : R ≤ b := Nat.le_trans hR hLb
      have hll : l.length = k + 1 := by
        have := congrArg List.length hcs
        simp only [intV, List.length_map, List.length_take, List.length_drop] at this
        omega
      have hcase : ∃ e d, y = .slice (some ⟨e.cb, e.base + o, none⟩) (k + 1) d ∧ ι b = some e := by
        cases hv with
        | slOpen b o n c e he => exact ⟨e, _, rfl, he⟩
        | slExact b o n c e he => exact ⟨e, _, rfl, he⟩
      obtain ⟨e, d, rfl, he⟩ := hcase
      obtain ⟨cc, t, hheap, hsz⟩ := hrel.own b e kb hRb he hkb hents
      have hcell : ∀ j, j < l.length → w.cell? ⟨e.cb, e.base + o + j, none⟩ = some (.int .i64 l[j]!) := by
        intro j hj
        have h1 : kb.cells[o + j]? = some (.int .i64 l[j]!) := by
          have := congrArg (fun x => x[j]?) hcs
          simp only [intV, List.getElem?_map, List.getElem?_take, List.getElem?_drop] at this
          rw [if_pos (by omega)] at this
          rw [← this]
          simp [hj]
        obtain ⟨u, hu, hc⟩ := hrel.cells b e kb he hkb hents _ _ h1
        cases hu
        rw [Nat.add_assoc]; exact hc
      have hH : Holds (Value.int .i64) w e.cb (e.base + o) l.toArray := by
        intro j hj
        have hj : j < l.length := by simpa using hj
        refine ⟨?_, ?_⟩
        · rw [hcell j hj]; simp
        · simp [World.frozen?, hheap]
      have hcalls := hs.full e.cb (e.base + o) d l w hH (hrel.size b e he) (by omega)
      rw [hll, isortI_merge] at hcalls
      refine hcalls.mono fun en w' ⟨hen, n, os, hw⟩ => ?_
      have hsl : (isortI l).length = k + 1 := by rw [isortI_length]; exact hll
      have hrel2 : Rel G R B U ι m (Sort.ahead w n) := hrel.world rfl
      have hvl : VL ι (intV (isortI l)) (intV (isortI l)) := by
        refine ⟨rfl, fun i a b2 h1 h2 => ?_⟩
        rw [h1] at h2
        cases h2
        simp only [intV, List.getElem?_map, Option.map_eq_some_iff] at h1
        obtain ⟨z, _, rfl⟩ := h1
        exact .int _ _
      have hlen : (intV (isortI l)).length = k + 1 := by simp [intV, hsl]
      obtain ⟨c2, t2, hheap2, hfit3, hrel3, hstep3⟩ := hrel2.write hRb he hkb hents (o := o) (vs := intV (isortI l)) (us := intV (isortI l)) hfit hvl
      have hheap1 : (Sort.ahead w n).heap[e.cb]? = some (.cells cc t (0, 0)) := hheap
      rw [hheap1] at hheap2
      cases hheap2
      have hput := putRow_eq (w := Sort.ahead w n) (cb := e.cb) (o := e.base + o) (c := cc) (t := t) hheap1 (isortI l) (by omega)
      rw [← hput] at hrel3 hstep3
      subst hw
      refine ⟨_, ι, hen, .tuple _ _ rfl (by simp), ?_, ?_⟩
      · have := hrel3.grow os
        rw [List.append_assoc] at this
        exact this
      · have h1 := hstep3 L hLb
        have h2 := (Step.same (L := L) (ι := ι) (m := m) (w := w) (w' := Sort.ahead w n) rfl rfl rfl rfl).trans h1
        have h3 := h2.trans (Step.grow L ι _ _ os)
        rw [List.append_assoc] at h3
        exact h3
/-- The table's entry. -/
def SSort {β : Type} : FnK β := fun _ args L m k => match args with
  | [v] => oRes (sortA L m v) k
  | _ => none
theorem SSort_good {β : Type} {P : Program} {FSl : Nat → List Nat} {G lf : Nat} (g : FuncId) (hgl : g < RB := by exact Nat.le_of_ble_eq_true rfl) : Good (β := β) P FSl G lf (fun f => Nat.beq f g) (sortC g) g SSort := by
  refine .inl ⟨hgl, Nat.beq_refl g, fun cK args L m k r h => ?_⟩
  unfold SSort at h
  split at h
  · rename_i v
    obtain ⟨u, m', h1, h2⟩ := oRes_some h
    exact ⟨u, m', by simp only [sortC, Nat.beq_refl]; exact h1, h2⟩
  · cases h

/-! ### A closed call that was reckoned, at any later memory -/
/-- The tables of m0 lie in m. -/
def TabOk (m0 m : Mem) : Prop := m0.next ≤ m.next ∧ ∀ g, g < m0.next → m.rd g = m0.rd g
theorem TabOk.mono {m0 m m' : Mem} (h : TabOk m0 m) (e : Gt m m') : TabOk m0 m' := ⟨Nat.le_trans h.1 e.next, fun g hg => (e.kept g (Nat.lt_of_lt_of_le hg h.1)).trans (h.2 g hg)⟩
open Classical in
noncomputable def closedA (m0 : Mem) (args : List Value) (m : Mem) : Option (Value × Mem) := match args with
  | [] => if TabOk m0 m then some (.bool true, m) else none
  | _ => none
noncomputable def closedC (m0 : Mem) (g : FuncId) (S : CallT) : CallT := fun f args L m => match Nat.beq f g with
  | true => closedA m0 args m
  | false => S f args L m
/-- Each block of m0 holds plain cells. -/
def plainBlk (k : Option Blk) : Bool := match k with
  | some k => match k.ents with
    | none => plainL k.cells
    | some _ => false
  | none => true
def plainMem (m0 : Mem) : Nat → Bool
  | 0 => true
  | n + 1 => plainBlk (m0.rd n) && plainMem m0 n
theorem plainMem_rd {m0 : Mem} : ∀ {n b : Nat}, plainMem m0 n = true → b < n → plainBlk (m0.rd b) = true
  | n + 1, b, h, hb => by
    simp only [plainMem, Bool.and_eq_true] at h
    by_cases hbn : b = n
    · subst hbn; exact h.1
    · exact plainMem_rd h.2 (by omega)
theorem plainL_get : ∀ {l : List Value} {i : Nat} {v : Value}, plainL l = true → l[i]? = some v → plain v = true
  | [], i, v, _, h => by simp at h
  | a :: l, i, v, hl, h => by
    simp only [plainL, Bool.and_eq_true] at hl
    cases i with
    | zero => simp at h; subst h; exact hl.1
    | succ i => simp at h; exact plainL_get hl.2 h
theorem plain_same {ι : Inj} {v u : Value} (h : VR ι v u) (hp : plain v = true) : u = v := by
  cases h <;> first | rfl | (unfold plain at hp; cases hp; done)
def esG (n : Nat) : List Ent := (List.range n).map fun g => ⟨g, 0, 0⟩
theorem esG_get {n b : Nat} {e : Ent} (h : (esG n)[b]? = some e) : b < n ∧ e = ⟨b, 0, 0⟩ := by
  simp only [esG, List.getElem?_map, Option.map_eq_some_iff] at h
  obtain ⟨a, ha, rfl⟩ := h
  rw [List.getElem?_eq_some_iff] at ha
  obtain ⟨h1, h2⟩ := ha
  simp at h1 h2
  exact ⟨h1, by rw [h2]⟩
theorem rel_tab {G R U U2 : Nat} {B : Base} {ι : Inj} {m m0 : Mem} {w : World} (h : Rel G R B U ι m w) (hG : m0.next = G) (ht : TabOk m0 m) (hp : plainMem m0 G = true) : Rel G m0.next ⟨w, B.lt⟩ U2 (fun b => (esG G)[b]?) m0 w := by
  refine Rel.start (by rw [hG]; simp [esG]) (fun g hg => ?_) (fun b e hb => ?_) (fun b e k hb hk => ?_)
  · simp [esG, hg]
  · obtain ⟨h1, rfl⟩ := esG_get hb
    exact h.size _ _ (h.gl b h1)
  · obtain ⟨h1, rfl⟩ := esG_get hb
    have h2 := plainMem_rd hp h1
    rw [hk] at h2
    have hk2 : m.rd b = some k := by rw [ht.2 b (by omega)]; exact hk
    unfold plainBlk at h2
    simp only [] at h2
    split at h2
    · rename_i he
      refine ⟨he, fun i v hv => ?_⟩
      obtain ⟨u, hu, hc⟩ := h.cells b _ k (h.gl b h1) hk2 he i v hv
      have hpv := plainL_get h2 hv
      have := plain_same hu hpv
      subst this
      exact ⟨_, VR.plain _ hpv, hc⟩
    · cases h2
theorem Rel.stays {G R U : Nat} {B : Base} {ι : Inj} {m : Mem} {w w' : World} (h : Rel G R B U ι m w) (hs : w.heap.size ≤ w'.heap.size) (hb : ∀ k, k < w.heap.size → w'.heap[k]? = w.heap[k]?) : Rel G R B U ι m w' := by
  have hcell : ∀ k o, k < w.heap.size → w'.cell? ⟨k, o, none⟩ = w.cell? ⟨k, o, none⟩ := fun k o hk => by simp [World.cell?, hb k hk]
  refine ⟨h.ok, h.rlt, ⟨Nat.le_trans h.old.size hs, fun k hk => (hb k (Nat.lt_of_lt_of_le hk h.old.size)).trans (h.old.block k hk)⟩, h.gl, h.dom, fun b e hbe => Nat.lt_of_lt_of_le (h.size b e hbe) hs, h.ge, ?_, ?_, h.disj, ?_⟩
  · intro b e k h1 h2 h3 i v hv
    obtain ⟨u, hu, hc⟩ := h.cells b e k h1 h2 h3 i v hv
    exact ⟨u, hu, by rw [hcell _ _ (h.size b e h1)]; exact hc⟩
  · intro b e k h0 h1 h2 h3
    rw [hb _ (h.size b e h1)]
    exact h.own b e k h0 h1 h2 h3
  · intro b e k es h1 h2 h3
    rw [hb _ (h.size b e h1)]
    exact h.maps b e k es h1 h2 h3

theorem closed_ok {P : Program} {FSl : Nat → List Nat} {G R lf n : Nat} {B : Base} {sp : FuncId → Bool} {S S2 : CallT} {t : Bt Unit} {m0 : Mem} {g : FuncId} (hB : B.lt = ltab P FSl) (ht : t.All (Good P FSl G lf sp S)) (hP : Prog P) (hS : ∀ B, FOk P G m0.next B S) (hS2 : FOk P G R B S2)
    (hG : m0.next = G) (hp : plainMem m0 G = true) (hbody : ∃ fn, P.funcs[g]? = some fn ∧ fn.body.isNone = false) (hrun : runT t n g [] m0.next m0 isTrue = some ()) (hgl : g < RB := by exact Nat.le_of_ble_eq_true rfl) : FOk P G R B (closedC m0 g S2) := by
  have opn : ∀ f args L m v m', closedC m0 g S2 f args L m = some (v, m') → S2 f args L m = some (v, m') ∨ (f = g ∧ args = [] ∧ TabOk m0 m ∧ v = .bool true ∧ m' = m) := by
    intro f args L m v m' h
    unfold closedC at h
    split at h
    · rename_i hb
      unfold closedA at h
      split at h
      · split at h
        · rename_i hT; cases h; exact .inr ⟨Nat.eq_of_beq_eq_true hb, rfl, hT, rfl, rfl⟩
        · cases h
      · cases h
    · exact .inl h
  refine ⟨fun f args L m v m' hm hL h => ?_, fun f args L m v m' h => ?_, fun f args L m v m' h U ι w cargs hrel hR hLm hU hargs => ?_⟩
  · rcases opn _ _ _ _ _ _ h with h | ⟨_, _, _, _, rfl⟩
    · exact hS2.ext _ _ _ _ _ _ hm hL h
    · exact ⟨Nat.le_refl _, trivial, fun _ _ _ => rfl⟩
  · rcases opn _ _ _ _ _ _ h with h | ⟨rfl, _⟩
    · exact hS2.fn _ _ _ _ _ _ h
    · exact hbody
  · rcases opn _ _ _ _ _ _ h with h | ⟨rfl, rfl, hT, rfl, rfl⟩
    · exact hS2.ok _ _ _ _ _ _ h _ _ _ _ hrel hR hLm hU hargs
    · have hca : cargs = #[] := by
        have := hargs.inv_nil
        cases cargs; simp_all
      subst hca
      obtain ⟨v, m', h1, h2⟩ := runT_sim ht n _ _ _ _ _ _ hrun
      have hc := callM_ok (G := G) (R := m0.next) (B := ⟨w, B.lt⟩) (sp := sp) (lf := lf) hB (hS _) hP n
      refine (hc.ok _ _ _ _ _ _ hgl h1 m'.next (fun b => (esG G)[b]?) w #[] (rel_tab hrel hG hT hp) (Nat.le_refl _) (Nat.le_refl _) (Nat.le_refl _) (VL.nil _)).mono fun e W' ⟨u, κ, he, g1, g2, g3⟩ => ?_
      unfold isTrue at h2
      split at h2
      · cases g1
        have hblk : ∀ k, k < w.heap.size → W'.heap[k]? = w.heap[k]? := fun k hk => g3.block k hk fun b e h1 h2 => absurd h2 (by omega)
        exact ⟨_, ι, he, .bool _, hrel.stays g3.size hblk, ⟨Inj.le_refl _, fun b _ _ => Nat.lt_or_ge b _, fun b e h h' => (by rw [h] at h'; cases h'), Nat.le_refl _, fun _ _ _ => rfl, g3.os, g3.tape, g3.output, g3.size, fun k hk _ => hblk k hk⟩⟩
      · cases h2
noncomputable def SClosed {β : Type} (m0 : Mem) : FnK β := fun _ args L m k => oRes (closedA m0 args m) k
theorem SClosed_good {β : Type} {P : Program} {FSl : Nat → List Nat} {G lf : Nat} {m0 : Mem} (g : FuncId) (sp : FuncId → Bool) (S : CallT) (hsp : sp g = true) (hgl : g < RB := by exact Nat.le_of_ble_eq_true rfl) : Good (β := β) P FSl G lf sp (closedC m0 g S) g (SClosed m0) := by
  refine .inl ⟨hgl, hsp, fun cK args L m k r h => ?_⟩
  unfold SClosed at h
  obtain ⟨u, m', h1, h2⟩ := oRes_some h
  exact ⟨u, m', by simp only [closedC, Nat.beq_refl]; exact h1, h2⟩
theorem SClosed_sp {m0 m : Mem} {L : Nat} {cK : CallK Unit} {k : Value → Mem → Option Unit} (hT : TabOk m0 m) (hk : k (.bool true) m = some ()) : SClosed m0 cK [] L m k = some () := by
  unfold SClosed closedA
  simp only [if_pos hT, oRes_e]
  exact hk
theorem SSort_good2 {β : Type} {P : Program} {FSl : Nat → List Nat} {G lf : Nat} {m0 : Mem} (f g : FuncId) (sp : FuncId → Bool) (hsp : sp f = true) (hfg : Nat.beq f g = false) (hgl : f < RB := by exact Nat.le_of_ble_eq_true rfl) : Good (β := β) P FSl G lf sp (closedC m0 g (sortC f)) f SSort := by
  rcases SSort_good (β := β) (P := P) (FSl := FSl) (G := G) (lf := lf) f hgl with ⟨_, _, h⟩ | ⟨_, h, _⟩ | ⟨d, hd, _⟩
  · refine .inl ⟨hgl, hsp, fun cK args L m k r hr => ?_⟩
    obtain ⟨v, m', h1, h2⟩ := h _ _ _ _ _ _ hr
    exact ⟨v, m', by simp only [closedC, hfg]; exact h1, h2⟩
  · have h : Nat.beq f f = false := h
    rw [Nat.beq_refl] at h; cases h
  · exact absurd hgl (by rw [hd]; exact Nat.not_lt.2 (Nat.le_add_right _ _))
end Go.Vit
