/- Arguments: slices of ints as they come in; what stays reads as before. -/
import Derived.Test.YtgimcgdehgbljaaVitZ
import Derived.ChangeStays
import Derived.ChangeFn
import Derived.ReadAgain
import Derived.ChangeSlices
import Derived.Lib.SmallJoins
set_option linter.unusedSimpArgs false
set_option linter.unusedVariables false
namespace Go.Vit
open Go Go.ChangeShapes Go.WideShapes Go.RowKit Go.Joins Go.Deep

/-- A row of cells that came in: read, never written. -/
theorem Rel.addArg {G : Nat} {m : Mem} {W : World} {lt : Nat → Option LInfo} {ι : Inj} (h : ∀ U, Rel G m.next ⟨W, lt⟩ U ι m W) {k : Blk} {e : Ent} (he : k.ents = none) (hb : e.cb < W.heap.size)
    (hc : ∀ (i : Nat) (v : Value), k.cells[i]? = some v → ∃ u, VR ι v u ∧ W.cell? ⟨e.cb, e.base + i, none⟩ = some u) : ∀ U, Rel G (m.push k).next ⟨W, lt⟩ U (ι.upd m.next e) (m.push k) W := by
  intro U
  have hdom : ∀ b e', ι b = some e' → b < m.next := fun b e' hbe => by
    rcases (h (b + 1)).dom b e' hbe with h1 | h1
    · exact h1
    · omega
  have hnone : ι m.next = none := by
    cases hi : ι m.next with
    | none => rfl
    | some e' => have := hdom _ _ hi; omega
  have hle : ι.le (ι.upd m.next e) := Inj.le_upd hnone _
  have hn := Mem.push_next m k
  have h0 := h 0
  have split : ∀ b e', ι.upd m.next e b = some e' → (b = m.next ∧ e' = e) ∨ (b < m.next ∧ ι b = some e') := fun b e' hbe => by
    by_cases hbn : b = m.next
    · subst hbn; rw [Inj.upd_same] at hbe; cases hbe; exact .inl ⟨rfl, rfl⟩
    · rw [Inj.upd_ne _ _ hbn] at hbe; exact .inr ⟨hdom _ _ hbe, hbe⟩
  have low : ∀ b e', ι.upd m.next e b = some e' → b < (m.push k).next := fun b e' hbe => by
    rcases split b e' hbe with ⟨rfl, _⟩ | ⟨h1, _⟩ <;> omega
  refine ⟨trivial, Nat.le_refl _, ⟨Nat.le_refl _, fun _ _ => rfl⟩, fun g hg => hle _ _ (h0.gl g hg), fun b e' hbe => .inl (low b e' hbe), ?_, ?_, ?_, ?_, ?_, ?_⟩
  · intro b e' hbe
    rcases split b e' hbe with ⟨_, rfl⟩ | ⟨_, h1⟩
    · exact hb
    · exact h0.size _ _ h1
  · intro b e' hR hbe; have := low b e' hbe; omega
  · intro b e' k' hbe hk' hn' i v hv
    rcases split b e' hbe with ⟨rfl, rfl⟩ | ⟨hlt, h1⟩
    · rw [Mem.rd_push] at hk'
      cases hk'
      obtain ⟨u, hu, hcu⟩ := hc i v hv
      exact ⟨u, hu.mono hle, hcu⟩
    · rw [Mem.rd_push_lt _ _ hlt] at hk'
      obtain ⟨u, hu, hcu⟩ := h0.cells b e' k' h1 hk' hn' i v hv
      exact ⟨u, hu.mono hle, hcu⟩
  · intro b e' k' hR hbe; have := low b e' hbe; omega
  · intro b b' e1 e2 k1 k2 hR _ hbe; have := low b e1 hbe; omega
  · intro b e' k' es hbe hk' hes
    rcases split b e' hbe with ⟨rfl, rfl⟩ | ⟨hlt, h1⟩
    · rw [Mem.rd_push] at hk'
      cases hk'
      rw [he] at hes; cases hes
    · rw [Mem.rd_push_lt _ _ hlt] at hk'
      exact (h0.maps b e' k' es h1 hk' hes).mono hle

/-- A slice of ints in a world. -/
def IntSlice (W : World) (va : Value) (l : List Int) : Prop := (va = .slice none 0 0 ∧ l = []) ∨
  ∃ b o c, va = .slice (some ⟨b, o, none⟩) l.length c ∧ l.length ≤ c ∧ b < W.heap.size ∧ ∀ (i : Nat) (h : i < l.length), W.cell? ⟨b, o + i, none⟩ = some (.int .i64 l[i])
theorem has_block {P : Program} {w : World} {r : Reach} {base : Nat} {a : Addr} {e : TypeId} {n : Nat} (h : w.has P r base a e n) : a.spot = none ∧ a.block < w.heap.size := by
  obtain ⟨_, h1, row, cells, h2, _⟩ := h
  refine ⟨h1, ?_⟩
  unfold World.shape? at h2
  split at h2
  · rename_i c elem fr hh
    exact (Array.getElem?_eq_some_iff.1 hh).1
  · cases h2
theorem open_islice {H : Type} {enc : TypeId × Value → H} {P : Program} {w : World} {base b0 fuel : Nat} {spare : Nat → Bool} {held : Bool} {r : Reach} {t e : TypeId} {v : Value} {x : DataW H × List MemPlace}
    (ht : P.underlying t = some (.slice e)) (he : P.underlying e = some (.int .i64)) (hc : P.cellsOf e = 1) (hok : Cell.okWide P w r b0 t v) (h : DataW.trod enc P w base spare held fuel t [v] = some x) : ∃ l, IntSlice w v l := by
  rcases open_ints ht he hc h with ⟨h1, _⟩ | ⟨a, len, cap, zs, h1, _, hlc, _, hlen, _, hcells, _⟩
  · cases h1; exact ⟨[], .inl ⟨rfl, rfl⟩⟩
  · cases h1
    have hhas : w.has P r b0 a e cap := by
      simp only [Cell.okWide, ht, Cell.ok] at hok
      exact hok.2.2
    obtain ⟨hsp, hbl⟩ := has_block hhas
    obtain ⟨b, o, s⟩ := a
    obtain rfl : s = none := hsp
    have hle : len ≤ zs.length := by rw [hlen]; split <;> omega
    refine ⟨zs.take len, .inr ⟨b, o, cap, ?_, ?_, hbl, fun i hi => ?_⟩⟩
    · rw [List.length_take, Nat.min_eq_left hle]
    · rw [List.length_take, Nat.min_eq_left hle]; exact hlc
    · rw [List.length_take, Nat.min_eq_left hle] at hi
      have := hcells i (by omega)
      rw [show (Addr.add ⟨b, o, none⟩ i) = ⟨b, o + i, none⟩ by simp [Addr.add]] at this
      rw [this]
      simp [List.getD, show i < zs.length by omega]
/-- A slice that can be cut. -/
def Opn (v : Value) : Prop := v = .slice none 0 0 ∨ ∃ b o x n c, v = .slice (some ⟨b, o, x⟩) n c ∧ n ≤ c ∧ (x = none ∨ x = some 0)
theorem Opn.pre {P : Program} {t e : TypeId} (ht : P.underlying t = some (.slice e)) (hs : tsize P e = some 1) {m : Mem} {v : Value} {l : List Nat} (h : Opn v) (hv : IN m v l) {k : Nat} (hk : k ≤ l.length) (h0 : 0 < l.length) :
    ∃ u, sl P t v none (some (.int .i64 (k : Int))) none = some u ∧ Opn u ∧ IN m u (l.take k) := by
  have hlc : (ci l).length = l.length := ci_length l
  obtain ⟨b, o, x, c, kb, rfl, hr, he, hle, hcs⟩ := Sl.at hv (i := 0) (by omega)
  rw [hlc, Nat.mul_one] at hle hcs
  rw [hlc] at h ⊢
  have hkb : kb = ⟨kb.esz, kb.cells, none⟩ := by cases kb; cases he; rfl
  have hcells : (kb.cells.drop o).take k = (ci (l.take k)).map (Value.int .i64) := by
    have := congrArg (List.take k) hcs
    rw [List.take_take, Nat.min_eq_left hk] at this
    rw [← this]
    unfold ci
    rw [← List.map_take, ← List.map_take]
  rw [hkb] at hr
  rcases h with h | ⟨b', o', x', n', c', h, hc, hx⟩
  · cases h
  · injection h with h1 h2 h3
    injection h1 with h1
    injection h1 with h4 h5 h6
    subst h4; subst h5; subst h6; subst h2; subst h3
    rcases hx with rfl | rfl
    · exact ⟨_, sl_hi ht hs (by omega), .inr ⟨_, _, _, _, _, rfl, by omega, .inl rfl⟩, IL.of hr (by omega) hcells⟩
    · refine ⟨.slice (some ⟨b, o, some 0⟩) k c, ?_, .inr ⟨_, _, _, _, _, rfl, by omega, .inr rfl⟩, IL.of hr (by omega) hcells⟩
      unfold sl aslice
      rw [ht]
      simp only [hs, Option.map_some, Option.map_none]
      have h1 : abound (tri none (some (.int .i64 (k : Int))) none) (some (.tmp 1)) l.length = some k := by
        show anat (.int .i64 (Int.ofNat k)) = _
        simp only [anat, natK_eq]
      have h2 : abounds (tri none (some (.int .i64 (k : Int))) none) l.length c none (some (.tmp 1)) none = some (0, k, c) := by
        unfold abounds
        simp only [abound_none, h1, ble_t (show k ≤ c by omega), ble_t (Nat.zero_le k), ble_t (Nat.le_refl c), Bool.and_self]
      simp only [h2, beq_f (show c ≠ 0 by omega)]
      have e1 : Nat.add o (Nat.mul 0 1) = o := by simp
      have e2 : Nat.sub k 0 = k := rfl
      have e3 : Nat.sub c 0 = c := rfl
      rw [e1, e2, e3]
/-- .. and in the run's memory. -/
theorem IntSlice.start {G : Nat} {m : Mem} {W : World} {lt : Nat → Option LInfo} {ι : Inj} {va : Value} {l : List Int} (h : IntSlice W va l) (hr : ∀ U, Rel G m.next ⟨W, lt⟩ U ι m W) :
    ∃ (m' : Mem) (κ : Inj) (v : Value), (∀ U, Rel G m'.next ⟨W, lt⟩ U κ m' W) ∧ ι.le κ ∧ Gt m m' ∧ VR κ v va ∧ IL m' v l ∧ Opn v := by
  rcases h with ⟨rfl, rfl⟩ | ⟨b, o, c, rfl, hnc, hb, hcells⟩
  · exact ⟨m, ι, _, hr, Inj.le_refl _, Gt.refl _, .nilSlice, IL.nil _, .inl rfl⟩
  · have hnone : ι m.next = none := by
      cases hi : ι m.next with
      | none => rfl
      | some e' =>
        rcases (hr (m.next + 1)).dom _ _ hi with h1 | h1 <;> omega
    refine ⟨m.push ⟨1, intV l, none⟩, ι.upd m.next ⟨b, o, 0⟩, .slice (some ⟨m.next, 0, some 0⟩) l.length c, Rel.addArg hr rfl hb (fun i v hv => ?_), Inj.le_upd hnone _, Mem.gt_push _ _, ?_, ?_⟩
    · simp only [intV, List.getElem?_map, Option.map_eq_some_iff] at hv
      obtain ⟨z, hz, rfl⟩ := hv
      obtain ⟨hi, rfl⟩ := List.getElem?_eq_some_iff.1 hz
      exact ⟨_, .int _ _, hcells i hi⟩
    · exact .slExact m.next 0 l.length c ⟨b, o, 0⟩ (Inj.upd_same _ _ _)
    · have hlen : (intV l).length = l.length := List.length_map _
      exact ⟨IL.of (Mem.rd_push _ _) (by rw [hlen]; omega) (by rw [List.drop_zero, List.take_of_length_le (by rw [hlen]; omega)]; rfl), .inr ⟨_, _, _, _, _, rfl, hnc, .inr rfl⟩⟩

/-! ### What stays reads as before -/
theorem trodAll_stays {H : Type} {enc : TypeId × Value → H} {P : Program} {W W' : World} (hl : laidOutB P = true) (hm : mapsRowed P = true)
    (hz : ((List.range P.types.size).all fun t => match P.underlying t with | some (.slice e) => decide (0 < P.cellsOf e) | _ => true) = true) (hs : Stays W W') {sp : Nat → Bool} :
    ∀ {ts : List TypeId} {vs : List Value} {ds : List (DataW H)} {ps : List MemPlace}, (∀ t ∈ ts, t < P.types.size) → DataW.TrodAll enc P W 0 (fun _ => true) true ts vs ds ps → (∀ p ∈ ps, sp p.block = true) → DataW.TrodAll enc P W' 0 sp true ts vs ds ps
  | [], [], [], _, _, h, _ => h
  | t :: ts, v :: vs, d :: ds, ps, hT, ⟨p, q, ⟨n, h1⟩, h2, e⟩, hsp => by
    have K := kids_rows hl hm
    have hlt := hT t (List.mem_cons_self ..)
    have hdyn : true = false → ∀ u name, P.typeName? 3 u = some name → u < P.types.size := fun h => by cases h
    refine ⟨p, q, ⟨n, DataW.trod_stays K (fun ht hu => slices_full_of P hz _ _ ht hu) hdyn hlt h1 (fun x hx => ?_) (fun x hx => hsp x (by rw [e]; exact List.mem_append_left _ hx))⟩,
      trodAll_stays hl hm hz hs (fun t ht => hT t (List.mem_cons_of_mem _ ht)) h2 (fun x hx => hsp x (by rw [e]; exact List.mem_append_right _ hx)), e⟩
    have hg := DataW.trod_good K hdyn n t _ _ hlt h1 x hx
    cases x with
    | cell b off =>
      obtain ⟨u, hu, _⟩ := hg
      have : b < W.heap.size := by
        unfold World.cell? at hu
        split at hu
        · rename_i hh; exact (Array.getElem?_eq_some_iff.1 hh).1
        · cases hu
      exact hs.cell (a := ⟨b, off, none⟩) this
    | map b =>
      obtain ⟨es, clock, hh⟩ := hg
      exact hs.block b (Array.getElem?_eq_some_iff.1 hh).1
/-- A struct of a number and a slice of ints. -/
theorem open_is2 {H : Type} {enc : TypeId × Value → H} {P : Program} {w : World} {base b0 : Nat} {spare : Nat → Bool} {held : Bool} {r : Reach} {t e : TypeId} {f0 f1 : Field} {v : Value} {d : DataW H} {p : List MemPlace}
    (hs : P.underlying t = some (.struct #[f0, f1])) (hone : oneCellFields P #[f0, f1] = true) (hC : P.cellsOf t = 2) (hT : P.cellTypes P.depth t = some [f0.type, f1.type]) (h0 : P.underlying f0.type = some (.int .i64)) (h1 : P.underlying f1.type = some (.slice e))
    (he : P.underlying e = some (.int .i64)) (hc : P.cellsOf e = 1) (hv : Value.okWide P w r b0 t v) (h : DataW.Trod enc P w base spare held t v d p) :
    ∃ (n : Int) (va : Value) (l : List Int), v = .agg #[.int .i64 n, va] ∧ IntSlice w va l := by
  obtain ⟨v0, v1, y0, y1, n, rfl, _, _, k0, k1⟩ := open_agg2 hs hone hC hv h
  simp only [Value.okWide, hs] at hv
  obtain ⟨cs, hcs, _, ts, hts, _, hrow⟩ := hv
  cases hcs
  rw [hT] at hts
  cases hts
  obtain ⟨u, hu, hok⟩ := hrow 1 v1 rfl
  have : u = f1.type := by simpa using hu.symm
  subst this
  obtain ⟨l, hl⟩ := open_islice h1 he hc hok k1
  obtain ⟨u0, hu0, hok0⟩ := hrow 0 v0 rfl
  have : u0 = f0.type := by simpa using hu0.symm
  subst this
  obtain ⟨z, hz⟩ : ∃ z, v0 = .int .i64 z := by
    simp only [Cell.okWide, h0] at hok0
    cases v0 <;> simp_all [Cell.ok]
  subst hz
  exact ⟨z, v1, l, rfl, hl⟩
/-! ### Structs and arrays of numbers -/
def intsV (ns : List (IntKind × Int)) : List Value := ns.map fun p => .int p.1 p.2
theorem VL.intsV (ι : Inj) (ns : List (IntKind × Int)) : VL ι (intsV ns) (intsV ns).toArray.toList := by
  refine ⟨by simp, fun i v u a b => ?_⟩
  have h : some v = some u := by rw [← a, ← b]
  cases h
  simp only [Vit.intsV, List.getElem?_map, Option.map_eq_some_iff] at a
  obtain ⟨z, _, rfl⟩ := a
  exact .int _ _
def kindsOf (P : Program) : List TypeId → Option (List IntKind)
  | [] => some []
  | t :: ts => match P.underlying t with
    | some (.int k) => match kindsOf P ts with
      | some ks => some (k :: ks)
      | none => none
    | _ => none
def isAggT (P : Program) (t : TypeId) : Bool := match P.underlying t with
  | some (.struct _) => true
  | some (.array _ _) => true
  | _ => false
theorem cells_ints {P : Program} {w : World} {r : Reach} {b0 : Nat} : ∀ {ts : List TypeId} {ks : List IntKind} {cs : List Value}, kindsOf P ts = some ks → cs.length = ts.length → (∀ (i : Nat) v, cs[i]? = some v → ∃ u, ts[i]? = some u ∧ Cell.okWide P w r b0 u v) →
    ∃ ns : List (IntKind × Int), cs = intsV ns ∧ ns.map (·.1) = ks ∧ ∀ p ∈ ns, p.1.has p.2
  | [], ks, [], h, _, _ => by cases h; exact ⟨[], rfl, rfl, fun p hp => by cases hp⟩
  | t :: ts, ks, c :: cs, h, hl, hc => by
    simp only [kindsOf] at h
    split at h
    · rename_i k hk
      split at h
      · rename_i ks' hks
        cases h
        obtain ⟨ns, h1, h2, h3⟩ := cells_ints hks (by simpa using hl) (fun i v hv => hc (i + 1) v hv)
        obtain ⟨u, hu, hok⟩ := hc 0 c rfl
        cases hu
        have : ∃ z, c = .int k z ∧ k.has z := by
          simp only [Cell.okWide, hk] at hok
          cases c <;> simp_all [Cell.ok]
        obtain ⟨z, rfl, hz⟩ := this
        refine ⟨(k, z) :: ns, by rw [h1]; rfl, by rw [← h2]; rfl, fun p hp => ?_⟩
        rcases List.mem_cons.1 hp with rfl | hp
        · exact hz
        · exact h3 p hp
      · cases h
    · cases h
theorem open_agg {P : Program} {w : World} {r : Reach} {b0 : Nat} {t : TypeId} {v : Value} {ts : List TypeId} {ks : List IntKind} (hs : isAggT P t = true) (hT : P.cellTypes P.depth t = some ts) (hC : P.cellsOf t = ts.length) (hks : kindsOf P ts = some ks)
    (hv : Value.okWide P w r b0 t v) : ∃ ns : List (IntKind × Int), v = .agg (intsV ns).toArray ∧ ns.map (·.1) = ks ∧ ∀ p ∈ ns, p.1.has p.2 := by
  have : ∃ cs, v = .agg cs ∧ cs.size = P.cellsOf t ∧ Row.okWide P w r b0 t cs := by
    unfold isAggT at hs
    unfold Value.okWide at hv
    split at hs
    · rename_i fs hu; rw [hu] at hv; exact hv
    · rename_i n e hu; rw [hu] at hv; exact hv
    · cases hs
  obtain ⟨cs, rfl, hsz, ts', hts, _, hrow⟩ := this
  rw [hT] at hts
  cases hts
  obtain ⟨ns, h1, h2, h3⟩ := cells_ints (cs := cs.toList) hks (by simp [hsz, hC]) (fun i v hv => by
    have hi : i < cs.size := by
      rw [Array.getElem?_toList] at hv
      exact (Array.getElem?_eq_some_iff.1 hv).1
    obtain ⟨u, hu, hok⟩ := hrow i v (by rwa [Array.getElem?_toList] at hv)
    rw [Nat.mod_eq_of_lt (by rw [← hC, ← hsz]; exact hi)] at hu
    exact ⟨u, hu, hok⟩)
  exact ⟨ns, by rw [← h1], h2, h3⟩
theorem u8_nat {x : Int} (h : (Lit.int .u8 x).wf = true) : ∃ a : Nat, x = a ∧ a < 256 := by
  have h1 : IntKind.u8.min ≤ x ∧ x ≤ IntKind.u8.max := by simpa [Lit.wf] using h
  have h2 : (0 : Int) ≤ x := h1.1
  have h3 : x ≤ (255 : Int) := h1.2
  exact ⟨x.toNat, by omega, by omega⟩
theorem u8s_of : ∀ {ns : List (IntKind × Int)} {n : Nat}, ns.map (·.1) = List.replicate n .u8 → (∀ p ∈ ns, p.1.has p.2) → ∃ l : List Nat, intsV ns = l.map (fun (g : Nat) => .int .u8 (g : Int)) ∧ l.length = n ∧ ∀ g ∈ l, g < 256
  | [], n, h, _ => ⟨[], rfl, by
      have := congrArg List.length h
      simpa using this, fun g hg => by cases hg⟩
  | (k, x) :: ns, 0, h, _ => by simp at h
  | (k, x) :: ns, n + 1, h, hh => by
    simp only [List.map_cons, List.replicate_succ, List.cons.injEq] at h
    obtain ⟨rfl, h⟩ := h
    obtain ⟨l, h1, h2, h3⟩ := u8s_of h fun p hp => hh p (List.mem_cons_of_mem _ hp)
    have hx := hh (.u8, x) (List.mem_cons_self ..)
    have hx1 : (0 : Int) ≤ x := hx.1
    have hx2 : x ≤ (255 : Int) := hx.2
    obtain ⟨a, rfl⟩ : ∃ a : Nat, x = a := ⟨x.toNat, by omega⟩
    refine ⟨a :: l, ?_, by simp [h2], fun g hg => ?_⟩
    · show Value.int .u8 (a : Int) :: intsV ns = _
      rw [h1]; rfl
    · rcases List.mem_cons.1 hg with rfl | hg
      · omega
      · exact h3 g hg
end Go.Vit
