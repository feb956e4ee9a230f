/- The law TopWaiting: its walk. -/
import Derived.Test.YtppallabmjdolaaDoorE5
import Derived.Test.YtppallabmjdolaaDoorD6
import Derived.Test.YtppallabmjdolaaDoorCoreD
set_option linter.unusedSimpArgs false
set_option linter.unusedVariables false
set_option maxRecDepth 20000
namespace Go.Vit
open Go Go.Proofs
attribute [local irreducible] runT loopS
theorem neqb (b c : Bool) : abin Tryd.prog .neq 4 (.bool b) (.bool c) = some (.bool (b != c)) := by cases b <;> cases c <;> kernel_rfl
/-- A number is appended that lies in a row of its own. -/
theorem GL.snocS {P : Program} {t : TypeId} {y L L0 b : Nat} {m0 m : Mem} {v : Value} {l : List Int} {x : Int} (ht : aelem P t = some (1, y)) (hy : y ≤ 134217728) (h : GL L0 m v l) (hb : m.rd b = some ⟨1, [.int .i64 x], none⟩) (hl : l.length < 1000000) (hL : L ≤ L0) (e : Gt m0 m) (hm : m0.next ≤ L0) :
    ∃ u m', aappend P L m t v (slTo 1 b) = some (u, m') ∧ GL m.next m' u (l ++ [x]) ∧ Gt m0 m' ∧ m.next ≤ m'.next ∧ ∀ c, c < m.next → bid v ≠ some c → m'.rd c = m.rd c := by
  have h1 : Sl 1 m (slTo 1 b) 1 [.int .i64 x] := Gs.sl (L := b) (.inr ⟨b, Nat.le_refl _, rfl, hb, rfl, by omega⟩)
  obtain ⟨u, m', h2, h3, h4, h5, h8⟩ := Gs.append2 (P := P) (L := L) (m0 := m0) ht h h1 (by omega) rfl (roomy_of (by omega) hy) rfl hL e hm
  refine ⟨u, m', h2, ?_, h4, h5, h8⟩
  unfold GL
  rw [show (l ++ [x]).map (Value.int .i64) = l.map (Value.int .i64) ++ [.int .i64 x] by simp, List.length_append]
  exact h3
theorem PG.snocS {P : Program} {t : TypeId} {y L L0 b : Nat} {m0 m : Mem} {v : Value} {l : List Hp} {x : Hp} (ht : aelem P t = some (2, y)) (hy : y ≤ 134217728) (h : PG L0 m v l) (hb : m.rd b = some ⟨2, row2 x, none⟩) (hl : l.length < 1000000) (hL : L ≤ L0) (e : Gt m0 m) (hm : m0.next ≤ L0) :
    ∃ u m', aappend P L m t v (slTo 1 b) = some (u, m') ∧ PG m.next m' u (l ++ [x]) ∧ Gt m0 m' ∧ m.next ≤ m'.next ∧ ∀ c, c < m.next → bid v ≠ some c → m'.rd c = m.rd c := by
  have h1 : Sl 2 m (slTo 1 b) 1 (row2 x) := Gs.sl (L := b) (.inr ⟨b, Nat.le_refl _, rfl, hb, rfl, by omega⟩)
  obtain ⟨u, m', h2, h3, h4, h5, h8⟩ := Gs.append2 (P := P) (L := L) (m0 := m0) ht h h1 (by omega) rfl (roomy_of (by omega) hy) rfl hL e hm
  refine ⟨u, m', h2, ?_, h4, h5, h8⟩
  unfold PG
  rw [pcs_app, List.length_append]
  exact h3
theorem veqL_pcs : ∀ l : List Hp, veqL (pcs l) (pcs l) = true
  | [] => rfl
  | p :: l => by
    show veqL (.int .i64 (p.1 : Int) :: .int .i64 (p.2 : Int) :: pcs l) (.int .i64 (p.1 : Int) :: .int .i64 (p.2 : Int) :: pcs l) = true
    rw [veqL_cons, veqL_cons, veq_int, veq_int, veqL_pcs l]; rfl
theorem oSb_e {m m' : Mem} {b s : Nat} {cs : List Value} {k : Option Unit} (h : m.rd b = some ⟨s, cs, none⟩) (h' : m'.rd b = some ⟨s, cs, none⟩) (hv : veqL cs cs = true) : oSb m m' b k = k := by
  unfold oSb
  rw [h, h', bEq_ss, hv]
theorem oSm_pg {L0 : Nat} {m m' : Mem} {v : Value} {l : List Hp} {i : Nat} {k : Option Unit} (h : PG L0 m v l) (hi : i < l.length) (hk : ∀ c, bid v = some c → m'.rd c = m.rd c) : oSm m m' (ep 2 v i) k = k := by
  rcases h with ⟨rfl, h0, _⟩ | ⟨b, _, rfl, hr, _, _⟩
  · omega
  · show oSm m m' (.pointer (some ⟨b, 0 + i * 2, none⟩)) k = k
    rw [oSm_u, hk b rfl, hr, bEq_ss, veqL_pcs, oIf_t]
theorem hpw_snoc (D : Nat) (w : List Nat) (x : Nat) : hpw D (w ++ [x]) = hpw D w ++ [(x, D)] := by unfold hpw; simp
theorem hpw_get {D i : Nat} {w : List Nat} (hi : i < w.length) (h : i < (hpw D w).length) : (hpw D w)[i] = (w[i], D) := List.getElem_map _
theorem hpw_cap {D e : Nat} (w : List Nat) (h : e ≤ D) : (hpw D w).map (capH e) = hpw e w := by
  unfold hpw capH
  rw [List.map_map]
  refine List.map_congr_left fun x _ => ?_
  show (x, min D e) = (x, e)
  rw [Nat.min_eq_right h]
theorem wL_cnt : ∀ (l : List (Int × Nat)) (s : List Nat × List Int × List Nat × Int × Nat), (l.foldl wS s).1.length ≤ s.1.length + l.length ∧ (l.foldl wS s).2.1.length ≤ s.2.1.length + l.length ∧ (l.foldl wS s).2.2.1.length ≤ s.2.2.1.length + l.length ∧ (l.foldl wS s).2.2.2.2 = s.2.2.2.2 + l.length
  | [], s => ⟨Nat.le_refl _, Nat.le_refl _, Nat.le_refl _, rfl⟩
  | x :: l, s => by
    obtain ⟨h1, h2, h3, h4⟩ := wL_cnt l (wS s x)
    show (l.foldl wS (wS s x)).1.length ≤ _ ∧ (l.foldl wS (wS s x)).2.1.length ≤ _ ∧ (l.foldl wS (wS s x)).2.2.1.length ≤ _ ∧ (l.foldl wS (wS s x)).2.2.2.2 = _
    have e1 : (wS s x).1.length ≤ s.1.length + 1 := by unfold wS; split <;> simp
    have e2 : (wS s x).2.1.length ≤ s.2.1.length + 1 := by unfold wS; split <;> simp
    have e3 : (wS s x).2.2.1.length ≤ s.2.2.1.length + 1 := by unfold wS; split <;> simp
    have e4 : (wS s x).2.2.2.2 = s.2.2.2.2 + 1 := by unfold wS; split <;> rfl
    rw [List.length_cons]
    omega
theorem mem_nodup_nat {l : List Int} (h : l.Nodup) (hg : ∀ x ∈ l, 0 ≤ x) : ci (l.map Int.toNat) = l ∧ (l.map Int.toNat).Nodup := by
  have he : ci (l.map Int.toNat) = l := by
    unfold ci
    rw [List.map_map]
    conv => rhs; rw [← List.map_id l]
    refine List.map_congr_left fun x hx => ?_
    have := hg x hx
    show ((x.toNat : Nat) : Int) = x
    omega
  refine ⟨he, ?_⟩
  rw [← he] at h
  unfold List.Nodup at h ⊢
  unfold ci at h
  rw [List.pairwise_map] at h
  exact h.imp fun hne heq => hne (by rw [heq])
end Go.Vit
