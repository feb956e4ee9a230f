/- Walking: several grown slices beside each other. -/
import Derived.Test.YtgimcgdehgbljaaVitAA
set_option linter.unusedSimpArgs false
set_option linter.unusedVariables false
namespace Go.Vit
open Go
theorem Gs.append2 {P : Program} {t : TypeId} {sz y L L0 : Nat} {m0 m : Mem} {v x : Value} {n j : Nat} {cs ds : List Value} (ht : aelem P t = some (sz, y)) (h : Gs sz L0 m v n cs) (hx : Sl sz m x j ds) (hj : 0 < j) (ho : allOne ds = true)
    (hr : roomy (n + j) y = true) (hd : ds.length = j * sz) (hL : L ≤ L0) (e : Gt m0 m) (hm : m0.next ≤ L0) : ∃ u m', aappend P L m t v x = some (u, m') ∧ Gs sz m.next m' u (n + j) (cs ++ ds) ∧ Gt m0 m' ∧ m.next ≤ m'.next ∧ ∀ c, c < m.next → bid v ≠ some c → m'.rd c = m.rd c := by
  obtain ⟨u, m', h1, h2, h3, h4⟩ := Gs.append (P := P) (L := L) (m0 := m0) ht h hx hj ho hr hd hL e hm
  refine ⟨u, m', h1, h2, h3, h4, fun c hc hb => ?_⟩
  have hsub : ∃ m1 : Mem, m1.next = m.next ∧ m1.rd c = m.rd c ∧ m' = m1.push ⟨sz, cs ++ ds, none⟩ := by
    obtain ⟨j, rfl⟩ : ∃ i, j = i + 1 := ⟨j - 1, by omega⟩
    rcases h with ⟨rfl, rfl, rfl⟩ | ⟨b, hb', rfl, hr', hl, hn⟩
    · have hr2 : roomy (Nat.succ j) y = true := by simpa using hr
      have h5 : aappend P L m t (.slice none 0 0) x = some (slTo (j + 1) m.next, m.push ⟨sz, ds, none⟩) := by
        unfold aappend
        rw [ht]
        simp only [hx.1, hr2]
        exact anew_eq _ _ _ _
      rw [h5] at h1
      cases h1
      exact ⟨m, rfl, rfl, rfl⟩
    · have hble : Nat.ble (Nat.add n (Nat.succ j)) n = false := by
        cases hb : Nat.ble (Nat.add n (Nat.succ j)) n with
        | false => rfl
        | true => have := Nat.le_of_ble_eq_true hb; simp at this; omega
      have hs : Sl sz m (.slice (some ⟨b, 0, none⟩) n n) n cs := Gs.sl (.inr ⟨b, Nat.le_refl _, rfl, hr', hl, hn⟩)
      have hold : rdc m b 0 (Nat.mul n sz) = some cs := by
        have := hs.1
        cases n with
        | zero => exact absurd hn (by omega)
        | succ n =>
          simp only [asrc] at this
          split at this
          · rename_i q hq; cases this; exact hq
          · cases this
      have hLb : Nat.ble L b = true := by rw [Nat.ble_eq]; omega
      have hnn : Nat.ble n n = true := by rw [Nat.ble_eq]; omega
      have hr2 : roomy (Nat.add n (Nat.succ j)) y = true := hr
      have hq : (Nat.beq sz sz && (Nat.beq (Nat.add 0 (Nat.mul n sz)) cs.length && allOne ds)) = true := by
        have : Nat.beq (Nat.add 0 (Nat.mul n sz)) cs.length = true := by rw [Nat.beq_eq, hl]; simp
        rw [this, ho, Nat.beq_refl]; rfl
      have h5 : aappend P L m t (.slice (some ⟨b, 0, none⟩) n n) x = some (slTo (n + (j + 1)) m.next, (m.put b none).push ⟨sz, cs ++ ds, none⟩) := by
        unfold aappend
        rw [ht]
        simp only [hx.1, natK_eq, hnn, hble, hr2, hold, hLb, hr', hq, anew_eq]
        rfl
      rw [h5] at h1
      cases h1
      exact ⟨m.put b none, rfl, Mem.rd_put _ _ _ _ (fun e => hb (by rw [← e]; rfl)), rfl⟩
  obtain ⟨m1, g1, g2, rfl⟩ := hsub
  rw [(Mem.gt_push m1 _).kept c (by omega), g2]
/-- v and w lie apart. -/
def Apt (v w : Value) : Prop := ∀ c, bid v = some c → bid w ≠ some c
theorem Apt.symm {v w : Value} (h : Apt v w) : Apt w v := fun c hc hv => h c hv hc
theorem Apt.nil (v : Value) : Apt (.slice none 0 0) v := fun c hc => by cases hc
theorem GN.snoc2 {P : Program} {t : TypeId} {y L L0 : Nat} {m0 m : Mem} {v : Value} {l : List Nat} (x : Nat) (ht : aelem P t = some (1, y)) (hy : y ≤ 134217728) (h : GN L0 m v l) (hl : l.length < 1048576) (hL : L ≤ L0) (e : Gt m0 m) (hm : m0.next ≤ L0) :
    ∃ u m', aappend P L (m.push ⟨1, [.int .i64 (x : Int)], none⟩) t v (slTo 1 m.next) = some (u, m') ∧ GN m.next m' u (l ++ [x]) ∧ Gt m0 m' ∧ m.next ≤ m'.next ∧
      (∀ w l' L1, GN L1 m w l' → Apt v w → GN L1 m' w l' ∧ Apt u w) := by
  have h1 : Sl 1 (m.push ⟨1, [.int .i64 (x : Int)], none⟩) (slTo 1 m.next) 1 [.int .i64 (x : Int)] := Gs.sl (L := m.next) (.inr ⟨m.next, Nat.le_refl _, rfl, Mem.rd_push _ _, rfl, by omega⟩)
  have hlc : (ci l).length = l.length := ci_length l
  have gp := Mem.gt_push m ⟨1, [.int .i64 (x : Int)], none⟩
  obtain ⟨u, m', h2, h3, h4, h5, h8⟩ := Gs.append2 (P := P) (L := L) (m0 := m0) ht (Gs.mono h gp) h1 (by omega) rfl (roomy_of (by omega) hy) rfl hL (e.trans gp) hm
  have h6 := gp.next
  have h7 : Gs 1 m.next m' u ((ci l).length + 1) ((ci l).map (Value.int .i64) ++ [.int .i64 (x : Int)]) := Gs.le h3 h6
  have h7' : GN m.next m' u (l ++ [x]) := by
    have hh : ci (l ++ [x]) = ci l ++ [(x : Int)] := by simp [ci]
    unfold GN GL
    rw [hh]
    simpa using h7
  refine ⟨u, m', h2, h7', h4, by omega, fun w l' L1 hw ha => ?_⟩
  rcases hw with ⟨hw1, hw2, hw3⟩ | ⟨b, hb1, hb2, hb3, hb4⟩
  · refine ⟨.inl ⟨hw1, hw2, hw3⟩, fun c _ hc => ?_⟩
    rw [hw1] at hc; cases hc
  · have hb := Mem.rd_lt hb3
    have hbw : bid w = some b := by rw [hb2]; rfl
    refine ⟨.inr ⟨b, hb1, hb2, ?_, hb4⟩, fun c hc hcw => ?_⟩
    · rw [h8 b (by omega) (fun hv => ha b hv hbw), gp.kept b hb, hb3]
    · have := h7'.fr c hc
      rw [hbw] at hcw; cases hcw; omega
end Go.Vit
