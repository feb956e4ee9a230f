/- Walks of heaps: the fewest hours. -/
import Derived.Test.YtppallabmjdolaaGreatDoorH2
set_option linter.unusedSimpArgs false
set_option linter.unusedVariables false
set_option maxRecDepth 20000
namespace Go.Vit
open Go Go.Proofs
attribute [local irreducible] runT loopS
theorem minI_e (a b : Int) : abuiltin Tryz.prog .min #[3, 3] [.int .i64 a, .int .i64 b] = some (.int .i64 (min a b)) := by
  show aleast true .i64 a [.int .i64 b] = _
  simp only [aleast, ilt_e]
  by_cases h : b < a
  · rw [decide_eq_true h]; simp only []
    rw [mkI_e, Int.min_eq_right (by omega)]
  · rw [decide_eq_false h]; simp only []
    rw [mkI_e, Int.min_eq_left (by omega)]
theorem minI_k (a b : Nat) : abuiltin Tryz.prog .min #[3, 3] [.int .i64 (a : Int), .int .i64 (b : Int)] = some (.int .i64 ((min a b : Nat) : Int)) := by
  rw [minI_e]
  congr 2
  omega
/-- A cell that closures read. -/
def Cell (q L : Nat) (x : Nat) (m : Mem) : Prop := m.rd q = some ⟨1, [.int .i64 (x : Int)], none⟩ ∧ L ≤ m.next
theorem Cell.mono {q L x : Nat} {m m' : Mem} (h : Cell q L x m) (e : Gt m m') : Cell q L x m' := ⟨(e.kept _ (Mem.rd_lt h.1)).trans h.1, by have := e.next; have := h.2; omega⟩
section
variable {lf n L : Nat} {m : Mem} {k : Value → Mem → Option Unit}
theorem fn131 {q x : Nat} {l : List Hp} : FnH (runT (tabC lf) (n + 3)) (.func (.func 131) #[] ⟨[.pointer (some ⟨q, 0, none⟩)]⟩) L (Cell q L x) l fun h => hasH h x := by
  intro m h k hI hh hk
  rw [oCallV_e (hf := rfl)]
  show runT (tabC lf) (n + 3) 131 [.agg ⟨row2 h⟩, .pointer (some ⟨q, 0, none⟩)] L m k = some ()
  rw [r131]; dsimp only [S131, iofNat, inegSucc]
  rw [uc_e, uc_e, un0_e]
  show (oRes (abox m (.agg ⟨[.int .i64 (h.1 : Int), .int .i64 (h.2 : Int)]⟩)) _) = some ()
  refine bx2 fun m1 e1 q1 n1 => ?_
  rw [ldN2 q1, oOpt_e, ldc ((hI.mono e1).1), oOpt_e]
  exact has75_sp (n := n) fun m2 e2 => hk m2 (e1.trans e2)
theorem fn78 {q x : Nat} {l : List Hp} : FnH (runT (tabC lf) (n + 3)) (.func (.func 78) #[] ⟨[.pointer (some ⟨q, 0, none⟩)]⟩) L (Cell q L x) l fun h => hasH h x := by
  intro m h k hI hh hk
  rw [oCallV_e (hf := rfl)]
  show runT (tabC lf) (n + 3) 78 [.agg ⟨row2 h⟩, .pointer (some ⟨q, 0, none⟩)] L m k = some ()
  rw [r78]; dsimp only [S78, iofNat, inegSucc]
  rw [uc_e, uc_e, un0_e]
  show (oRes (abox m (.agg ⟨[.int .i64 (h.1 : Int), .int .i64 (h.2 : Int)]⟩)) _) = some ()
  refine bx2 fun m1 e1 q1 n1 => ?_
  rw [ldN2 q1, oOpt_e, ldc ((hI.mono e1).1), oOpt_e]
  exact has75_sp (n := n) fun m2 e2 => hk m2 (e1.trans e2)
theorem fn81 {q x : Nat} {l : List Hp} : FnH (runT (tabC lf) (n + 1)) (.func (.func 81) #[] ⟨[.pointer (some ⟨q, 0, none⟩)]⟩) L (Cell q L x) l fun h => decide (h.2 < x) := by
  intro m h k hI hh hk
  rw [oCallV_e (hf := rfl)]
  show runT (tabC lf) (n + 1) 81 [.agg ⟨row2 h⟩, .pointer (some ⟨q, 0, none⟩)] L m k = some ()
  rw [r81]; dsimp only [S81, iofNat, inegSucc]
  rw [uc_e, uc_e, un0_e]
  show (oRes (abox m (.agg ⟨[.int .i64 (h.1 : Int), .int .i64 (h.2 : Int)]⟩)) _) = some ()
  refine bx2 fun m1 e1 q1 n1 => ?_
  rw [fa1, oOpt_e, ld2b q1, oOpt_e, ldc ((hI.mono e1).1), oOpt_e, oInt_lss]
  rw [show decide ((h.2 : Int) < (x : Int)) = decide (h.2 < x) from decide_eq_decide.2 (by omega)]
  exact hk m1 e1
theorem minT_take (l : List Hp) (t i : Nat) (hi : i < l.length) : minT t (l.take (i + 1)) = min (minT t (l.take i)) l[i].2 := by
  have key : ∀ (a : List Hp) (t : Nat) (h : Hp), minT t (a ++ [h]) = min (minT t a) h.2 := by
    intro a
    induction a with
    | nil => intro t h; rfl
    | cons x a ih => intro t h; exact ih (min t x.2) h
  rw [List.take_add_one, List.getElem?_eq_getElem hi]
  exact key _ _ _
theorem meetH_sp {v : Value} {l : List Hp} (hlf : 1000000 ≤ lf) (hL : L ≤ m.next) (hv : PL m v l) (hl : l.length < 1000) (hvd : Vd l) (hk : ∀ m', Gt m m' → k (.int .i64 (meetN l : Int)) m' = some ()) :
    runT (tabC lf) (n + 7) 79 [v] L m k = some () := by
  rw [r79]; dsimp only [S79, iofNat, inegSucc]
  rw [uc_e, un0_e]
  refine clone76_sp hL hv hl fun u m1 e1 hu _ => ?_
  have n1 := e1.next
  have hml : ∀ l : List Hp, Vd l → meetN l ≤ l.length := fun l hv => by
    obtain ⟨D, h1, h2, h3⟩ := apart_ex hv
    rw [← h1]
    refine nodup_le (h3.imp_of_mem fun ha hb hab he => ?_) h2
    have hva := hv _ (h2 _ ha)
    rw [← he] at hab
    rcases hab with h | h <;> omega
  have hbig := hml l hvd
  refine loop_of (n := l.length) (fun μ vs m' => ∃ (u : Value) (g : List Hp) (c : Nat), vs = [u, .int .i64 (c : Int)] ∧ μ = g.length ∧ g.length ≤ l.length ∧ Gt m m' ∧ OW m.next m' u g ∧ Vd g ∧ c + meetN g = meetN l) ?_ ⟨u, l, 0, rfl, rfl, Nat.le_refl _, e1, hu, hvd, Nat.zero_add _⟩ (by omega)
  rintro μ vs m2 ⟨u, g, c, rfl, rfl, hgl, e2, hu, hvg, hc⟩ self hself
  have n2 := e2.next
  rw [uc_e, uc_e, hu.pl.ln, oOpt_e, oInt_gtr]
  refine oIf_dec (fun hpos => ?_) (fun hpos => ?_)
  · have hg0 : 0 < g.length := by omega
    have hne : g ≠ [] := List.length_pos_iff.1 hg0
    have hpl := hu.pl
    obtain ⟨q, hq1, hq2⟩ := hpl.ld1b (i := 0) hg0
    rw [show (Value.int .i64 0) = .int .i64 ((0 : Nat) : Int) from rfl, hpl.ia hg0, oOpt_e, hq1, oOpt_e, hq2, oOpt_e]
    refine mk1 (by omega) rfl rfl fun m3 e3 q3 n3 => ?_
    have hlast : lastT g = minT g[0].2 g := by
      cases g with
      | nil => exact absurd rfl hne
      | cons a g => rfl
    rw [oOpt_e]
    refine loop_up g.length (fun i vs m' => vs = [.int .i64 (i : Int)] ∧ GtX (· = m2.next) m2 m' ∧ m2.next < m'.next ∧ m'.rd m2.next = some ⟨1, [.int .i64 (minT g[0].2 (g.take i) : Int)], none⟩) (by omega) ⟨rfl, GtX.of e3, by omega, q3⟩ ?_
    rintro i vs m4 hi ⟨rfl, e4, n4, q4⟩ self2 hself2
    have hu4 : OW m.next m4 u g := hu.keep fun c hc _ => by
      have := Sl.bid_lt hpl hg0 c hc
      exact e4.kept c this (by omega)
    rw [uc_e, oInt_lss]
    refine oIf_dec (fun hc2 => ?_) (fun hc2 => ?_)
    · have hig : i < g.length := by omega
      rw [hu4.pl.ia hig, oOpt_e, hu4.pl.ldN hig, oOpt_e]
      show (oRes (anew m4 1 [.int .i64 0, .int .i64 0] ptrTo) fun t m' => oRes (st1 2 L m' t (.agg ⟨[.int .i64 (g[i].1 : Int), .int .i64 (g[i].2 : Int)]⟩)) _) = some ()
      refine mk2 (by omega) rfl fun m5 e5 q5 n5 => ?_
      have q45 := (e5.kept _ n4).trans q4
      rw [ldc q45, oOpt_e, fa1, oOpt_e, ld2b q5, oOpt_e, minI_k, oOpt_e, st1c q45 (by omega) rfl rfl, oRes_e, oInt_add ⟨by omega, by omega⟩]
      refine hself2 hig _ _ ⟨rfl, (e4.trans (GtX.of e5)).put rfl _, by show m2.next < m5.next; omega, ?_⟩
      rw [Mem.rd_put_eq _ _ (Mem.rd_lt q45), minT_take g _ i hig]
    · have hig : i = g.length := by omega
      subst hig
      rw [List.take_length, ← hlast] at q4
      have hcell : Cell m2.next L (lastT g) m4 := ⟨q4, by omega⟩
      have hstep := meetN_step hvg hne
      have hlt := left_len hvg hne
      have hvb : ∀ c, bid u = some c → c < m2.next := fun c hc => Sl.bid_lt hpl hg0 c hc
      refine deleteH_sp (n := n + 4) (M0 := m.next) (p := fun h => hasH h (lastT g)) (I := Cell m2.next L (lastT g)) hlf hL (by omega) hu4 (by omega) hcell (fun a b ha hab hk2 => ?_) (fn131 (n := n + 1)) (fn131 (n := n + 2)) fun w m5 n5 k5 hw hb => ?_
      · refine ⟨(hk2 _ (Mem.rd_lt ha.1) fun hc => ?_).trans ha.1, by have := ha.2; omega⟩
        have := hvb _ hc; omega
      · rw [oInt_add ⟨by omega, by omega⟩]
        refine hself _ _ _ hlt ⟨w, left g (lastT g), c + 1, rfl, rfl, by omega, ⟨by omega, fun c' hc' => ?_⟩, hw, hvg.left _, by omega⟩
        have h1 := e4.kept c' (by omega) (by omega)
        exact (k5 c' (by omega) fun hb => by have := hu4.fr c' hb; omega).trans (h1.trans (e2.kept c' hc'))
  · have hg0 : g = [] := List.length_eq_zero_iff.1 (by omega)
    subst hg0
    have h0 : meetN ([] : List Hp) = 0 := rfl
    have := hk m2 e2
    rw [← hc, h0] at this
    exact this
end
end Go.Vit
