/- Joined: C5 C6. -/
import Derived.Test.YtppallabmjdolaaGreatDoorCovA
import Derived.Test.YtppallabmjdolaaGreatDoorB11
import Derived.Test.YtppallabmjdolaaGreatDoorB12
set_option linter.unusedSimpArgs false
set_option linter.unusedVariables false
set_option maxRecDepth 20000
/- TopCovered: the plain facts of barred sets of tables. -/
namespace Go.Vit
open Go Go.Proofs
def opsOf (N : Nat) (B : Nat → Nat → Bool) : List Nat := (tabsOf N B).map fun p => 2 ^ p.1 ||| 2 ^ p.2
def barL (N : Nat) (B : Nat → Nat → Bool) : List Nat := (List.range (2 ^ N)).filter (mostB (fun g => !mayB (opsOf N B) g) (2 ^ N))
theorem above {P : Nat → Bool} {M : Nat} : ∀ n g, M - g ≤ n → g < M → P g = true → ∃ b, b < M ∧ mostB P M b = true ∧ sub g b = true
  | 0, g, h1, h2, _ => by omega
  | n + 1, g, h1, h2, h3 => by
    by_cases h : ∀ o, o < M → sub g o = true → P o = true → o = g
    · exact ⟨g, h2, mostB_iff.2 ⟨h3, h⟩, sub_refl g⟩
    · have : ∃ o, o < M ∧ sub g o = true ∧ P o = true ∧ o ≠ g := Classical.byContradiction fun hc => h fun o ho hs hp => Classical.byContradiction fun hne => hc ⟨o, ho, hs, hp, hne⟩
      obtain ⟨o, ho, hs, hp, hne⟩ := this
      have hle := sub_le hs
      obtain ⟨b, g1, g2, g3⟩ := above n o (by omega) ho hp
      exact ⟨b, g1, g2, sub_trans hs g3⟩
theorem sub_two {x y g : Nat} : sub (2 ^ x ||| 2 ^ y) g = true ↔ g.testBit x = true ∧ g.testBit y = true := by
  rw [sub_iff]
  constructor
  · intro h
    exact ⟨h x (by rw [Nat.testBit_or, Nat.testBit_two_pow]; simp), h y (by rw [Nat.testBit_or, Nat.testBit_two_pow, Nat.testBit_two_pow]; simp)⟩
  · rintro ⟨h1, h2⟩ i hi
    rw [Nat.testBit_or, Nat.testBit_two_pow, Nat.testBit_two_pow, Bool.or_eq_true, decide_eq_true_eq, decide_eq_true_eq] at hi
    rcases hi with rfl | rfl
    · exact h1
    · exact h2
theorem mayB_ops {N : Nat} {B : Nat → Nat → Bool} {g : Nat} : mayB (opsOf N B) g = true ↔ ∃ x y, x < y ∧ y < N ∧ B x y = true ∧ g.testBit x = true ∧ g.testBit y = true := by
  rw [mayB_iff]
  unfold opsOf
  constructor
  · rintro ⟨o, ho, hs⟩
    obtain ⟨⟨x, y⟩, hp, rfl⟩ := List.mem_map.1 ho
    obtain ⟨_, h2, h3, h4⟩ := mem_tabT.1 hp
    obtain ⟨h5, h6⟩ := sub_two.1 hs
    exact ⟨x, y, h2, h3, h4, h5, h6⟩
  · rintro ⟨x, y, h1, h2, h3, h4, h5⟩
    exact ⟨_, List.mem_map.2 ⟨(x, y), mem_tabT.2 ⟨by show x < N; omega, h1, h2, h3⟩, rfl⟩, sub_two.2 ⟨h4, h5⟩⟩
theorem mem_barL {N : Nat} {B : Nat → Nat → Bool} {b : Nat} : b ∈ barL N B ↔ b < 2 ^ N ∧ mayB (opsOf N B) b = false ∧ ∀ o, o < 2 ^ N → sub b o = true → mayB (opsOf N B) o = false → o = b := by
  unfold barL
  rw [List.mem_filter, List.mem_range, mostB_iff]
  simp only [Bool.not_eq_true']
/-- A set lies in one that is barred, unless it opens. -/
theorem lies_bar {N : Nat} {B : Nat → Nat → Bool} {x : Nat} (hx : x < 2 ^ N) : ((barL N B).any fun b => sub x b) = !mayB (opsOf N B) x := by
  rw [Bool.eq_iff_iff, List.any_eq_true, Bool.not_eq_true']
  constructor
  · rintro ⟨b, hb, hs⟩
    obtain ⟨h1, h2, h3⟩ := mem_barL.1 hb
    cases h : mayB (opsOf N B) x with
    | false => rfl
    | true =>
      obtain ⟨p, q, g1, g2, g3, g4, g5⟩ := mayB_ops.1 h
      have : mayB (opsOf N B) b = true := mayB_ops.2 ⟨p, q, g1, g2, g3, sub_iff.1 hs _ g4, sub_iff.1 hs _ g5⟩
      rw [this] at h2; cases h2
  · intro h
    obtain ⟨b, g1, g2, g3⟩ := above (P := fun g => !mayB (opsOf N B) g) (M := 2 ^ N) (2 ^ N - x) x (Nat.le_refl _) hx (by rw [h]; rfl)
    refine ⟨b, ?_, g3⟩
    unfold barL
    exact List.mem_filter.2 ⟨List.mem_range.2 g1, g2⟩
theorem bar_ne {N : Nat} {B : Nat → Nat → Bool} : 0 < (barL N B).length := by
  have h0 : mayB (opsOf N B) 0 = false := by
    cases h : mayB (opsOf N B) 0 with
    | false => rfl
    | true =>
      obtain ⟨p, q, _, _, _, g4, _⟩ := mayB_ops.1 h
      rw [Nat.zero_testBit] at g4; cases g4
  have := lies_bar (N := N) (B := B) (x := 0) (Nat.pow_pos (by omega))
  rw [h0] at this
  obtain ⟨b, hb, _⟩ := List.any_eq_true.1 this
  exact List.length_pos_of_mem hb
/-- Who sits at no table is in every barred set. -/
theorem bar_alone {N : Nat} {B : Nat → Nat → Bool} {i b : Nat} (hi : i < N) (hb : b ∈ barL N B) (h1 : ∀ j, i < j → j < N → B i j = false) (h2 : ∀ j, j < i → B j i = false) : b.testBit i = true := by
  obtain ⟨g1, g2, g3⟩ := mem_barL.1 hb
  have hlt : b ||| 2 ^ i < 2 ^ N := Nat.or_lt_two_pow g1 (Nat.pow_lt_pow_right (by omega) hi)
  have hm : mayB (opsOf N B) (b ||| 2 ^ i) = false := by
    cases h : mayB (opsOf N B) (b ||| 2 ^ i) with
    | false => rfl
    | true =>
      obtain ⟨x, y, k1, k2, k3, k4, k5⟩ := mayB_ops.1 h
      rw [Nat.testBit_or, Nat.testBit_two_pow, Bool.or_eq_true, decide_eq_true_eq] at k4 k5
      rcases k4 with k4 | rfl
      · rcases k5 with k5 | rfl
        · rw [mayB_ops.2 ⟨x, y, k1, k2, k3, k4, k5⟩] at g2; cases g2
        · rw [h2 x k1] at k3; cases k3
      · rw [h1 y k1 k2] at k3; cases k3
  have := g3 _ hlt (sub_or_left _ _) hm
  rw [← this, Nat.testBit_or, Nat.testBit_two_pow]
  simp
/-- Three who all meet, or of whom none meet. -/
def x3 (a b c : Nat) : Nat := 2 ^ a ||| 2 ^ b ||| 2 ^ c
theorem x3_bit (a b c i : Nat) : (x3 a b c).testBit i = true ↔ i = a ∨ i = b ∨ i = c := by
  unfold x3
  rw [Nat.testBit_or, Nat.testBit_or, Nat.testBit_two_pow, Nat.testBit_two_pow, Nat.testBit_two_pow]
  simp only [Bool.or_eq_true, decide_eq_true_eq]
  omega
theorem x3_lt {a b c N : Nat} (ha : a < N) (hb : b < N) (hc : c < N) : x3 a b c < 2 ^ N :=
  Nat.or_lt_two_pow (Nat.or_lt_two_pow (Nat.pow_lt_pow_right (by omega) ha) (Nat.pow_lt_pow_right (by omega) hb)) (Nat.pow_lt_pow_right (by omega) hc)
theorem may_x3 {N : Nat} {B : Nat → Nat → Bool} {a b c : Nat} (h1 : c < b) (h2 : b < a) (h3 : a < N) : mayB (opsOf N B) (x3 a b c) = (B c b || B c a || B b a) := by
  rw [Bool.eq_iff_iff, mayB_ops]
  simp only [Bool.or_eq_true, x3_bit]
  constructor
  · rintro ⟨x, y, g1, g2, g3, g4, g5⟩
    rcases g4 with rfl | rfl | rfl <;> rcases g5 with rfl | rfl | rfl <;> first | omega | (simp [g3]; done)
  · rintro ((h | h) | h)
    · exact ⟨c, b, h1, by omega, h, .inr (.inr rfl), .inr (.inl rfl)⟩
    · exact ⟨c, a, by omega, by omega, h, .inr (.inr rfl), .inl rfl⟩
    · exact ⟨b, a, h2, h3, h, .inr (.inl rfl), .inl rfl⟩
theorem mono_bar {N : Nat} {B : Nat → Nat → Bool} {r : List Nat} (h : RoomOf N (tabsOf N B) r) {a b c : Nat} (h1 : c < b) (h2 : b < a) (h3 : a < N) :
    (!mayB (opsOf N B) (x3 a b c) || !mayB (opsOf N fun x y => !B x y) (x3 a b c)) = monoB r a b c := by
  rw [may_x3 h1 h2 h3, may_x3 h1 h2 h3]
  have key : ∀ x y, x < y → y < N → (r.getD y 0).testBit x = B x y := fun x y hxy hy => by
    rw [room_get h tabs_tidy]
    have n1 : ¬ (y, x) ∈ tabsOf N B := fun hm => by have := (mem_tabT.1 hm).2.1; simp at this; omega
    rw [decide_eq_false n1, Bool.false_or, Bool.eq_iff_iff, decide_eq_true_eq]
    exact ⟨fun hm => (mem_tabT.1 hm).2.2.2, fun hb => mem_tabT.2 ⟨by show x < N; omega, hxy, hy, hb⟩⟩
  unfold monoB
  rw [key b a h2 h3, key c a (by omega) h3, key c b h1 (by omega)]
  cases B c b <;> cases B c a <;> cases B b a <;> rfl
/-- Of how many a sitter is one. -/
theorem pop0 {x : Nat} (hx : x < 64) (h : pop x = 0) (j : Nat) : x.testBit j = false := by
  have hb := pop_bits ⟨x, hx⟩
  simp only [] at hb
  rw [h] at hb
  cases hj : x.testBit j with
  | false => rfl
  | true =>
    have hj6 : j < 6 := by
      refine Classical.byContradiction fun hc => ?_
      have : x < 2 ^ j := Nat.lt_of_lt_of_le hx (Nat.pow_le_pow_right (n := 2) (i := 6) (by omega) (by omega))
      rw [Nat.testBit_lt_two_pow this] at hj; cases hj
    have := List.length_pos_of_mem (List.mem_filter.2 ⟨List.mem_range.2 hj6, hj⟩ : j ∈ (List.range 6).filter fun i => x.testBit i)
    omega
theorem popAll {x N i : Nat} (hN : N ≤ 6) (hi : i < N) (hx : ∀ j, x.testBit j = true → j < N ∧ j ≠ i) (h : pop x + 1 = N) {j : Nat} (hj : j < N) (hji : j ≠ i) : x.testBit j = true := by
  have hx64 : x < 64 := Nat.lt_of_lt_of_le (lt_bits fun j h => (hx j h).1) (Nat.pow_le_pow_right (n := 2) (j := 6) (by omega) hN)
  have hb := pop_bits ⟨x, hx64⟩
  simp only [] at hb
  cases hc : x.testBit j with
  | true => rfl
  | false =>
    have := nodup_le (a := j :: i :: (List.range 6).filter fun i => x.testBit i) (b := List.range N) (by
      rw [List.nodup_cons, List.nodup_cons]
      refine ⟨fun hm => ?_, fun hm => ?_, List.Pairwise.filter _ List.nodup_range⟩
      · rcases List.mem_cons.1 hm with rfl | hm
        · exact hji rfl
        · rw [(List.mem_filter.1 hm).2] at hc; cases hc
      · exact (hx i (List.mem_filter.1 hm).2).2 rfl) fun y hy => by
        rw [List.mem_range]
        rcases List.mem_cons.1 hy with rfl | hy
        · exact hj
        · rcases List.mem_cons.1 hy with rfl | hy
          · exact hi
          · exact (hx y (List.mem_filter.1 hy).2).1
    rw [List.length_cons, List.length_cons, List.length_range] at this
    omega
theorem room_bits {N : Nat} {B : Nat → Nat → Bool} {r : List Nat} (h : RoomOf N (tabsOf N B) r) {i : Nat} (hi : i < N) : (∀ j, i < j → j < N → (r.getD i 0).testBit j = B i j) ∧ (∀ j, j < i → (r.getD i 0).testBit j = B j i) ∧ ∀ j, (r.getD i 0).testBit j = true → j < N ∧ j ≠ i := by
  refine ⟨fun j h1 h2 => room_bit h h1 h2, fun j hj => ?_, fun j hj => ?_⟩
  · rw [room_get h tabs_tidy]
    have n1 : ¬ (i, j) ∈ tabsOf N B := fun hm => by have := (mem_tabT.1 hm).2.1; simp at this; omega
    rw [decide_eq_false n1, Bool.false_or, Bool.eq_iff_iff, decide_eq_true_eq]
    exact ⟨fun hm => (mem_tabT.1 hm).2.2.2, fun hb => mem_tabT.2 ⟨by show j < N; omega, hj, hi, hb⟩⟩
  · rw [room_get h tabs_tidy, Bool.or_eq_true, decide_eq_true_eq, decide_eq_true_eq] at hj
    rcases hj with hj | hj <;> (have := tabs_tidy _ hj; simp only [] at this; omega)
/-- The two checks of the law: no sitter without tables is left out. -/
theorem bar_none {N : Nat} {B : Nat → Nat → Bool} {r : List Nat} (hN : N ≤ 6) (h : RoomOf N (tabsOf N B) r) {i b : Nat} (hi : i < N) (hb : b ∈ barL N B) (hp : pop (r.getD i 0) = 0) : b.testBit i = true := by
  obtain ⟨h1, h2, h3⟩ := room_bits h hi
  have hx : r.getD i 0 < 64 := Nat.lt_of_lt_of_le (lt_bits fun j h => (h3 j h).1) (Nat.pow_le_pow_right (n := 2) (j := 6) (by omega) hN)
  refine bar_alone hi hb (fun j g1 g2 => ?_) (fun j g1 => ?_)
  · rw [← h1 j g1 g2]; exact pop0 hx hp j
  · rw [← h2 j g1]; exact pop0 hx hp j
theorem bar_full {N : Nat} {B : Nat → Nat → Bool} {r : List Nat} (hN : N ≤ 6) (h : RoomOf N (tabsOf N B) r) {i b : Nat} (hi : i < N) (hb : b ∈ barL N fun x y => !B x y) (hp : pop (r.getD i 0) + 1 = N) : b.testBit i = true := by
  obtain ⟨h1, h2, h3⟩ := room_bits h hi
  refine bar_alone hi hb (fun j g1 g2 => ?_) (fun j g1 => ?_)
  · rw [← h1 j g1 g2, popAll hN hi h3 hp g2 (by omega)]; rfl
  · rw [← h2 j g1, popAll hN hi h3 hp (by omega) (by omega)]; rfl
end Go.Vit

/- TopCovered: tidy tables, their barred sets, who lies in one. -/
namespace Go.Vit
open Go Go.Proofs
attribute [local irreducible] runT loopS
theorem cshl3 (i : Nat) (hi : i < 62) : abin Tryz.prog .shl 3 (.int .i64 1) (.int .i64 (i : Int)) = some (.int .i64 ((2 ^ i : Nat) : Int)) := by
  show ashift .shl .i64 (Int.ofNat 1) (Int.ofNat i) = _
  unfold ashift
  rw [show ilt (Int.ofNat i) 0 = false by rw [ilt_e]; exact decide_eq_false (by rw [Int.ofNat_eq_natCast]; omega)]
  show mkI .i64 (fwrap .i64 (Int.ofNat (Nat.shiftLeft 1 (nmin i 64)))) = _
  have h1 : nmin i 64 = i := by unfold nmin; rw [Nat.ble_eq_true_of_le (by omega)]
  have h2 : Nat.shiftLeft 1 i = 2 ^ i := by rw [show Nat.shiftLeft 1 i = 1 * 2 ^ i from Nat.shiftLeft_eq 1 i, Nat.one_mul]
  have h3 : 2 ^ i < 2 ^ 63 := Nat.pow_lt_pow_right (by omega) (by omega)
  have h4 : (2 : Nat) ^ 63 = 9223372036854775808 := by decide
  rw [h1, h2]
  unfold fwrap
  rw [fits_nat (by omega), mkI_e]; rfl
def enc2 (p : Nat × Nat) : Nat := 2 ^ p.1 ||| 2 ^ p.2
theorem enc2_lt {N : Nat} {B : Nat → Nat → Bool} {p : Nat × Nat} (h : p ∈ tabsOf N B) : enc2 p < 2 ^ N := by
  have h2 : p.1 < p.2 ∧ p.2 < N := tabs_tidy p h
  exact Nat.or_lt_two_pow (Nat.pow_lt_pow_right (by omega) (by omega)) (Nat.pow_lt_pow_right (by omega) h2.2)
theorem cnn_ci (l : List Nat) : nn (ci l) = l := by
  unfold nn ci
  rw [List.map_map]
  conv => rhs; rw [← List.map_id l]
  exact List.map_congr_left fun x _ => rfl
theorem chk_ops {N : Nat} {B : Nat → Nat → Bool} (h1 : 1 ≤ N) (hN : N ≤ 6) : chk N (ci (opsOf N B)) = 0 := by
  have hlen := tabT_len B hN (Nat.le_refl N)
  have hol : (opsOf N B).length ≤ 15 := by unfold opsOf tabsOf; rw [List.length_map]; exact hlen
  unfold chk
  rw [if_pos (by omega), ci_length, if_neg (by omega), if_neg]
  rw [List.any_eq_true]
  rintro ⟨x, hx, hx2⟩
  obtain ⟨y, hy, rfl⟩ := List.mem_map.1 hx
  obtain ⟨p, hp, rfl⟩ := List.mem_map.1 hy
  have hlt : enc2 p < 2 ^ N := enc2_lt hp
  rw [Bool.not_eq_true', decide_eq_false_iff_not] at hx2
  apply hx2
  have hpow : ((2 ^ N : Nat) : Int) = (2 : Int) ^ (N : Int).toNat := by rw [Int.toNat_natCast]; exact Int.natCast_pow 2 N
  have hle : ((enc2 p : Nat) : Int) < ((2 ^ N : Nat) : Int) := by exact_mod_cast hlt
  refine ⟨Int.natCast_nonneg _, ?_⟩
  show ((enc2 p : Nat) : Int) ≤ _
  omega
theorem barred_ops {N : Nat} {B : Nat → Nat → Bool} (h1 : 1 ≤ N) (hN : N ≤ 6) : barredX N (ci (opsOf N B)) = barL N B := by
  unfold barredX barL
  rw [if_pos (chk_ops h1 hN), cnn_ci, Int.toNat_natCast]
section
variable {lf n L : Nat} {m : Mem} {k : Value → Mem → Option Unit}
theorem tidy39_sp {N : Nat} {v : Value} {B : Nat → Nat → Bool} (hlf : 1000000 ≤ lf) (hL : L ≤ m.next) (h1 : 1 ≤ N) (hN : N ≤ 6) (hv : PL m v (tabsOf N B)) (hk : ∀ m', Gt m m' → k (.bool true) m' = some ()) :
    runT (tabC lf) (n + 1) 39 [.agg ⟨[.int .i64 (N : Int), v]⟩, .int .i64 (N : Int)] L m k = some () := by
  rw [r39]; dsimp only [S39, iofNat, inegSucc]
  have hlen : (tabsOf N B).length ≤ 15 := tabT_len B hN (Nat.le_refl N)
  rw [uc_e, uc_e, un0_e]
  refine bx2 fun m1 e1 q1 n1 => ?_
  have hv1 := hv.mono e1
  rw [fa1, oOpt_e, ld2b q1, oOpt_e, hv1.ln, oOpt_e]
  refine loop_up (tabsOf N B).length (fun i vs m' => vs = [.int .i64 (i : Int)] ∧ Gt m1 m') (by omega) ⟨rfl, Gt.refl _⟩ ?_
  rintro i vs m2 hi ⟨rfl, e2⟩ self hself
  have n2 := e2.next
  have hv2 := hv1.mono e2
  have q2 := (e2.kept _ (by omega)).trans q1
  rw [uc_e, oInt_lss]
  refine oIf_dec (fun hc => ?_) (fun hc => ?_)
  · have hil : i < (tabsOf N B).length := by omega
    have hp := tabs_tidy _ (List.getElem_mem hil)
    rw [hv2.ia hil, oOpt_e, hv2.ldN hil, oOpt_e]
    obtain ⟨p, hpe⟩ : ∃ p, p = (tabsOf N B)[i] := ⟨_, rfl⟩
    rw [← hpe] at hp ⊢
    refine mk2 (by omega) rfl fun m3 e3 q3 n3 => ?_
    rw [iaA0, oOpt_e, ld2a q3, oOpt_e, oInt_lss, decide_eq_false (by omega)]
    (try dsimp only)
    rw [join_e, oGF_f]
    repeat (first | rw [oOpt_e] | rw [ld2a q3] | rw [ld2b q3] | rw [iaA0] | rw [iaA1])
    rw [oInt_leq, decide_eq_false (by omega)]
    (try dsimp only)
    rw [uc_e, oPick_f]
    (try dsimp only)
    rw [join_e, oGF_f]
    repeat (first | rw [oOpt_e] | rw [ld2a q3] | rw [ld2b q3] | rw [iaA0] | rw [iaA1])
    rw [oInt_geq, decide_eq_false (by omega)]
    (try dsimp only)
    rw [uc_e, oPick_f, oIf_f, oInt_add ⟨by omega, by omega⟩]
    exact hself hil _ _ ⟨rfl, e2.trans e3⟩
  · rw [fa0, oOpt_e, ld2a q2, oOpt_e, oInt_eql, decide_eq_true rfl]
    (try dsimp only)
    rw [join_e, oGT_t]
    repeat (first | rw [oOpt_e] | rw [ld2b q2] | rw [fa1])
    rw [hv2.ln, oOpt_e, oInt_leq, decide_eq_true (by omega)]
    (try dsimp only)
    rw [uc_e, oPick_t]
    exact hk _ (e1.trans e2)
theorem closure40_sp {N pb : Nat} {v : Value} {B : Nat → Nat → Bool} (hlf : 1000000 ≤ lf) (hL : L ≤ m.next) (h1 : 1 ≤ N) (hN : N ≤ 6) (hv : PL m v (tabsOf N B)) (hp : m.rd pb = some ⟨1, [.int .i64 (N : Int)], none⟩)
    (hk : ∀ u m', Gt m m' → IN m' u (barL N B) → k (.tuple ⟨[u, .bool true]⟩) m' = some ()) :
    runT (tabC lf) (n + 9) 40 [.agg ⟨[.int .i64 (N : Int), v]⟩, .pointer (some ⟨pb, 0, none⟩)] L m k = some () := by
  rw [r40]; dsimp only [S40, iofNat, inegSucc]
  have hlen : (tabsOf N B).length ≤ 15 := tabT_len B hN (Nat.le_refl N)
  have hpb := Mem.rd_lt hp
  rw [uc_e, uc_e, un0_e]
  refine bx2 fun m1 e1 q1 n1 => ?_
  have hp1 := (e1.kept _ hpb).trans hp
  rw [ldc hp1, oOpt_e, bu241, oOpt_e]
  refine mk2 (by omega) rfl fun m2 e2 q2 n2 => ?_
  have E2 := e1.trans e2
  have q12 := (e2.kept _ (by omega)).trans q1
  have hv2 := hv.mono E2
  rw [fa1, oOpt_e, ld2b q12, oOpt_e, hv2.ln, oOpt_e]
  refine loop_up (tabsOf N B).length (fun i vs m' => ∃ lv, vs = [.int .i64 (i : Int)] ∧ GtX (· = m1.next) m2 m' ∧ m'.rd m1.next = some ⟨1, [.int .i64 (N : Int), lv], none⟩ ∧ GN m2.next m' lv (((tabsOf N B).take i).map enc2)) (by omega) ⟨_, rfl, GtX.refl _, q2, GN.nil _ _⟩ ?_
  rintro i vs m3 hi ⟨lv, rfl, e3, q3, hlv⟩ self hself
  have n3 := e3.next
  have E3 : Gt m m3 := GtX.gt E2 e3 fun c hc => by subst hc; omega
  have hv3 := hv.mono E3
  rw [uc_e, oInt_lss]
  refine oIf_dec (fun hc => ?_) (fun hc => ?_)
  · have hil : i < (tabsOf N B).length := by omega
    have htk : (((tabsOf N B).take (i + 1)).map enc2) = ((tabsOf N B).take i).map enc2 ++ [enc2 (tabsOf N B)[i]] := by
      rw [List.take_add_one, List.getElem?_eq_getElem hil, List.map_append]; rfl
    rw [htk] at hself
    have hpt := tabs_tidy _ (List.getElem_mem hil)
    have hlt := enc2_lt (List.getElem_mem hil)
    rw [hv3.ia hil, oOpt_e, hv3.ldN hil, oOpt_e]
    obtain ⟨p, hpe⟩ : ∃ p, p = (tabsOf N B)[i] := ⟨_, rfl⟩
    rw [← hpe] at hpt hself hlt ⊢
    have h64 : 2 ^ N ≤ 64 := Nat.le_trans (Nat.pow_le_pow_right (by omega) hN) (by decide)
    refine mk2 (by omega) rfl fun m4 e4 q4 n4 => ?_
    have q34 := (e4.kept _ (by omega)).trans q3
    have p1 : 2 ^ p.1 < 64 := Nat.pow_lt_pow_right (n := 6) (by omega) (by omega)
    have p2 : 2 ^ p.2 < 64 := Nat.pow_lt_pow_right (n := 6) (by omega) (by omega)
    obtain ⟨lp, lc, hls⟩ := hlv.ex
    have qp : (m4.push ⟨1, [.int .i64 ((enc2 p : Nat) : Int)], none⟩).rd m1.next = some ⟨1, [.int .i64 (N : Int), lv], none⟩ := (Mem.rd_push_lt _ _ (by omega)).trans q34
    rw [fa1, oOpt_e, ld2b q34, oOpt_e, iaA0, oOpt_e, ld2a q4, oOpt_e, cshl3 _ (by omega), oOpt_e, iaA1, oOpt_e, ld2b q4, oOpt_e, cshl3 _ (by omega), oOpt_e, oInt_or (by omega) (by omega)]
    rw [show ((2 ^ p.1 ||| 2 ^ p.2 : Nat) : Int) = ((enc2 p : Nat) : Int) from rfl, bs22, oRes_e, oSm_u, q34, qp, bEq_ss, veqL_cons, veq_int, veqL_cons, hls, veq_slice, veqL_nil, Bool.and_self, Bool.and_self, oIf_t]
    rw [← hls]
    have hlv4 := hlv.mono e4
    have ec7 : Gt ⟨m4.tr, m2.next⟩ m4 := Mem.cut_gt (by omega)
    obtain ⟨z, m8, g1, g2, g3, g4, g5⟩ := GL.snocV (P := Tryz.prog) (L := L) (L0 := m2.next) (m0 := ⟨m4.tr, m2.next⟩) ((enc2 p : Nat) : Int) ael22 (by omega) hlv4 (by rw [ci_length, List.length_map, List.length_take]; omega) (by omega) ec7 (Nat.le_refl _)
    have hz : ci (((tabsOf N B).take i).map enc2) ++ [((enc2 p : Nat) : Int)] = ci (((tabsOf N B).take i).map enc2 ++ [enc2 p]) := by unfold ci; simp
    rw [hz] at g2
    have g2 : GN m4.next m8 z (((tabsOf N B).take i).map enc2 ++ [enc2 p]) := g2
    have hlb : ∀ c, bid lv = some c → m2.next ≤ c := fun c hc => hlv.fr c hc
    have q8 : m8.rd m1.next = some ⟨1, [.int .i64 (N : Int), lv], none⟩ := (g5 _ (by omega) fun hb => by have := hlb _ hb; omega).trans q34
    obtain ⟨zp, zc, hzs⟩ := g2.ex
    rw [g1, oRes_e, oOpt_e, st2b q8 (by omega) (by rw [hzs]; rfl) (by rw [hzs]; rfl), oRes_e, oInt_add ⟨by omega, by omega⟩]
    refine hself hil _ _ ⟨z, rfl, ⟨by show m2.next ≤ m8.next; omega, fun c hc hn => ?_⟩, Mem.rd_put_eq _ _ (Mem.rd_lt q8), ?_⟩
    · rw [Mem.rd_put _ _ _ _ (Ne.symm hn), g5 c (by omega) fun hb => (by have := hlb c hb; omega), e4.kept c (by omega)]
      exact e3.kept c hc hn
    · exact (GL.keep g2 fun c hc hcm => Mem.rd_put _ _ _ _ (by omega)).le (by omega)
  · have hil : i = (tabsOf N B).length := by omega
    clear hself
    rw [hil, List.take_length] at hlv
    have hls : IL m3 lv (ci (opsOf N B)) := hlv.inn
    rw [ldN2 q3, oOpt_e]
    refine barred1_sp (h := N) hlf (by omega) hls fun u m4 e4 hu => ?_
    rw [barred_ops h1 hN] at hu
    rw [chk_ops h1 hN]
    simp only [aextract_e, List.getElem?_cons_zero, List.getElem?_cons_succ, oOpt_e]
    have hne := bar_ne (N := N) (B := B)
    rw [oInt_eql, decide_eq_true rfl]
    (try dsimp only)
    rw [join_e, oGT_t, hu.ln, oOpt_e, oInt_gtr, decide_eq_true (by omega)]
    (try dsimp only)
    rw [uc_e, oPick_t]
    exact hk u m4 (E3.trans e4) hu
theorem lies42_sp {x : Nat} {u : Value} {l : List Nat} (hlf : 1000000 ≤ lf) (hL : L ≤ m.next) (hu : IN m u l) (hx : x < 64) (hlt : ∀ b ∈ l, b < 64) (hl : l.length < 1000000) (hk : ∀ m', Gt m m' → k (.bool (l.any fun b => sub x b)) m' = some ()) :
    runT (tabC lf) (n + 4) 42 [.int .i64 (x : Int), u] L m k = some () := by
  rw [r42]; dsimp only [S42, iofNat, inegSucc]
  rw [uc_e, uc_e, un0_e]
  refine bx1 rfl fun m1 e1 q1 n1 => ?_
  refine containsFunc_sp (p := fun b => sub x b.toNat) hlf (hu.mono e1) (by rw [ci_length]; exact hl) (fun m2 y k2 e2 hy hk2 => ?_) fun m2 e2 => ?_
  · obtain ⟨b, hb, rfl⟩ := List.mem_map.1 hy
    have hb64 := hlt b hb
    show oCallV (runT (tabC lf) (n + 1)) (.func (.func 44) #[] ⟨[.pointer (some ⟨m.next, 0, none⟩)]⟩) [.int .i64 (b : Int)] L m2 k2 = some ()
    have q2 := (e2.kept _ (by omega)).trans q1
    unfold oCallV
    show runT (tabC lf) (n + 1) 44 [.int .i64 (b : Int), .pointer (some ⟨m.next, 0, none⟩)] L m2 k2 = some ()
    rw [r44]; dsimp only [S44, iofNat, inegSucc]
    rw [uc_e, uc_e, un0_e, ldc q2, oOpt_e, oInt_and (by omega) (by omega), oOpt_e, oInt_eql]
    have := hk2 m2 (Gt.refl _)
    dsimp only at this
    rw [Int.toNat_natCast] at this
    rw [show decide (((b &&& x : Nat) : Int) = (x : Int)) = sub x b by unfold sub; rw [Nat.and_comm]; exact decide_eq_decide.2 (by omega)]
    exact this
  · have h5 : ((ci l).any fun b => sub x b.toNat) = l.any fun b => sub x b := by
      unfold ci
      rw [List.any_map]; rfl
    rw [h5]
    exact hk m2 (e1.trans e2)
end
end Go.Vit

