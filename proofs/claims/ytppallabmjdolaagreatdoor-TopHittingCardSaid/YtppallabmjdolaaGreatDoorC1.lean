/- Tables of a club: pairs in order; how they are seated by bits. -/
import Derived.Test.YtppallabmjdolaaGreatDoorB12
import Derived.Test.YtppallabmjdolaaGreatDoorCoreD
set_option linter.unusedSimpArgs false
set_option linter.unusedVariables false
set_option maxRecDepth 20000
namespace Go.Vit
open Go Go.Proofs
attribute [local irreducible] runT loopS
def rowTo (B : Nat → Nat → Bool) (a b : Nat) : List (Nat × Nat) := ((List.range b).filter fun x => decide (a < x) && B a x).map fun x => (a, x)
def tabT (n : Nat) (B : Nat → Nat → Bool) : Nat → List (Nat × Nat)
  | 0 => []
  | a + 1 => tabT n B a ++ rowTo B a n
def tabsOf (n : Nat) (B : Nat → Nat → Bool) : List (Nat × Nat) := tabT n B n
theorem rowTo_s (B : Nat → Nat → Bool) (a b : Nat) : rowTo B a (b + 1) = rowTo B a b ++ if decide (a < b) && B a b then [(a, b)] else [] := by
  unfold rowTo
  rw [List.range_succ, List.filter_append, List.map_append]
  congr 1
  cases h : decide (a < b) && B a b <;> simp [h]
theorem rowTo_0 (B : Nat → Nat → Bool) {a b : Nat} (h : b ≤ a + 1) : rowTo B a b = [] := by
  unfold rowTo
  rw [List.map_eq_nil_iff, List.filter_eq_nil_iff]
  intro x hx
  have := List.mem_range.1 hx
  simp; omega
theorem mem_rowTo {B : Nat → Nat → Bool} {a b : Nat} {p : Nat × Nat} : p ∈ rowTo B a b ↔ p.1 = a ∧ a < p.2 ∧ p.2 < b ∧ B a p.2 = true := by
  unfold rowTo
  rw [List.mem_map]
  constructor
  · rintro ⟨x, hx, rfl⟩
    rw [List.mem_filter, List.mem_range] at hx
    simp only [Bool.and_eq_true, decide_eq_true_eq] at hx
    exact ⟨rfl, hx.2.1, hx.1, hx.2.2⟩
  · rintro ⟨h1, h2, h3, h4⟩
    refine ⟨p.2, List.mem_filter.2 ⟨List.mem_range.2 h3, by rw [decide_eq_true h2, h4]; rfl⟩, ?_⟩
    rw [← h1]
theorem mem_tabT {n : Nat} {B : Nat → Nat → Bool} {p : Nat × Nat} : ∀ {a : Nat}, p ∈ tabT n B a ↔ p.1 < a ∧ p.1 < p.2 ∧ p.2 < n ∧ B p.1 p.2 = true
  | 0 => by simp [tabT]
  | a + 1 => by
    show p ∈ tabT n B a ++ rowTo B a n ↔ _
    rw [List.mem_append, mem_tabT, mem_rowTo]
    constructor
    · rintro (⟨h1, h2⟩ | ⟨h1, h2, h3, h4⟩)
      · exact ⟨by omega, h2⟩
      · subst h1; exact ⟨by omega, h2, h3, h4⟩
    · rintro ⟨h1, h2, h3, h4⟩
      by_cases h : p.1 < a
      · exact .inl ⟨h, h2, h3, h4⟩
      · have : p.1 = a := by omega
        subst this
        exact .inr ⟨rfl, h2, h3, h4⟩
theorem tabT_nodup (n : Nat) (B : Nat → Nat → Bool) : ∀ a, (tabT n B a).Nodup
  | 0 => List.nodup_nil
  | a + 1 => by
    show (tabT n B a ++ rowTo B a n).Nodup
    rw [List.nodup_append]
    refine ⟨tabT_nodup n B a, ?_, fun x hx y hy he => ?_⟩
    · unfold rowTo List.Nodup
      rw [List.pairwise_map]
      exact (List.Pairwise.filter _ List.nodup_range).imp fun h he => h (by simpa using he)
    · subst he
      have h1 := (mem_tabT.1 hx).1
      have h2 := (mem_rowTo.1 hy).1
      omega
theorem nodup_le {α : Type} [DecidableEq α] : ∀ {a b : List α}, a.Nodup → (∀ x ∈ a, x ∈ b) → a.length ≤ b.length
  | [], b, _, _ => Nat.zero_le _
  | x :: a, b, hn, h => by
    have hx := h x (by simp)
    have hn2 := List.nodup_cons.1 hn
    have := nodup_le (b := b.erase x) hn2.2 fun y hy => (List.mem_erase_of_ne (fun e => hn2.1 (by rw [← e]; exact hy))).2 (h y (by simp [hy]))
    rw [List.length_erase_of_mem hx] at this
    have hp : 0 < b.length := List.length_pos_of_mem hx
    simp only [List.length_cons]; omega
theorem tabs_all : ((List.range 7).all fun n => Nat.ble (tabT n (fun _ _ => true) n).length 15) = true := by decide +kernel
theorem tabT_len {n a : Nat} (B : Nat → Nat → Bool) (hn : n ≤ 6) (ha : a ≤ n) : (tabT n B a).length ≤ 15 := by
  have h1 := nodup_le (tabT_nodup n B a) (b := tabT n (fun _ _ => true) n) fun p hp => by
    rw [mem_tabT] at hp ⊢
    exact ⟨by omega, hp.2.1, hp.2.2.1, rfl⟩
  have h2 := Nat.le_of_ble_eq_true (List.all_eq_true.1 tabs_all n (List.mem_range.2 (by omega)))
  omega
theorem row_len (B : Nat → Nat → Bool) (a b : Nat) : (rowTo B a b).length ≤ b := by
  unfold rowTo
  rw [List.length_map]
  have := List.length_filter_le (fun x => decide (a < x) && B a x) (List.range b)
  rwa [List.length_range] at this
theorem tabs_congr {n : Nat} {B B' : Nat → Nat → Bool} (h : ∀ a b, a < b → b < n → B a b = B' a b) : ∀ a, tabT n B a = tabT n B' a
  | 0 => rfl
  | a + 1 => by
    show tabT n B a ++ rowTo B a n = tabT n B' a ++ rowTo B' a n
    rw [tabs_congr h a]
    congr 1
    unfold rowTo
    congr 1
    refine List.filter_congr fun x hx => ?_
    have hx := List.mem_range.1 hx
    by_cases ha : a < x
    · rw [h a x ha hx]
    · rw [decide_eq_false ha]; rfl
/-- Where the bits of a row begin. -/
def baseI (n : Nat) : Nat → Nat
  | 0 => 0
  | a + 1 => baseI n a + (n - (a + 1))
theorem base_all : ((List.range 7).all fun n => (List.range (n + 1)).all fun a => Nat.ble (baseI n a) 15) = true := by decide +kernel
theorem base_le {n a : Nat} (hn : n ≤ 6) (ha : a ≤ n) : baseI n a ≤ 15 := Nat.le_of_ble_eq_true (List.all_eq_true.1 (List.all_eq_true.1 base_all n (List.mem_range.2 (by omega))) a (List.mem_range.2 (by omega)))
def setB (n set a b : Nat) : Bool := set.testBit (baseI n a + (b - (a + 1)))
theorem bit01 (x i : Nat) : (x >>> i) &&& 1 = if x.testBit i = true then 1 else 0 := by
  have h : (x.testBit i).toNat = (x >>> i) &&& 1 := by rw [Nat.toNat_testBit, Nat.shiftRight_eq_div_pow, Nat.and_one_is_mod]
  rw [← h]
  cases x.testBit i <;> rfl
theorem shr71 (x i : Nat) (hi : i ≤ 32) : abin Tryz.prog .shr 71 (.int .u32 (x : Int)) (.int .i64 (i : Int)) = some (.int .u32 ((x >>> i : Nat) : Int)) := by
  show ashift .shr .u32 (Int.ofNat x) (Int.ofNat i) = _
  unfold ashift
  rw [show ilt (Int.ofNat i) 0 = false by rw [ilt_e]; exact decide_eq_false (by rw [Int.ofNat_eq_natCast]; omega)]
  show mkI .u32 (ashr (Int.ofNat x) (nmin i 32)) = _
  have : nmin i 32 = i := by unfold nmin; rw [Nat.ble_eq_true_of_le hi]
  rw [this, mkI_e]; rfl
theorem and_u32 {x : Nat} (hx : x < 4294967296) (k : Value → Option Unit) : oInt .and .u32 (.int .u32 (x : Int)) (.int .u32 1) k = k (.int .u32 ((x &&& 1 : Nat) : Int)) := by
  show oOpt (mkI .u32 (abits .and .u32 (Int.ofNat x) (Int.ofNat 1))) k = _
  unfold abits
  have h1 : fits .u32 (Int.ofNat x) = true := by show Nat.blt x 4294967296 = true; simpa using hx
  have h2 : fits .u32 (Int.ofNat 1) = true := rfl
  simp only [h1, h2, Bool.and_self]
  rw [mkI_e, oOpt_e]; rfl
theorem eql_u32 (a b : Int) (k : Value → Option Unit) : oInt .eql .u32 (.int .u32 a) (.int .u32 b) k = k (.bool (decide (a = b))) := by
  show oOpt (aint .eql .u32 a b) k = _
  simp only [aint, ieq_e, mkB_e, oOpt_e]
theorem bu74 (n : Int) : bu Tryz.prog 74 [(0, .int .i64 n)] = some (.agg ⟨[.int .i64 n, .slice none 0 0]⟩) := by kernel_rfl
theorem bu79 (a b : Int) : bu Tryz.prog 79 [(0, .int .i64 a), (1, .int .i64 b)] = some (.agg ⟨[.int .i64 a, .int .i64 b]⟩) := by kernel_rfl
theorem ael72 : aelem Tryz.prog 72 = some (2, 16) := by kernel_rfl
theorem bs72 (m : Mem) (a b : Int) : bs Tryz.prog m 72 1 [(0, .agg ⟨[.int .i64 a, .int .i64 b]⟩)] = some (slTo 1 m.next, m.push ⟨2, [.int .i64 a, .int .i64 b], none⟩) :=
  (show _ = anew m 2 [.int .i64 a, .int .i64 b] (slTo 1) by kernel_rfl).trans (anew_eq ..)
section
variable {lf n L : Nat} {m : Mem} {k : Value → Mem → Option Unit}
/-- A pair is appended to the tables of a plan. -/
theorem addT {pb M0 : Nat} {v : Value} {l : List (Nat × Nat)} {z : Value} {a b : Nat} (hL : L ≤ pb) (hLM : L ≤ M0) (hpM : pb < M0) (hM : M0 ≤ m.next) (hr : m.rd pb = some ⟨1, [z, v], none⟩) (hv : PG M0 m v l) (hl : l.length < 1000)
    {F : Value → Mem → Option Unit} (hk : ∀ u m', m.next ≤ m'.next → (∀ c, c < M0 → c ≠ pb → m'.rd c = m.rd c) → m'.rd pb = some ⟨1, [z, u], none⟩ → PG M0 m' u (l ++ [(a, b)]) → F Go.undef m' = some ()) :
    (oOpt (fa 1 (.pointer (some ⟨pb, 0, none⟩))) fun t36 => oOpt (ld1 m t36) fun t37 => oOpt (bu Tryz.prog 79 [(0, .int .i64 (a : Int)), (1, .int .i64 (b : Int))]) fun t38 => oRes (bs Tryz.prog m 72 1 [(0, t38)]) fun t39 m40 =>
      oRes (aappend Tryz.prog L m40 72 t37 t39) fun t41 m42 => oOpt (fa 1 (.pointer (some ⟨pb, 0, none⟩))) fun t43 => oRes (st1 1 L m42 t43 t41) F) = some () := by
  rw [fa1, oOpt_e, ld2b hr, oOpt_e, bu79, oOpt_e, bs72, oRes_e]
  have ec : Gt ⟨m.tr, M0⟩ m := Mem.cut_gt hM
  obtain ⟨u, m1, h1, h2, h3, h4, h5⟩ := PG.snoc (P := Tryz.prog) (L := L) (L0 := M0) (m0 := ⟨m.tr, M0⟩) (a, b) ael72 (by omega) hv (by omega) hLM ec (Nat.le_refl _)
  have h1' : aappend Tryz.prog L (m.push ⟨2, [.int .i64 (a : Int), .int .i64 (b : Int)], none⟩) 72 v (slTo 1 m.next) = some (u, m1) := h1
  have kp : ∀ c, c < M0 → m1.rd c = m.rd c := fun c hc => (h3.kept c hc).trans (ec.kept c hc).symm
  have hr1 := (kp pb hpM).trans hr
  have hus : ∃ p c, u = .slice p (l ++ [(a, b)]).length c := h2.pl.ex
  obtain ⟨p, c, hu⟩ := hus
  rw [h1', oRes_e, oOpt_e, st2b hr1 hL (by rw [hu]; rfl) (by rw [hu]; rfl), oRes_e]
  refine hk u _ h4 (fun c hc hn => (Mem.rd_put _ _ _ _ (Ne.symm hn)).trans (kp c hc)) (Mem.rd_put_eq _ _ (Mem.rd_lt hr1)) ?_
  exact (h2.keep fun c hc hcm => Mem.rd_put _ _ _ _ (by omega)).le hM
theorem seated_sp {N set : Nat} (hlf : 1000000 ≤ lf) (hL : L ≤ m.next) (hN : N ≤ 6) (hset : set < 4294967296)
    (hk : ∀ v m', Gt m m' → PG m.next m' v (tabsOf N (setB N set)) → k (.agg ⟨[.int .i64 (N : Int), v]⟩) m' = some ()) : runT (tabC lf) (n + 1) 37 [.int .i64 (N : Int), .int .u32 (set : Int)] L m k = some () := by
  rw [r37]; dsimp only [S37, iofNat, inegSucc]
  rw [uc_e, uc_e, un0_e, anew_eq, oRes_e, bu74, oOpt_e]
  have e1 := Mem.gt_push m ⟨1, [.int .i64 0, .slice none 0 0], none⟩
  have q1 := Mem.rd_push m ⟨1, [.int .i64 0, .slice none 0 0], none⟩
  have n1 : (m.push ⟨1, [.int .i64 0, .slice none 0 0], none⟩).next = m.next + 1 := Mem.push_next _ _
  generalize m.push ⟨1, [.int .i64 0, .slice none 0 0], none⟩ = m1 at e1 q1 n1 ⊢
  refine mk2 (by omega) rfl fun m2 e2 q2 n2 => ?_
  have q1 := (e2.kept _ (by omega)).trans q1
  have E2 := e1.trans e2
  obtain ⟨B, hB⟩ : ∃ B, B = setB N set := ⟨_, rfl⟩
  rw [← hB] at hk
  refine loop_up N (fun a vs m' => ∃ v, vs = [.int .i64 (baseI N a : Int), .int .i64 (a : Int)] ∧ GtX (· = m1.next) m2 m' ∧ m'.rd m1.next = some ⟨1, [.int .i64 (N : Int), v], none⟩ ∧ PG m2.next m' v (tabT N B a)) (by omega)
    ⟨_, rfl, GtX.refl _, q2, PG.nil _ _⟩ ?_
  rintro a vs m3 ha ⟨v, rfl, e3, q3, hv⟩ self hself
  have n3 := e3.next
  have q13 := (e3.kept m.next (by omega) (by omega)).trans q1
  rw [uc_e, uc_e, oInt_lss]
  refine oIf_dec (fun hc => ?_) (fun hc => ?_)
  · have haN : a < N := by omega
    have hbl := base_le hN ha
    have hbl2 := base_le hN (show a + 1 ≤ N by omega)
    have hbs : baseI N (a + 1) = baseI N a + (N - (a + 1)) := rfl
    have htl := tabT_len B hN ha
    rw [oInt_add ⟨by omega, by omega⟩]
    refine loop_up (N - (a + 1)) (fun j vs m' => ∃ v, vs = [.int .i64 ((baseI N a + j : Nat) : Int), .int .i64 ((a + 1 + j : Nat) : Int)] ∧ GtX (· = m1.next) m2 m' ∧ m'.rd m1.next = some ⟨1, [.int .i64 (N : Int), v], none⟩ ∧ PG m2.next m' v (tabT N B a ++ rowTo B a (a + 1 + j))) (by omega)
      ⟨v, rfl, e3, q3, by rw [rowTo_0 B (by omega), List.append_nil]; exact hv⟩ ?_
    rintro j vs m4 hj ⟨v4, rfl, e4, q4, hv4⟩ self2 hself2
    have n4 := e4.next
    have hrl := row_len B a (a + 1 + j)
    rw [uc_e, uc_e, oInt_lss]
    refine oIf_dec (fun hc2 => ?_) (fun hc2 => ?_)
    · have hjN : j < N - (a + 1) := by omega
      have hsx : set >>> (baseI N a + j) < 4294967296 := Nat.lt_of_le_of_lt (Nat.shiftRight_le _ _) hset
      have hBj : B a (a + 1 + j) = set.testBit (baseI N a + j) := by
        rw [hB]; unfold setB
        rw [show a + 1 + j - (a + 1) = j by omega]
      rw [shr71 _ _ (by omega), oOpt_e, and_u32 hsx, bit01, eql_u32, join_e]
      rw [show a + 1 + (j + 1) = (a + 1 + j) + 1 by omega, rowTo_s, decide_eq_true (show a < a + 1 + j by omega), Bool.true_and, hBj, ← List.append_assoc] at hself2
      cases hb : set.testBit (baseI N a + j) with
      | true =>
        rw [hb, if_pos rfl] at hself2
        rw [show decide ((((if (true : Bool) = true then 1 else 0 : Nat)) : Int) = 1) = true from rfl, oIf_t]
        refine addT (by omega) (by omega) (by omega) (by omega) q4 hv4 (by rw [List.length_append]; omega) fun u m5 n5 k5 q5 hu => ?_
        dsimp only
        rw [oInt_add ⟨by omega, by omega⟩, oInt_add ⟨by omega, by omega⟩]
        exact hself2 hjN _ _ ⟨u, rfl, ⟨by omega, fun c hc hn => (k5 c hc hn).trans (e4.kept c hc hn)⟩, q5, hu⟩
      | false =>
        rw [hb, if_neg (by simp), List.append_nil] at hself2
        rw [show decide ((((if (false : Bool) = true then 1 else 0 : Nat)) : Int) = 1) = false from rfl, oIf_f]
        dsimp only
        rw [oInt_add ⟨by omega, by omega⟩, oInt_add ⟨by omega, by omega⟩]
        exact hself2 hjN _ _ ⟨v4, rfl, e4, q4, hv4⟩
    · have hjN : j = N - (a + 1) := by omega
      rw [oInt_add ⟨by omega, by omega⟩]
      refine hself haN _ _ ⟨v4, by rw [hbs, hjN]; rfl, e4, q4, ?_⟩
      rw [show a + 1 + j = N by omega] at hv4
      exact hv4
  · have haN : a = N := by omega
    subst haN
    have hn3 : m1.next < m3.next := by omega
    obtain ⟨p, c, hvs⟩ := hv.pl.ex
    rw [ldN2 q3, oOpt_e]
    rw [show ptrTo m.next = .pointer (some ⟨m.next, 0, none⟩) from rfl, st2w q13 hL (by rw [hvs]; rfl), oRes_e]
    have q5 : (m3.put m.next (some ⟨1, [.int .i64 (a : Int), v], none⟩)).rd m.next = some ⟨1, [.int .i64 (a : Int), v], none⟩ := Mem.rd_put_eq _ _ (by omega)
    rw [ldN2 q5, oOpt_e]
    refine hk v _ (Mem.put_gt (GtX.gt E2 e3 fun c hc => by omega) _ (Nat.le_refl _)) ?_
    exact (hv.keep fun c hc hcm => Mem.rd_put _ _ _ _ (by omega)).le (by omega)
end
end Go.Vit
