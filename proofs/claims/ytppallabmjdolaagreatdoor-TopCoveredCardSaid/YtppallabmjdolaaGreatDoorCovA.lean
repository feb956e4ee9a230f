/- Joined: C1 C2 C3 C4. -/
import Derived.Test.YtppallabmjdolaaGreatDoorB12
import Derived.Test.YtppallabmjdolaaGreatDoorCoreD
set_option linter.unusedSimpArgs false
set_option linter.unusedVariables false
set_option maxRecDepth 20000
/- Tables of a club: pairs in order; how they are seated by bits. -/
namespace Go.Vit
open Go Go.Proofs
attribute [local irreducible] runT loopS
def rowTo (B : Nat → Nat → Bool) (a b : Nat) : List (Nat × Nat) := ((List.range b).filter fun x => decide (a < x) && B a x).map fun x => (a, x)
def tabT (n : Nat) (B : Nat → Nat → Bool) : Nat → List (Nat × Nat)
  | 0 => []
  | a + 1 => tabT n B a ++ rowTo B a n
def tabsOf (n : Nat) (B : Nat → Nat → Bool) : List (Nat × Nat) := tabT n B n
theorem rowTo_s (B : Nat → Nat → Bool) (a b : Nat) : rowTo B a (b + 1) = rowTo B a b ++ if decide (a < b) && B a b then [(a, b)] else [] := by
  unfold rowTo
  rw [List.range_succ, List.filter_append, List.map_append]
  congr 1
  cases h : decide (a < b) && B a b <;> simp [h]
theorem rowTo_0 (B : Nat → Nat → Bool) {a b : Nat} (h : b ≤ a + 1) : rowTo B a b = [] := by
  unfold rowTo
  rw [List.map_eq_nil_iff, List.filter_eq_nil_iff]
  intro x hx
  have := List.mem_range.1 hx
  simp; omega
theorem mem_rowTo {B : Nat → Nat → Bool} {a b : Nat} {p : Nat × Nat} : p ∈ rowTo B a b ↔ p.1 = a ∧ a < p.2 ∧ p.2 < b ∧ B a p.2 = true := by
  unfold rowTo
  rw [List.mem_map]
  constructor
  · rintro ⟨x, hx, rfl⟩
    rw [List.mem_filter, List.mem_range] at hx
    simp only [Bool.and_eq_true, decide_eq_true_eq] at hx
    exact ⟨rfl, hx.2.1, hx.1, hx.2.2⟩
  · rintro ⟨h1, h2, h3, h4⟩
    refine ⟨p.2, List.mem_filter.2 ⟨List.mem_range.2 h3, by rw [decide_eq_true h2, h4]; rfl⟩, ?_⟩
    rw [← h1]
theorem mem_tabT {n : Nat} {B : Nat → Nat → Bool} {p : Nat × Nat} : ∀ {a : Nat}, p ∈ tabT n B a ↔ p.1 < a ∧ p.1 < p.2 ∧ p.2 < n ∧ B p.1 p.2 = true
  | 0 => by simp [tabT]
  | a + 1 => by
    show p ∈ tabT n B a ++ rowTo B a n ↔ _
    rw [List.mem_append, mem_tabT, mem_rowTo]
    constructor
    · rintro (⟨h1, h2⟩ | ⟨h1, h2, h3, h4⟩)
      · exact ⟨by omega, h2⟩
      · subst h1; exact ⟨by omega, h2, h3, h4⟩
    · rintro ⟨h1, h2, h3, h4⟩
      by_cases h : p.1 < a
      · exact .inl ⟨h, h2, h3, h4⟩
      · have : p.1 = a := by omega
        subst this
        exact .inr ⟨rfl, h2, h3, h4⟩
theorem tabT_nodup (n : Nat) (B : Nat → Nat → Bool) : ∀ a, (tabT n B a).Nodup
  | 0 => List.nodup_nil
  | a + 1 => by
    show (tabT n B a ++ rowTo B a n).Nodup
    rw [List.nodup_append]
    refine ⟨tabT_nodup n B a, ?_, fun x hx y hy he => ?_⟩
    · unfold rowTo List.Nodup
      rw [List.pairwise_map]
      exact (List.Pairwise.filter _ List.nodup_range).imp fun h he => h (by simpa using he)
    · subst he
      have h1 := (mem_tabT.1 hx).1
      have h2 := (mem_rowTo.1 hy).1
      omega
theorem nodup_le {α : Type} [DecidableEq α] : ∀ {a b : List α}, a.Nodup → (∀ x ∈ a, x ∈ b) → a.length ≤ b.length
  | [], b, _, _ => Nat.zero_le _
  | x :: a, b, hn, h => by
    have hx := h x (by simp)
    have hn2 := List.nodup_cons.1 hn
    have := nodup_le (b := b.erase x) hn2.2 fun y hy => (List.mem_erase_of_ne (fun e => hn2.1 (by rw [← e]; exact hy))).2 (h y (by simp [hy]))
    rw [List.length_erase_of_mem hx] at this
    have hp : 0 < b.length := List.length_pos_of_mem hx
    simp only [List.length_cons]; omega
theorem tabs_all : ((List.range 7).all fun n => Nat.ble (tabT n (fun _ _ => true) n).length 15) = true := by decide +kernel
theorem tabT_len {n a : Nat} (B : Nat → Nat → Bool) (hn : n ≤ 6) (ha : a ≤ n) : (tabT n B a).length ≤ 15 := by
  have h1 := nodup_le (tabT_nodup n B a) (b := tabT n (fun _ _ => true) n) fun p hp => by
    rw [mem_tabT] at hp ⊢
    exact ⟨by omega, hp.2.1, hp.2.2.1, rfl⟩
  have h2 := Nat.le_of_ble_eq_true (List.all_eq_true.1 tabs_all n (List.mem_range.2 (by omega)))
  omega
theorem row_len (B : Nat → Nat → Bool) (a b : Nat) : (rowTo B a b).length ≤ b := by
  unfold rowTo
  rw [List.length_map]
  have := List.length_filter_le (fun x => decide (a < x) && B a x) (List.range b)
  rwa [List.length_range] at this
theorem tabs_congr {n : Nat} {B B' : Nat → Nat → Bool} (h : ∀ a b, a < b → b < n → B a b = B' a b) : ∀ a, tabT n B a = tabT n B' a
  | 0 => rfl
  | a + 1 => by
    show tabT n B a ++ rowTo B a n = tabT n B' a ++ rowTo B' a n
    rw [tabs_congr h a]
    congr 1
    unfold rowTo
    congr 1
    refine List.filter_congr fun x hx => ?_
    have hx := List.mem_range.1 hx
    by_cases ha : a < x
    · rw [h a x ha hx]
    · rw [decide_eq_false ha]; rfl
/-- Where the bits of a row begin. -/
def baseI (n : Nat) : Nat → Nat
  | 0 => 0
  | a + 1 => baseI n a + (n - (a + 1))
theorem base_all : ((List.range 7).all fun n => (List.range (n + 1)).all fun a => Nat.ble (baseI n a) 15) = true := by decide +kernel
theorem base_le {n a : Nat} (hn : n ≤ 6) (ha : a ≤ n) : baseI n a ≤ 15 := Nat.le_of_ble_eq_true (List.all_eq_true.1 (List.all_eq_true.1 base_all n (List.mem_range.2 (by omega))) a (List.mem_range.2 (by omega)))
def setB (n set a b : Nat) : Bool := set.testBit (baseI n a + (b - (a + 1)))
theorem bit01 (x i : Nat) : (x >>> i) &&& 1 = if x.testBit i = true then 1 else 0 := by
  have h : (x.testBit i).toNat = (x >>> i) &&& 1 := by rw [Nat.toNat_testBit, Nat.shiftRight_eq_div_pow, Nat.and_one_is_mod]
  rw [← h]
  cases x.testBit i <;> rfl
theorem shr71 (x i : Nat) (hi : i ≤ 32) : abin Tryz.prog .shr 71 (.int .u32 (x : Int)) (.int .i64 (i : Int)) = some (.int .u32 ((x >>> i : Nat) : Int)) := by
  show ashift .shr .u32 (Int.ofNat x) (Int.ofNat i) = _
  unfold ashift
  rw [show ilt (Int.ofNat i) 0 = false by rw [ilt_e]; exact decide_eq_false (by rw [Int.ofNat_eq_natCast]; omega)]
  show mkI .u32 (ashr (Int.ofNat x) (nmin i 32)) = _
  have : nmin i 32 = i := by unfold nmin; rw [Nat.ble_eq_true_of_le hi]
  rw [this, mkI_e]; rfl
theorem and_u32 {x : Nat} (hx : x < 4294967296) (k : Value → Option Unit) : oInt .and .u32 (.int .u32 (x : Int)) (.int .u32 1) k = k (.int .u32 ((x &&& 1 : Nat) : Int)) := by
  show oOpt (mkI .u32 (abits .and .u32 (Int.ofNat x) (Int.ofNat 1))) k = _
  unfold abits
  have h1 : fits .u32 (Int.ofNat x) = true := by show Nat.blt x 4294967296 = true; simpa using hx
  have h2 : fits .u32 (Int.ofNat 1) = true := rfl
  simp only [h1, h2, Bool.and_self]
  rw [mkI_e, oOpt_e]; rfl
theorem eql_u32 (a b : Int) (k : Value → Option Unit) : oInt .eql .u32 (.int .u32 a) (.int .u32 b) k = k (.bool (decide (a = b))) := by
  show oOpt (aint .eql .u32 a b) k = _
  simp only [aint, ieq_e, mkB_e, oOpt_e]
theorem bu74 (n : Int) : bu Tryz.prog 74 [(0, .int .i64 n)] = some (.agg ⟨[.int .i64 n, .slice none 0 0]⟩) := by kernel_rfl
theorem bu79 (a b : Int) : bu Tryz.prog 79 [(0, .int .i64 a), (1, .int .i64 b)] = some (.agg ⟨[.int .i64 a, .int .i64 b]⟩) := by kernel_rfl
theorem ael72 : aelem Tryz.prog 72 = some (2, 16) := by kernel_rfl
theorem bs72 (m : Mem) (a b : Int) : bs Tryz.prog m 72 1 [(0, .agg ⟨[.int .i64 a, .int .i64 b]⟩)] = some (slTo 1 m.next, m.push ⟨2, [.int .i64 a, .int .i64 b], none⟩) :=
  (show _ = anew m 2 [.int .i64 a, .int .i64 b] (slTo 1) by kernel_rfl).trans (anew_eq ..)
section
variable {lf n L : Nat} {m : Mem} {k : Value → Mem → Option Unit}
/-- A pair is appended to the tables of a plan. -/
theorem addT {pb M0 : Nat} {v : Value} {l : List (Nat × Nat)} {z : Value} {a b : Nat} (hL : L ≤ pb) (hLM : L ≤ M0) (hpM : pb < M0) (hM : M0 ≤ m.next) (hr : m.rd pb = some ⟨1, [z, v], none⟩) (hv : PG M0 m v l) (hl : l.length < 1000)
    {F : Value → Mem → Option Unit} (hk : ∀ u m', m.next ≤ m'.next → (∀ c, c < M0 → c ≠ pb → m'.rd c = m.rd c) → m'.rd pb = some ⟨1, [z, u], none⟩ → PG M0 m' u (l ++ [(a, b)]) → F Go.undef m' = some ()) :
    (oOpt (fa 1 (.pointer (some ⟨pb, 0, none⟩))) fun t36 => oOpt (ld1 m t36) fun t37 => oOpt (bu Tryz.prog 79 [(0, .int .i64 (a : Int)), (1, .int .i64 (b : Int))]) fun t38 => oRes (bs Tryz.prog m 72 1 [(0, t38)]) fun t39 m40 =>
      oRes (aappend Tryz.prog L m40 72 t37 t39) fun t41 m42 => oOpt (fa 1 (.pointer (some ⟨pb, 0, none⟩))) fun t43 => oRes (st1 1 L m42 t43 t41) F) = some () := by
  rw [fa1, oOpt_e, ld2b hr, oOpt_e, bu79, oOpt_e, bs72, oRes_e]
  have ec : Gt ⟨m.tr, M0⟩ m := Mem.cut_gt hM
  obtain ⟨u, m1, h1, h2, h3, h4, h5⟩ := PG.snoc (P := Tryz.prog) (L := L) (L0 := M0) (m0 := ⟨m.tr, M0⟩) (a, b) ael72 (by omega) hv (by omega) hLM ec (Nat.le_refl _)
  have h1' : aappend Tryz.prog L (m.push ⟨2, [.int .i64 (a : Int), .int .i64 (b : Int)], none⟩) 72 v (slTo 1 m.next) = some (u, m1) := h1
  have kp : ∀ c, c < M0 → m1.rd c = m.rd c := fun c hc => (h3.kept c hc).trans (ec.kept c hc).symm
  have hr1 := (kp pb hpM).trans hr
  have hus : ∃ p c, u = .slice p (l ++ [(a, b)]).length c := h2.pl.ex
  obtain ⟨p, c, hu⟩ := hus
  rw [h1', oRes_e, oOpt_e, st2b hr1 hL (by rw [hu]; rfl) (by rw [hu]; rfl), oRes_e]
  refine hk u _ h4 (fun c hc hn => (Mem.rd_put _ _ _ _ (Ne.symm hn)).trans (kp c hc)) (Mem.rd_put_eq _ _ (Mem.rd_lt hr1)) ?_
  exact (h2.keep fun c hc hcm => Mem.rd_put _ _ _ _ (by omega)).le hM
theorem seated_sp {N set : Nat} (hlf : 1000000 ≤ lf) (hL : L ≤ m.next) (hN : N ≤ 6) (hset : set < 4294967296)
    (hk : ∀ v m', Gt m m' → PG m.next m' v (tabsOf N (setB N set)) → k (.agg ⟨[.int .i64 (N : Int), v]⟩) m' = some ()) : runT (tabC lf) (n + 1) 37 [.int .i64 (N : Int), .int .u32 (set : Int)] L m k = some () := by
  rw [r37]; dsimp only [S37, iofNat, inegSucc]
  rw [uc_e, uc_e, un0_e, anew_eq, oRes_e, bu74, oOpt_e]
  have e1 := Mem.gt_push m ⟨1, [.int .i64 0, .slice none 0 0], none⟩
  have q1 := Mem.rd_push m ⟨1, [.int .i64 0, .slice none 0 0], none⟩
  have n1 : (m.push ⟨1, [.int .i64 0, .slice none 0 0], none⟩).next = m.next + 1 := Mem.push_next _ _
  generalize m.push ⟨1, [.int .i64 0, .slice none 0 0], none⟩ = m1 at e1 q1 n1 ⊢
  refine mk2 (by omega) rfl fun m2 e2 q2 n2 => ?_
  have q1 := (e2.kept _ (by omega)).trans q1
  have E2 := e1.trans e2
  obtain ⟨B, hB⟩ : ∃ B, B = setB N set := ⟨_, rfl⟩
  rw [← hB] at hk
  refine loop_up N (fun a vs m' => ∃ v, vs = [.int .i64 (baseI N a : Int), .int .i64 (a : Int)] ∧ GtX (· = m1.next) m2 m' ∧ m'.rd m1.next = some ⟨1, [.int .i64 (N : Int), v], none⟩ ∧ PG m2.next m' v (tabT N B a)) (by omega)
    ⟨_, rfl, GtX.refl _, q2, PG.nil _ _⟩ ?_
  rintro a vs m3 ha ⟨v, rfl, e3, q3, hv⟩ self hself
  have n3 := e3.next
  have q13 := (e3.kept m.next (by omega) (by omega)).trans q1
  rw [uc_e, uc_e, oInt_lss]
  refine oIf_dec (fun hc => ?_) (fun hc => ?_)
  · have haN : a < N := by omega
    have hbl := base_le hN ha
    have hbl2 := base_le hN (show a + 1 ≤ N by omega)
    have hbs : baseI N (a + 1) = baseI N a + (N - (a + 1)) := rfl
    have htl := tabT_len B hN ha
    rw [oInt_add ⟨by omega, by omega⟩]
    refine loop_up (N - (a + 1)) (fun j vs m' => ∃ v, vs = [.int .i64 ((baseI N a + j : Nat) : Int), .int .i64 ((a + 1 + j : Nat) : Int)] ∧ GtX (· = m1.next) m2 m' ∧ m'.rd m1.next = some ⟨1, [.int .i64 (N : Int), v], none⟩ ∧ PG m2.next m' v (tabT N B a ++ rowTo B a (a + 1 + j))) (by omega)
      ⟨v, rfl, e3, q3, by rw [rowTo_0 B (by omega), List.append_nil]; exact hv⟩ ?_
    rintro j vs m4 hj ⟨v4, rfl, e4, q4, hv4⟩ self2 hself2
    have n4 := e4.next
    have hrl := row_len B a (a + 1 + j)
    rw [uc_e, uc_e, oInt_lss]
    refine oIf_dec (fun hc2 => ?_) (fun hc2 => ?_)
    · have hjN : j < N - (a + 1) := by omega
      have hsx : set >>> (baseI N a + j) < 4294967296 := Nat.lt_of_le_of_lt (Nat.shiftRight_le _ _) hset
      have hBj : B a (a + 1 + j) = set.testBit (baseI N a + j) := by
        rw [hB]; unfold setB
        rw [show a + 1 + j - (a + 1) = j by omega]
      rw [shr71 _ _ (by omega), oOpt_e, and_u32 hsx, bit01, eql_u32, join_e]
      rw [show a + 1 + (j + 1) = (a + 1 + j) + 1 by omega, rowTo_s, decide_eq_true (show a < a + 1 + j by omega), Bool.true_and, hBj, ← List.append_assoc] at hself2
      cases hb : set.testBit (baseI N a + j) with
      | true =>
        rw [hb, if_pos rfl] at hself2
        rw [show decide ((((if (true : Bool) = true then 1 else 0 : Nat)) : Int) = 1) = true from rfl, oIf_t]
        refine addT (by omega) (by omega) (by omega) (by omega) q4 hv4 (by rw [List.length_append]; omega) fun u m5 n5 k5 q5 hu => ?_
        dsimp only
        rw [oInt_add ⟨by omega, by omega⟩, oInt_add ⟨by omega, by omega⟩]
        exact hself2 hjN _ _ ⟨u, rfl, ⟨by omega, fun c hc hn => (k5 c hc hn).trans (e4.kept c hc hn)⟩, q5, hu⟩
      | false =>
        rw [hb, if_neg (by simp), List.append_nil] at hself2
        rw [show decide ((((if (false : Bool) = true then 1 else 0 : Nat)) : Int) = 1) = false from rfl, oIf_f]
        dsimp only
        rw [oInt_add ⟨by omega, by omega⟩, oInt_add ⟨by omega, by omega⟩]
        exact hself2 hjN _ _ ⟨v4, rfl, e4, q4, hv4⟩
    · have hjN : j = N - (a + 1) := by omega
      rw [oInt_add ⟨by omega, by omega⟩]
      refine hself haN _ _ ⟨v4, by rw [hbs, hjN]; rfl, e4, q4, ?_⟩
      rw [show a + 1 + j = N by omega] at hv4
      exact hv4
  · have haN : a = N := by omega
    subst haN
    have hn3 : m1.next < m3.next := by omega
    obtain ⟨p, c, hvs⟩ := hv.pl.ex
    rw [ldN2 q3, oOpt_e]
    rw [show ptrTo m.next = .pointer (some ⟨m.next, 0, none⟩) from rfl, st2w q13 hL (by rw [hvs]; rfl), oRes_e]
    have q5 : (m3.put m.next (some ⟨1, [.int .i64 (a : Int), v], none⟩)).rd m.next = some ⟨1, [.int .i64 (a : Int), v], none⟩ := Mem.rd_put_eq _ _ (by omega)
    rw [ldN2 q5, oOpt_e]
    refine hk v _ (Mem.put_gt (GtX.gt E2 e3 fun c hc => by omega) _ (Nat.le_refl _)) ?_
    exact (hv.keep fun c hc hcm => Mem.rd_put _ _ _ _ (by omega)).le (by omega)
end
end Go.Vit

/- Rooms of a club: a bit for each who sits with one. -/
namespace Go.Vit
open Go Go.Proofs
attribute [local irreducible] runT loopS
def ucs (r : List Nat) : List Value := r.map fun (x : Nat) => .int .u64 (x : Int)
theorem ucs_len (r : List Nat) : (ucs r).length = r.length := List.length_map _
theorem ucs_get {r : List Nat} {i : Nat} (h : i < r.length) : (ucs r)[i]? = some (.int .u64 (r[i] : Int)) := by
  unfold ucs
  rw [List.getElem?_map, List.getElem?_eq_getElem h]; rfl
theorem ucs_set (r : List Nat) (i x : Nat) : (ucs r).set i (.int .u64 (x : Int)) = ucs (r.set i x) := by
  unfold ucs; rw [List.map_set]
theorem shr95 (x i : Nat) (hi : i ≤ 64) : abin Tryz.prog .shr 95 (.int .u64 (x : Int)) (.int .i64 (i : Int)) = some (.int .u64 ((x >>> i : Nat) : Int)) := by
  show ashift .shr .u64 (Int.ofNat x) (Int.ofNat i) = _
  unfold ashift
  rw [show ilt (Int.ofNat i) 0 = false by rw [ilt_e]; exact decide_eq_false (by rw [Int.ofNat_eq_natCast]; omega)]
  show mkI .u64 (ashr (Int.ofNat x) (nmin i 64)) = _
  have : nmin i 64 = i := by unfold nmin; rw [Nat.ble_eq_true_of_le hi]
  rw [this, mkI_e]; rfl
theorem fits_u64 {x : Nat} (h : x < 18446744073709551616) : fits .u64 (Int.ofNat x) = true := by
  show Nat.blt x 18446744073709551616 = true
  simpa using h
theorem shl95 (i : Nat) (hi : i < 64) : abin Tryz.prog .shl 95 (.int .u64 1) (.int .i64 (i : Int)) = some (.int .u64 ((2 ^ i : Nat) : Int)) := by
  show ashift .shl .u64 (Int.ofNat 1) (Int.ofNat i) = _
  unfold ashift
  rw [show ilt (Int.ofNat i) 0 = false by rw [ilt_e]; exact decide_eq_false (by rw [Int.ofNat_eq_natCast]; omega)]
  show mkI .u64 (fwrap .u64 (Int.ofNat (Nat.shiftLeft 1 (nmin i 64)))) = _
  have h1 : nmin i 64 = i := by unfold nmin; rw [Nat.ble_eq_true_of_le (by omega)]
  have h2 : Nat.shiftLeft 1 i = 2 ^ i := by rw [show Nat.shiftLeft 1 i = 1 * 2 ^ i from Nat.shiftLeft_eq 1 i, Nat.one_mul]
  have h3 : 2 ^ i < 2 ^ 64 := Nat.pow_lt_pow_right (by omega) hi
  rw [h1, h2]
  unfold fwrap
  rw [fits_u64 h3, mkI_e]; rfl
section
variable {x y : Nat} (k : Value → Option Unit)
theorem and_u64 (hx : x < 18446744073709551616) (hy : y < 18446744073709551616) : oInt .and .u64 (.int .u64 (x : Int)) (.int .u64 (y : Int)) k = k (.int .u64 ((x &&& y : Nat) : Int)) := by
  show oOpt (mkI .u64 (abits .and .u64 (Int.ofNat x) (Int.ofNat y))) k = _
  unfold abits
  simp only [fits_u64 hx, fits_u64 hy, Bool.and_self]
  rw [mkI_e, oOpt_e]; rfl
theorem xor_u64 (hx : x < 18446744073709551616) (hy : y < 18446744073709551616) : oInt .xor .u64 (.int .u64 (x : Int)) (.int .u64 (y : Int)) k = k (.int .u64 ((x ^^^ y : Nat) : Int)) := by
  show oOpt (mkI .u64 (abits .xor .u64 (Int.ofNat x) (Int.ofNat y))) k = _
  unfold abits
  simp only [fits_u64 hx, fits_u64 hy, Bool.and_self]
  rw [mkI_e, oOpt_e]; rfl
theorem andNot_u64 (hx : x < 18446744073709551616) (hy : y < 18446744073709551616) : oInt .andNot .u64 (.int .u64 (x : Int)) (.int .u64 (y : Int)) k = k (.int .u64 ((x ^^^ (x &&& y) : Nat) : Int)) := by
  show oOpt (mkI .u64 (abits .andNot .u64 (Int.ofNat x) (Int.ofNat y))) k = _
  unfold abits
  simp only [fits_u64 hx, fits_u64 hy, Bool.and_self]
  rw [mkI_e, oOpt_e]; rfl
theorem sub1_u64 (hx : x < 18446744073709551616) (h0 : 0 < x) : oInt .sub .u64 (.int .u64 (x : Int)) (.int .u64 1) k = k (.int .u64 ((x - 1 : Nat) : Int)) := by
  show oOpt (mkI .u64 (fwrap .u64 (Int.sub (x : Int) 1))) k = _
  have h1 : Int.sub (x : Int) 1 = Int.ofNat (x - 1) := by show (x : Int) - 1 = ((x - 1 : Nat) : Int); omega
  rw [h1]
  unfold fwrap
  rw [fits_u64 (by omega), mkI_e, oOpt_e]; rfl
theorem not_u64 (hx : x < 18446744073709551616) : aun .xor (.int .u64 (x : Int)) = some (.int .u64 ((18446744073709551615 ^^^ x : Nat) : Int)) := by
  show mkI .u64 (abits .xor .u64 (Int.ofNat 18446744073709551615) (Int.ofNat x)) = _
  unfold abits
  simp only [fits_u64 hx, fits_u64 (show 18446744073709551615 < 18446744073709551616 by omega), Bool.and_self]
  rw [mkI_e]; rfl
theorem eql_u64 (a b : Int) : oInt .eql .u64 (.int .u64 a) (.int .u64 b) k = k (.bool (decide (a = b))) := by
  show oOpt (aint .eql .u64 a b) k = _
  simp only [aint, ieq_e, mkB_e, oOpt_e]
end
theorem u152 : Tryz.prog.underlying 152 = some (.slice 95) := by kernel_rfl
theorem azero95 : azero Tryz.prog 95 = some [.int .u64 0] := by kernel_rfl
theorem ts95 : tsize Tryz.prog 95 = some 1 := by kernel_rfl
theorem tby95 : tbytes Tryz.prog 95 = some 8 := by kernel_rfl
theorem azrow_repl (x : Value) : ∀ n, azrow [x] n = List.replicate n x
  | 0 => rfl
  | n + 1 => by show x :: azrow [x] n = _; rw [azrow_repl x n]; rfl
theorem make152 (m : Mem) {a : Nat} (ha : a ≤ 8) : amakeSlice Tryz.prog m 152 (.int .i64 (a : Int)) (.int .i64 (a : Int)) = some (.slice (some ⟨m.next, 0, none⟩) a a, m.push ⟨1, ucs (List.replicate a 0), none⟩) := by
  unfold amakeSlice
  have h1 : anat (.int .i64 (a : Int)) = some a := by
    show anat (.int .i64 (Int.ofNat a)) = _
    simp only [anat, natK_eq]
  simp only [u152, azero95, ts95, tby95, h1]
  have h2 : Nat.mul 8 a = 8 * a := rfl
  have h3 : azrow [.int .u64 0] a = ucs (List.replicate a 0) := by
    rw [azrow_repl]; unfold ucs; rw [List.map_replicate]; rfl
  rw [h2, ble_t (Nat.le_refl a), ble_t (show a ≤ 1048576 by omega), ble_t (show 8 * a ≤ 281474976710656 by omega)]
  simp only [List.length_singleton, Nat.beq_refl, Bool.and_self, anew_eq, h3]
/-- A room of tables. -/
def RoomOf (N : Nat) (l : List (Nat × Nat)) (r : List Nat) : Prop := r.length = N ∧ ∀ a (h : a < r.length) i, (r[a]'h).testBit i = (decide ((a, i) ∈ l) || decide ((i, a) ∈ l))
theorem RoomOf.nil (N : Nat) : RoomOf N [] (List.replicate N 0) := ⟨List.length_replicate, fun a h i => by simp⟩
theorem lt_bits {x N : Nat} (h : ∀ i, x.testBit i = true → i < N) : x < 2 ^ N := Nat.lt_pow_two_of_testBit _ fun i hi => by
  cases hb : x.testBit i with
  | false => rfl
  | true => have := h i hb; omega
theorem RoomOf.lt {N : Nat} {l : List (Nat × Nat)} {r : List Nat} (h : RoomOf N l r) (hl : ∀ p ∈ l, p.1 < p.2 ∧ p.2 < N) {a : Nat} (ha : a < r.length) : r[a] < 2 ^ N := lt_bits fun i hi => by
  rw [h.2 a ha i, Bool.or_eq_true, decide_eq_true_eq, decide_eq_true_eq] at hi
  rcases hi with hi | hi
  · have := hl _ hi; exact this.2
  · have := hl _ hi; have h3 : i < a := this.1; have h4 : a < N := this.2; omega
theorem RoomOf.snoc {N x y : Nat} {l : List (Nat × Nat)} {r : List Nat} (h : RoomOf N l r) (hxy : x < y) (hy : y < N) (h1 : (x, y) ∉ l) (h2 : (y, x) ∉ l) (hx' : x < r.length) (hy' : y < (r.set x (r[x] ^^^ 2 ^ y)).length) :
    RoomOf N (l ++ [(x, y)]) ((r.set x (r[x] ^^^ 2 ^ y)).set y ((r.set x (r[x] ^^^ 2 ^ y))[y] ^^^ 2 ^ x)) := by
  refine ⟨by rw [List.length_set, List.length_set]; exact h.1, fun a ha i => ?_⟩
  have hm : ∀ u v : Nat, decide ((u, v) ∈ l ++ [(x, y)]) = (decide ((u, v) ∈ l) || decide (u = x ∧ v = y)) := fun u v => by
    rw [← Bool.decide_or]
    refine decide_eq_decide.2 ?_
    rw [List.mem_append, List.mem_singleton, Prod.mk.injEq]
  rw [hm, hm, List.getElem_set]
  have hyr : y < r.length := by rw [List.length_set] at hy'; exact hy'
  have har : a < r.length := by rw [List.length_set, List.length_set] at ha; exact ha
  by_cases hay : y = a
  · rw [if_pos hay]
    subst hay
    rw [List.getElem_set, if_neg (by omega), Nat.testBit_xor, h.2 y hyr i, Nat.testBit_two_pow]
    rw [decide_eq_false (show ¬ (y = x ∧ i = y) by omega), Bool.or_false]
    by_cases hi : x = i
    · subst hi
      rw [decide_eq_false h2, decide_eq_false h1]; simp
    · rw [decide_eq_false hi, decide_eq_false (show ¬ (i = x ∧ y = y) by omega)]; simp
  · rw [if_neg hay, List.getElem_set]
    by_cases hax : x = a
    · rw [if_pos hax]
      subst hax
      rw [Nat.testBit_xor, h.2 x hx' i, Nat.testBit_two_pow]
      rw [decide_eq_false (show ¬ (i = x ∧ x = y) by omega)]
      by_cases hi : y = i
      · subst hi
        rw [decide_eq_false h2, decide_eq_false h1]; simp
      · rw [decide_eq_false hi, decide_eq_false (show ¬ (x = x ∧ i = y) by omega)]; simp
    · rw [if_neg hax, h.2 a har i, decide_eq_false (show ¬ (a = x ∧ i = y) by omega), decide_eq_false (show ¬ (i = x ∧ a = y) by omega)]; simp
section
variable {lf n L : Nat} {m : Mem} {k : Value → Mem → Option Unit}
theorem cwithin_sp (a b c : Int) (hk : k (.bool (decide (b ≤ a ∧ a ≤ c))) m = some ()) : runT (tabC lf) (n + 1) 182 [.int .i64 a, .int .i64 b, .int .i64 c] L m k = some () := by
  rw [r182]; dsimp only [S182, iofNat, inegSucc]
  rw [uc_e, uc_e, uc_e, un0_e, oInt_leq, join_e]
  refine oGT_dec (fun h => ?_) (fun h => ?_)
  · rw [oInt_leq]
    dsimp only
    rw [uc_e, decide_eq_true h, oPick_t]
    rw [show decide (b ≤ a ∧ a ≤ c) = decide (a ≤ c) from decide_eq_decide.2 ⟨fun h => h.2, fun h2 => ⟨h, h2⟩⟩] at hk
    exact hk
  · dsimp only
    rw [uc_e, decide_eq_false h, oPick_f]
    rw [decide_eq_false (fun h2 => h h2.1)] at hk
    exact hk
theorem ia1 {b N i : Nat} (h : i < N) : ia 1 (.slice (some ⟨b, 0, none⟩) N N) (.int .i64 (i : Int)) = some (.pointer (some ⟨b, i, none⟩)) := by
  rw [ia_e h, Nat.zero_add, Nat.mul_one]
theorem ldu {M : Mem} {b i : Nat} {r : List Nat} (hr : M.rd b = some ⟨1, ucs r, none⟩) (h : i < r.length) : ld1 M (.pointer (some ⟨b, i, none⟩)) = some (.int .u64 (r[i] : Int)) := by
  rw [ld1_u, hr, rdo_e, ucs_get h]
theorem sits_sp {b N a i : Nat} {r : List Nat} (hr : m.rd b = some ⟨1, ucs r, none⟩) (hl : r.length = N) (ha : a < r.length) (hi : i ≤ 64) (hx : r[a] < 18446744073709551616) (hk : k (.bool (r[a].testBit i)) m = some ()) :
    runT (tabC lf) (n + 1) 183 [.slice (some ⟨b, 0, none⟩) N N, .int .i64 (a : Int), .int .i64 (i : Int)] L m k = some () := by
  rw [r183]; dsimp only [S183, iofNat, inegSucc]
  rw [uc_e, uc_e, uc_e, un0_e, ia1 (by omega), oOpt_e, ldu hr ha, oOpt_e, shr95 _ _ hi, oOpt_e]
  rw [show (Value.int .u64 1) = .int .u64 ((1 : Nat) : Int) from rfl, and_u64 _ (Nat.lt_of_le_of_lt (Nat.shiftRight_le _ _) hx) (by omega), bit01, eql_u64]
  cases h : r[a].testBit i with
  | true => rw [h] at hk; exact hk
  | false => rw [h] at hk; exact hk
theorem sit_sp {b N x y : Nat} {r : List Nat} (hr : m.rd b = some ⟨1, ucs r, none⟩) (hl : r.length = N) (hN : N ≤ 6) (hb : ∀ i (h : i < r.length), r[i] < 64) (hx : x < r.length) (hy : y < r.length) (hxy : x ≠ y) (hL : L ≤ b)
    (hk : ∀ (m' : Mem) (hy' : y < (r.set x (r[x] ^^^ 2 ^ y)).length), m'.next = m.next → (∀ c, c ≠ b → m'.rd c = m.rd c) → m'.rd b = some ⟨1, ucs ((r.set x (r[x] ^^^ 2 ^ y)).set y ((r.set x (r[x] ^^^ 2 ^ y))[y] ^^^ 2 ^ x)), none⟩ → k (.tuple ⟨[]⟩) m' = some ()) :
    runT (tabC lf) (n + 1) 184 [.slice (some ⟨b, 0, none⟩) N N, .int .i64 (x : Int), .int .i64 (y : Int)] L m k = some () := by
  rw [r184]; dsimp only [S184, iofNat, inegSucc]
  have hbl := Mem.rd_lt hr
  have p6 : ∀ i, i < 6 → 2 ^ i < 64 := fun i hi => Nat.pow_lt_pow_right (n := 6) (by omega) hi
  have hy' : y < (r.set x (r[x] ^^^ 2 ^ y)).length := by rw [List.length_set]; exact hy
  have hbx := hb x hx
  have hpy := p6 y (by omega)
  have hpx := p6 x (by omega)
  have hby : (r.set x (r[x] ^^^ 2 ^ y))[y] < 64 := by rw [List.getElem_set, if_neg hxy]; exact hb y hy
  rw [uc_e, uc_e, uc_e, un0_e, ia1 (by omega), oOpt_e, ldu hr hx, oOpt_e, shl95 _ (by omega), oOpt_e, xor_u64 _ (by omega) (by omega), oOpt_e]
  have s1 := st_set (L := L) (q := x) (x := .int .u64 ((r[x] ^^^ 2 ^ y : Nat) : Int)) hr (by rw [ucs_len]; exact hx) hL rfl rfl
  rw [ucs_set] at s1
  rw [s1, oRes_e, ia1 (by omega), oOpt_e]
  have q1 : (m.put b (some ⟨1, ucs (r.set x (r[x] ^^^ 2 ^ y)), none⟩)).rd b = some ⟨1, ucs (r.set x (r[x] ^^^ 2 ^ y)), none⟩ := Mem.rd_put_eq _ _ hbl
  rw [ldu q1 hy', oOpt_e, shl95 _ (by omega), oOpt_e, xor_u64 _ (by omega) (by omega), oOpt_e]
  have s2 := st_set (L := L) (q := y) (x := .int .u64 (((r.set x (r[x] ^^^ 2 ^ y))[y] ^^^ 2 ^ x : Nat) : Int)) q1 (by rw [ucs_len]; exact hy') hL rfl rfl
  rw [ucs_set] at s2
  rw [s2, oRes_e]
  refine hk _ hy' rfl (fun c hc => ?_) (Mem.rd_put_eq _ _ hbl)
  rw [Mem.rd_put _ _ _ _ (Ne.symm hc), Mem.rd_put _ _ _ _ (Ne.symm hc)]
/-- The room of tidy tables. -/
theorem opened_sp {N : Nat} {v : Value} {l : List (Nat × Nat)} (hlf : 1000000 ≤ lf) (hL : L ≤ m.next) (h1 : 1 ≤ N) (hN : N ≤ 6) (hl : ∀ p ∈ l, p.1 < p.2 ∧ p.2 < N) (hnd : l.Nodup) (hlen : l.length ≤ 28) (hv : PL m v l)
    (hk : ∀ b r m', Gt m m' → m.next ≤ b → m'.rd b = some ⟨1, ucs r, none⟩ → RoomOf N l r → k (.tuple ⟨[.slice (some ⟨b, 0, none⟩) N N, .int .i64 0]⟩) m' = some ()) :
    runT (tabC lf) (n + 2) 149 [.agg ⟨[.int .i64 (N : Int), v]⟩] L m k = some () := by
  rw [r149]; dsimp only [S149, iofNat, inegSucc]
  obtain ⟨vp, vc, hvs⟩ := hv.ex
  have p6 : 2 ^ N ≤ 64 := Nat.le_trans (Nat.pow_le_pow_right (by omega) hN) (by decide)
  rw [uc_e, un0_e]
  refine bx2 fun m1 e1 q1 n1 => ?_
  rw [fa0, oOpt_e, ld2a q1, oOpt_e]
  refine cwithin_sp _ _ _ ?_
  rw [decide_eq_true (show (1 : Int) ≤ (N : Int) ∧ (N : Int) ≤ 8 by omega), aun_not, oOpt_e, Bool.not_true, oIf_f, fa1, oOpt_e, ld2b q1, oOpt_e, hv.ln, oOpt_e, oInt_gtr, decide_eq_false (by omega), oIf_f, oOpt_e, ld2a q1, oOpt_e, make152 m1 (by omega), oRes_e]
  have e2 := Mem.gt_push m1 ⟨1, ucs (List.replicate N 0), none⟩
  have q2 : (m1.push ⟨1, ucs (List.replicate N 0), none⟩).rd m1.next = some ⟨1, ucs (List.replicate N 0), none⟩ := Mem.rd_push _ _
  have n2 : (m1.push ⟨1, ucs (List.replicate N 0), none⟩).next = m1.next + 1 := Mem.push_next _ _
  generalize m1.push ⟨1, ucs (List.replicate N 0), none⟩ = m2 at e2 q2 n2 ⊢
  have q12 := (e2.kept _ (by omega)).trans q1
  have hvb : ∀ c, bid v = some c → 0 < l.length → c < m.next := fun c hc h0 => Sl.bid_lt hv h0 c hc
  rw [oOpt_e, ld2b q12, oOpt_e, hv.ln, oOpt_e]
  refine loop_up l.length (fun i vs m' => ∃ r, vs = [.int .i64 (i : Int)] ∧ GtX (· = m1.next) m2 m' ∧ m'.rd m1.next = some ⟨1, ucs r, none⟩ ∧ RoomOf N (l.take i) r) (by omega)
    ⟨_, rfl, GtX.refl _, q2, RoomOf.nil N⟩ ?_
  rintro i vs m3 hi ⟨r, rfl, e3, q3, hr⟩ self hself
  have n3 := e3.next
  have q13 := (e3.kept m.next (by omega) (by omega)).trans q12
  rw [uc_e, oInt_lss]
  refine oIf_dec (fun hc => ?_) (fun hc => ?_)
  · have hil : i < l.length := by omega
    have hv3 : PL m3 v l := hv.keep fun c hc => by
      have := hvb c hc (by omega)
      exact (e3.kept c (by omega) (by omega)).trans ((e2.kept c (by omega)).trans (e1.kept c this))
    rw [hv3.ia hil, oOpt_e, hv3.ldN hil, oOpt_e]
    obtain ⟨⟨x, y⟩, hxy⟩ : ∃ p, l[i] = p := ⟨_, rfl⟩
    have hmem := hl _ (List.getElem_mem hil)
    rw [hxy] at hmem ⊢
    obtain ⟨hm1, hm2⟩ : x < y ∧ y < N := hmem
    show (oRes (anew m3 1 [.int .i64 0, .int .i64 0] ptrTo) fun t28 m29 => oRes (st1 2 L m29 t28 (.agg ⟨[.int .i64 (x : Int), .int .i64 (y : Int)]⟩)) _) = some ()
    refine mk2 (by omega) rfl fun m4 e4 q4 n4 => ?_
    have q14 := (e4.kept _ (by omega)).trans q13
    have q34 := (e4.kept _ (by omega)).trans q3
    have hrl := hr.1
    have htl : ∀ p ∈ l.take i, p.1 < p.2 ∧ p.2 < N := fun p hp => hl p (List.mem_of_mem_take hp)
    have hrb : ∀ j (h : j < r.length), r[j] < 64 := fun j h => Nat.lt_of_lt_of_le (hr.lt htl h) p6
    have hno1 : (x, y) ∉ l.take i := fun h => by
      have h2 : l = l.take i ++ l.drop i := (List.take_append_drop i l).symm
      rw [h2] at hnd
      have h3 := (List.nodup_append.1 hnd).2.2
      exact h3 _ h _ (by rw [← hxy]; rw [List.drop_eq_getElem_cons hil]; exact List.mem_cons_self ..) rfl
    have hno2 : (y, x) ∉ l.take i := fun h => by have := (htl _ h).1; have h2 : y < x := this; omega
    have hxr : x < r.length := by omega
    have hyr : y < r.length := by omega
    rw [iaA0, oOpt_e, ld2a q4, oOpt_e, iaA1, oOpt_e, ld2b q4, oOpt_e, oOpt_e, ld2a q14, oOpt_e, oInt_sub ⟨by omega, by omega⟩]
    refine cwithin_sp _ _ _ ?_
    rw [decide_eq_true (show (0 : Int) ≤ (x : Int) ∧ (x : Int) ≤ (N : Int) - 1 by omega), aun_not, oOpt_e, Bool.not_true, join_e, oGF_f, oOpt_e, ld2a q14, oOpt_e, oInt_sub ⟨by omega, by omega⟩]
    refine cwithin_sp _ _ _ ?_
    rw [decide_eq_true (show (0 : Int) ≤ (y : Int) ∧ (y : Int) ≤ (N : Int) - 1 by omega), aun_not, oOpt_e, Bool.not_true]
    dsimp only
    rw [uc_e, oPick_f, oIf_f, oInt_eql, decide_eq_false (by omega), oIf_f]
    refine sits_sp q34 hrl hxr (by omega) (by have := hrb x hxr; omega) ?_
    rw [hr.2 x hxr y, decide_eq_false hno1, decide_eq_false hno2, Bool.or_false, oIf_f]
    refine sit_sp q34 hrl hN hrb hxr hyr (by omega) (by omega) fun m5 hy' n5 k5 q5 => ?_
    rw [oInt_add ⟨by omega, by omega⟩]
    refine hself hil _ _ ⟨_, rfl, ⟨by omega, fun c hc hn => (k5 c hn).trans ((e4.kept c (by omega)).trans (e3.kept c hc hn))⟩, q5, ?_⟩
    rw [List.take_add_one, List.getElem?_eq_getElem hil, hxy]
    exact hr.snoc hm1 hm2 hno1 hno2 hxr hy'
  · have hil : i = l.length := by omega
    subst hil
    rw [List.take_length] at hr
    exact hk m1.next r m3 (GtX.gt (e1.trans e2) e3 fun c hc => by omega) (by omega) q3 hr
end
end Go.Vit

/- Walks: other tables, counts, trios. -/
namespace Go.Vit
open Go Go.Proofs
attribute [local irreducible] runT loopS
/-- All others but oneself. -/
def othN (N s a : Nat) : Nat := ((18446744073709551615 ^^^ s) &&& (2 ^ N - 1)) ^^^ (((18446744073709551615 ^^^ s) &&& (2 ^ N - 1)) &&& 2 ^ a)
theorem oth_bit {N s a i : Nat} (hN : N ≤ 6) : (othN N s a).testBit i = (decide (i < N) && !s.testBit i && !decide (a = i)) := by
  have h64 : (18446744073709551615 : Nat).testBit i = decide (i < 64) := by
    rw [show (18446744073709551615 : Nat) = 2 ^ 64 - 1 from rfl]
    exact Nat.testBit_two_pow_sub_one ..
  unfold othN
  simp only [Nat.testBit_xor, Nat.testBit_and, h64, Nat.testBit_two_pow_sub_one, Nat.testBit_two_pow]
  by_cases h : i < N
  · rw [decide_eq_true h, decide_eq_true (show i < 64 by omega)]
    cases s.testBit i <;> cases decide (a = i) <;> rfl
  · rw [decide_eq_false h]
    cases s.testBit i <;> cases decide (i < 64) <;> rfl
theorem oth_lt {N s a : Nat} (hN : N ≤ 6) : othN N s a < 2 ^ N := lt_bits fun i hi => by
  rw [oth_bit hN, Bool.and_eq_true, Bool.and_eq_true, decide_eq_true_eq] at hi
  exact hi.1.1
def othL (N : Nat) (r : List Nat) : List Nat := (List.range N).map fun a => othN N (r.getD a 0) a
theorem room_bit {N : Nat} {B : Nat → Nat → Bool} {r : List Nat} (h : RoomOf N (tabsOf N B) r) {a b : Nat} (hab : a < b) (hb : b < N) : (r.getD a 0).testBit b = B a b := by
  have har : a < r.length := by have := h.1; omega
  rw [List.getD_eq_getElem?_getD, List.getElem?_eq_getElem har]
  show (r[a]).testBit b = B a b
  rw [h.2 a har b, decide_eq_false (show ¬ (b, a) ∈ tabsOf N B from fun h => by have := (mem_tabT.1 h).2.1; have h2 : b < a := this; omega), Bool.or_false]
  cases hB : B a b with
  | true => exact decide_eq_true (mem_tabT.2 ⟨by show a < N; omega, hab, hb, hB⟩)
  | false => exact decide_eq_false fun h => by have := (mem_tabT.1 h).2.2.2; rw [show B (a, b).1 (a, b).2 = B a b from rfl, hB] at this; cases this
theorem oth_tabs {N : Nat} {B : Nat → Nat → Bool} {r : List Nat} (hN : N ≤ 6) (h : RoomOf N (tabsOf N B) r) : tabsOf N (fun x y => ((othL N r).getD x 0).testBit y) = tabsOf N fun x y => !B x y :=
  tabs_congr (fun a b hab hb => by
    unfold othL
    rw [List.getD_eq_getElem?_getD, List.getElem?_map, List.getElem?_range (show a < N by omega)]
    show (othN N (r.getD a 0) a).testBit b = _
    rw [oth_bit hN, room_bit h hab hb, decide_eq_true hb, decide_eq_false (show ¬ a = b by omega)]; simp) N
theorem tabs_tidy {N : Nat} {B : Nat → Nat → Bool} : ∀ p ∈ tabsOf N B, p.1 < p.2 ∧ p.2 < N := fun p hp => by
  have := mem_tabT.1 hp
  exact ⟨this.2.1, this.2.2.1⟩
theorem if74 (a : Int) (p : Option Addr) (n c : Nat) : aiface Tryz.prog 74 (.agg ⟨[.int .i64 a, .slice p n c]⟩) = some (.iface 74 (.agg ⟨[.int .i64 a, .slice p n c]⟩)) := by kernel_rfl
theorem as74 (a : Int) (p : Option Addr) (n c : Nat) : aassert Tryz.prog (.iface 74 (.agg ⟨[.int .i64 a, .slice p n c]⟩)) 74 true = some (.tuple ⟨[.agg ⟨[.int .i64 a, .slice p n c]⟩, .bool true]⟩) := by kernel_rfl
theorem if22 (p : Option Addr) (n c : Nat) : aiface Tryz.prog 22 (.slice p n c) = some (.iface 22 (.slice p n c)) := by kernel_rfl
theorem as22 (p : Option Addr) (n c : Nat) : aassert Tryz.prog (.iface 22 (.slice p n c)) 22 true = some (.tuple ⟨[.slice p n c, .bool true]⟩) := by kernel_rfl
theorem if3 (a : Int) : aiface Tryz.prog 3 (.int .i64 a) = some (.iface 3 (.int .i64 a)) := by kernel_rfl
theorem as3 (a : Int) : aassert Tryz.prog (.iface 3 (.int .i64 a)) 3 true = some (.tuple ⟨[.int .i64 a, .bool true]⟩) := by kernel_rfl
theorem pop_le : ∀ x : Fin 64, pop x.val ≤ 6 := by decide +kernel
def mixI (N : Nat) (l : List Nat) : Int := (l.map fun x => (pop x : Int) * ((N : Int) - 1 - (pop x : Int))).sum
def trioX (N : Nat) (r : List Nat) : Int := (N : Int) * ((N : Int) - 1) * ((N : Int) - 2) / 6 - mixI N r / 2
theorem mixI_snoc (N : Nat) (l : List Nat) (x : Nat) : mixI N (l ++ [x]) = mixI N l + (pop x : Int) * ((N : Int) - 1 - (pop x : Int)) := by
  unfold mixI; rw [List.map_append, List.sum_append]; simp
theorem pop_bits : ∀ x : Fin 64, pop x.val = ((List.range 6).filter fun i => x.val.testBit i).length := by decide +kernel
theorem pop_lt {x N a : Nat} (hN : N ≤ 6) (h : ∀ i, x.testBit i = true → i < N ∧ i ≠ a) (ha : a < N) : pop x + 1 ≤ N := by
  have hx : x < 64 := Nat.lt_of_lt_of_le (lt_bits fun i hi => (h i hi).1) (Nat.le_trans (Nat.pow_le_pow_right (by omega) hN) (by decide))
  rw [pop_bits ⟨x, hx⟩]
  have h1 := nodup_le (a := a :: (List.range 6).filter fun i => x.testBit i) (b := List.range N) (List.nodup_cons.2 ⟨fun hm => by
    have := (List.mem_filter.1 hm).2
    exact (h a this).2 rfl, List.Pairwise.filter _ List.nodup_range⟩) fun i hi => by
    rcases List.mem_cons.1 hi with rfl | hi
    · exact List.mem_range.2 ha
    · exact List.mem_range.2 (h i (List.mem_filter.1 hi).2).1
  rw [List.length_range] at h1
  exact h1
theorem room_pop {N : Nat} {B : Nat → Nat → Bool} {r : List Nat} (hN : N ≤ 6) (h : RoomOf N (tabsOf N B) r) {a : Nat} (ha : a < r.length) : pop r[a] + 1 ≤ N :=
  pop_lt hN (a := a) (fun i hi => by
    rw [h.2 a ha i, Bool.or_eq_true, decide_eq_true_eq, decide_eq_true_eq] at hi
    rcases hi with hi | hi
    · have := tabs_tidy _ hi
      have h1 : a < i := this.1
      exact ⟨this.2, by omega⟩
    · have := tabs_tidy _ hi
      have h1 : i < a := this.1
      have h2 : a < N := this.2
      exact ⟨by omega, by omega⟩) (by have := h.1; omega)
theorem mul_bd {c n : Int} (h0 : 0 ≤ c) (h1 : c ≤ n) (h6 : n ≤ 6) : 0 ≤ c * (n - c) ∧ c * (n - c) ≤ 36 := by
  have h2 : 0 ≤ c * (n - c) := Int.mul_nonneg h0 (by omega)
  have h3 : c * (n - c) ≤ 6 * 6 := Int.mul_le_mul (by omega) (by omega) (by omega) (by omega)
  exact ⟨h2, by omega⟩
theorem mix_bd {N : Nat} {r : List Nat} (hN : N ≤ 6) : ∀ {l : List Nat}, (∀ x ∈ l, pop x + 1 ≤ N) → 0 ≤ mixI N l ∧ mixI N l ≤ 36 * l.length
  | [], _ => ⟨Int.le_refl _, Int.le_refl _⟩
  | x :: l, h => by
    obtain ⟨h1, h2⟩ := mix_bd (r := r) hN fun y hy => h y (List.mem_cons_of_mem _ hy)
    have h3 := h x (List.mem_cons_self ..)
    obtain ⟨h4, h5⟩ := mul_bd (c := (pop x : Int)) (n := (N : Int) - 1) (by omega) (by omega) (by omega)
    have h6 : mixI N (x :: l) = (pop x : Int) * ((N : Int) - 1 - (pop x : Int)) + mixI N l := by unfold mixI; simp
    rw [h6, List.length_cons]
    omega
section
variable {lf n L : Nat} {m : Mem} {k : Value → Mem → Option Unit}
/-- The tidy plan of a room. -/
theorem plan_sp {b N : Nat} {r : List Nat} (hlf : 1000000 ≤ lf) (hL : L ≤ m.next) (hN : N ≤ 6) (hr : m.rd b = some ⟨1, ucs r, none⟩) (hl : r.length = N) (hb : ∀ i (h : i < r.length), r[i] < 64)
    (hk : ∀ v m', Gt m m' → PG m.next m' v (tabsOf N fun x y => (r.getD x 0).testBit y) → k (.agg ⟨[.int .i64 (N : Int), v]⟩) m' = some ()) : runT (tabC lf) (n + 2) 150 [.slice (some ⟨b, 0, none⟩) N N] L m k = some () := by
  rw [r150]; dsimp only [S150, iofNat, inegSucc]
  have hbl := Mem.rd_lt hr
  rw [uc_e, un0_e, anew_eq, oRes_e, ln_e, oOpt_e, bu74, oOpt_e]
  have e1 := Mem.gt_push m ⟨1, [.int .i64 0, .slice none 0 0], none⟩
  have q1 := Mem.rd_push m ⟨1, [.int .i64 0, .slice none 0 0], none⟩
  have n1 : (m.push ⟨1, [.int .i64 0, .slice none 0 0], none⟩).next = m.next + 1 := Mem.push_next _ _
  generalize m.push ⟨1, [.int .i64 0, .slice none 0 0], none⟩ = m1 at e1 q1 n1 ⊢
  refine mk2 (by omega) rfl fun m2 e2 q2 n2 => ?_
  have q1 := (e2.kept _ (by omega)).trans q1
  have E2 := e1.trans e2
  have qb2 := (E2.kept _ hbl).trans hr
  obtain ⟨B, hB⟩ : ∃ B : Nat → Nat → Bool, B = fun x y => (r.getD x 0).testBit y := ⟨_, rfl⟩
  rw [← hB] at hk
  rw [oOpt_e]
  refine loop_up N (fun a vs m' => ∃ v, vs = [.int .i64 (a : Int)] ∧ GtX (· = m1.next) m2 m' ∧ m'.rd m1.next = some ⟨1, [.int .i64 (N : Int), v], none⟩ ∧ PG m2.next m' v (tabT N B a)) (by omega)
    ⟨_, rfl, GtX.refl _, q2, PG.nil _ _⟩ ?_
  rintro a vs m3 ha ⟨v, rfl, e3, q3, hv⟩ self hself
  have n3 := e3.next
  have q13 := (e3.kept m.next (by omega) (by omega)).trans q1
  rw [uc_e, oInt_lss]
  refine oIf_dec (fun hc => ?_) (fun hc => ?_)
  · have haN : a < N := by omega
    have htl := tabT_len B hN ha
    rw [oInt_add ⟨by omega, by omega⟩]
    refine loop_up (N - (a + 1)) (fun j vs m' => ∃ v, vs = [.int .i64 ((a + 1 + j : Nat) : Int)] ∧ GtX (· = m1.next) m2 m' ∧ m'.rd m1.next = some ⟨1, [.int .i64 (N : Int), v], none⟩ ∧ PG m2.next m' v (tabT N B a ++ rowTo B a (a + 1 + j))) (by omega)
      ⟨v, rfl, e3, q3, by rw [rowTo_0 B (by omega), List.append_nil]; exact hv⟩ ?_
    rintro j vs m4 hj ⟨v4, rfl, e4, q4, hv4⟩ self2 hself2
    have n4 := e4.next
    have hrl := row_len B a (a + 1 + j)
    rw [uc_e, oOpt_e, oInt_lss]
    refine oIf_dec (fun hc2 => ?_) (fun hc2 => ?_)
    · have hjN : j < N - (a + 1) := by omega
      have qb4 : m4.rd b = some ⟨1, ucs r, none⟩ := (e4.kept b (by omega) (by omega)).trans qb2
      have har : a < r.length := by omega
      have hBj : B a (a + 1 + j) = r[a].testBit (a + 1 + j) := by
        rw [hB]
        show (r.getD a 0).testBit (a + 1 + j) = _
        rw [List.getD_eq_getElem?_getD, List.getElem?_eq_getElem har]; rfl
      refine sits_sp qb4 hl har (by omega) (by have := hb a har; omega) ?_
      rw [join_e]
      rw [show a + 1 + (j + 1) = (a + 1 + j) + 1 by omega, rowTo_s, decide_eq_true (show a < a + 1 + j by omega), Bool.true_and, hBj, ← List.append_assoc] at hself2
      cases hb : r[a].testBit (a + 1 + j) with
      | true =>
        rw [hb, if_pos rfl] at hself2
        rw [oIf_t]
        refine addT (by omega) (by omega) (by omega) (by omega) q4 hv4 (by rw [List.length_append]; omega) fun u m5 n5 k5 q5 hu => ?_
        dsimp only
        rw [oInt_add ⟨by omega, by omega⟩]
        exact hself2 hjN _ _ ⟨u, rfl, ⟨by omega, fun c hc hn => (k5 c hc hn).trans (e4.kept c hc hn)⟩, q5, hu⟩
      | false =>
        rw [hb, if_neg (by simp), List.append_nil] at hself2
        rw [oIf_f]
        dsimp only
        rw [oInt_add ⟨by omega, by omega⟩]
        exact hself2 hjN _ _ ⟨v4, rfl, e4, q4, hv4⟩
    · have hjN : j = N - (a + 1) := by omega
      rw [oInt_add ⟨by omega, by omega⟩]
      refine hself haN _ _ ⟨v4, rfl, e4, q4, ?_⟩
      rw [show a + 1 + j = N by omega] at hv4
      exact hv4
  · have haN : a = N := by omega
    subst haN
    have hn3 : m1.next < m3.next := by omega
    obtain ⟨p, c, hvs⟩ := hv.pl.ex
    rw [ldN2 q3, oOpt_e]
    rw [show ptrTo m.next = .pointer (some ⟨m.next, 0, none⟩) from rfl, st2w q13 hL (by rw [hvs]; rfl), oRes_e]
    have q5 : (m3.put m.next (some ⟨1, [.int .i64 (a : Int), v], none⟩)).rd m.next = some ⟨1, [.int .i64 (a : Int), v], none⟩ := Mem.rd_put_eq _ _ (by omega)
    rw [ldN2 q5, oOpt_e]
    refine hk v _ (Mem.put_gt (GtX.gt E2 e3 fun c hc => by omega) _ (Nat.le_refl _)) ?_
    exact (hv.keep fun c hc hcm => Mem.rd_put _ _ _ _ (by omega)).le (by omega)
theorem others1_sp {b N : Nat} {r : List Nat} (hlf : 1000000 ≤ lf) (hL : L ≤ m.next) (hN : N ≤ 6) (hr : m.rd b = some ⟨1, ucs r, none⟩) (hl : r.length = N) (hb : ∀ i (h : i < r.length), r[i] < 64)
    (hk : ∀ v m', Gt m m' → PG m.next m' v (tabsOf N fun x y => ((othL N r).getD x 0).testBit y) → k (.iface 74 (.agg ⟨[.int .i64 (N : Int), v]⟩)) m' = some ()) : runT (tabC lf) (n + 3) 103 [.slice (some ⟨b, 0, none⟩) N N] L m k = some () := by
  rw [r103]; dsimp only [S103, iofNat, inegSucc]
  have hbl := Mem.rd_lt hr
  have p6 : 2 ^ N ≤ 64 := Nat.le_trans (Nat.pow_le_pow_right (by omega) hN) (by decide)
  have p0 : 0 < 2 ^ N := Nat.two_pow_pos N
  rw [uc_e, un0_e, ln_e, oOpt_e, make152 m (by omega), oRes_e, oOpt_e]
  have e1 := Mem.gt_push m ⟨1, ucs (List.replicate N 0), none⟩
  have q1 : (m.push ⟨1, ucs (List.replicate N 0), none⟩).rd m.next = some ⟨1, ucs (List.replicate N 0), none⟩ := Mem.rd_push _ _
  have n1 : (m.push ⟨1, ucs (List.replicate N 0), none⟩).next = m.next + 1 := Mem.push_next _ _
  generalize m.push ⟨1, ucs (List.replicate N 0), none⟩ = m1 at e1 q1 n1 ⊢
  have qb1 := (e1.kept _ hbl).trans hr
  obtain ⟨f, hf⟩ : ∃ f : Nat → Nat, f = fun a => othN N (r.getD a 0) a := ⟨_, rfl⟩
  refine loop_up N (fun i vs m' => vs = [.int .i64 (i : Int)] ∧ GtX (· = m.next) m1 m' ∧ m'.rd m.next = some ⟨1, ucs ((List.range i).map f ++ List.replicate (N - i) 0), none⟩) (by omega) ⟨rfl, GtX.refl _, q1⟩ ?_
  rintro i vs m2 hi ⟨rfl, e2, q2⟩ self hself
  have n2 := e2.next
  rw [uc_e, oInt_lss]
  refine oIf_dec (fun hc => ?_) (fun hc => ?_)
  · have hiN : i < N := by omega
    have hir : i < r.length := by omega
    have qb2 := (e2.kept b (by omega) (by omega)).trans qb1
    have hri := hb i hir
    have hx1 : 18446744073709551615 ^^^ r[i] < 18446744073709551616 := Nat.xor_lt_two_pow (n := 64) (by omega) (by omega)
    have hx2 : (18446744073709551615 ^^^ r[i]) &&& (2 ^ N - 1) < 18446744073709551616 := Nat.lt_of_le_of_lt Nat.and_le_left hx1
    have hpi : 2 ^ i < 2 ^ 64 := Nat.pow_lt_pow_right (by omega) (by omega)
    have hlen : i < ((List.range i).map f ++ List.replicate (N - i) 0).length := by rw [List.length_append, List.length_map, List.length_range, List.length_replicate]; omega
    have hst := st_set (L := L) (q := i) (x := .int .u64 ((f i : Nat) : Int)) q2 (by rw [ucs_len]; exact hlen) hL rfl rfl
    have hset : ((List.range i).map f ++ List.replicate (N - i) 0).set i (f i) = (List.range (i + 1)).map f ++ List.replicate (N - (i + 1)) 0 := by
      rw [List.set_append_right _ _ (by simp), List.range_succ, List.map_append, List.append_assoc]
      congr 1
      rw [List.length_map, List.length_range, Nat.sub_self, show N - i = (N - (i + 1)) + 1 by omega, List.replicate_succ]; rfl
    rw [ucs_set, hset] at hst
    have hfi : f i = ((18446744073709551615 ^^^ r[i]) &&& (2 ^ N - 1)) ^^^ (((18446744073709551615 ^^^ r[i]) &&& (2 ^ N - 1)) &&& 2 ^ i) := by
      rw [hf]
      show othN N (r.getD i 0) i = _
      rw [List.getD_eq_getElem?_getD, List.getElem?_eq_getElem hir]; rfl
    rw [ia1 hiN, oOpt_e, ldu qb2 hir, oOpt_e, not_u64 (by omega), oOpt_e, oOpt_e, shl95 N (by omega), oOpt_e, sub1_u64 _ (by omega) p0, and_u64 _ hx1 (by omega), shl95 i (by omega), oOpt_e, andNot_u64 _ hx2 hpi, ← hfi, ia1 hiN, oOpt_e, hst, oRes_e, oInt_add ⟨by omega, by omega⟩]
    exact hself hiN _ _ ⟨rfl, e2.put rfl _, Mem.rd_put_eq _ _ (by omega)⟩
  · have hiN : i = N := by omega
    subst hiN
    rw [Nat.sub_self, List.replicate_zero, List.append_nil] at q2
    have hol : othL i r = (List.range i).map f := by unfold othL; rw [hf]
    refine plan_sp (n := n) hlf (by omega) hN q2 (by simp) (fun j h => ?_) fun v m3 e3 hv => ?_
    · rw [List.getElem_map, List.getElem_range, hf]
      exact Nat.lt_of_lt_of_le (oth_lt hN) p6
    · obtain ⟨p, c, hvs⟩ := hv.pl.ex
      have e12 : Gt m m2 := GtX.gt e1 e2 fun c hc => by omega
      rw [← hol] at hv
      have := hk v m3 (e12.trans e3) (hv.le (by omega))
      rw [hvs] at this ⊢
      rw [if74, oOpt_e]
      exact this
theorem counts1_sp {b N : Nat} {r : List Nat} (hlf : 1000000 ≤ lf) (hL : L ≤ m.next) (hN : N ≤ 6) (hr : m.rd b = some ⟨1, ucs r, none⟩) (hl : r.length = N) (hb : ∀ i (h : i < r.length), r[i] < 64)
    (hk : ∀ v m', Gt m m' → GN m.next m' v (r.map pop) → k (.iface 22 v) m' = some ()) : runT (tabC lf) (n + 3) 104 [.slice (some ⟨b, 0, none⟩) N N] L m k = some () := by
  rw [r104]; dsimp only [S104, iofNat, inegSucc]
  have hbl := Mem.rd_lt hr
  rw [uc_e, un0_e, ln_e, oOpt_e]
  refine loop_up N (fun i vs m' => ∃ u, vs = [u, .int .i64 (i : Int)] ∧ Gt m m' ∧ GN m.next m' u ((r.map pop).take i)) (by omega) ⟨_, rfl, Gt.refl _, GN.nil _ _⟩ ?_
  rintro i vs m1 hi ⟨u, rfl, e1, hu⟩ self hself
  have n1 := e1.next
  rw [uc_e, uc_e, oInt_lss]
  refine oIf_dec (fun hc => ?_) (fun hc => ?_)
  · have hiN : i < N := by omega
    have hir : i < r.length := by omega
    have him : i < (r.map pop).length := by rw [List.length_map]; exact hir
    rw [ia1 hiN, oOpt_e, ldu ((e1.kept _ hbl).trans hr) hir, oOpt_e]
    refine onesCount_sp (hb i hir) ?_
    obtain ⟨z, m2, h1, h2, h3, h4⟩ := GN.snoc (P := Tryz.prog) (L := L) (L0 := m.next) (m0 := m) (pop r[i]) ael22 (by omega) hu (by rw [List.length_take, List.length_map]; omega) hL e1 (Nat.le_refl _)
    rw [bs22, oRes_e, h1, oRes_e, oInt_add ⟨by omega, by omega⟩]
    refine hself hiN _ _ ⟨z, rfl, h3, ?_⟩
    rw [List.take_add_one, List.getElem?_eq_getElem him, List.getElem_map]
    exact h2.le (by omega)
  · have hiN : i = N := by omega
    subst hiN
    rw [List.take_of_length_le (by rw [List.length_map]; omega)] at hu
    have := hk u m1 e1 hu
    obtain ⟨p, c, hus⟩ := hu.ex
    rw [hus] at this ⊢
    rw [if22, oOpt_e]
    exact this
theorem trios1_sp {b N : Nat} {r : List Nat} (hlf : 1000000 ≤ lf) (h1 : 1 ≤ N) (hN : N ≤ 6) (hr : m.rd b = some ⟨1, ucs r, none⟩) (hl : r.length = N) (hb : ∀ i (h : i < r.length), r[i] < 64) (hp : ∀ i (h : i < r.length), pop r[i] + 1 ≤ N)
    (hk : k (.iface 3 (.int .i64 (trioX N r))) m = some ()) : runT (tabC lf) (n + 3) 106 [.slice (some ⟨b, 0, none⟩) N N] L m k = some () := by
  rw [r106]; dsimp only [S106, iofNat, inegSucc]
  rw [uc_e, un0_e, ln_e, oOpt_e, oOpt_e]
  have hpm : ∀ i, ∀ x ∈ r.take i, pop x + 1 ≤ N := fun i x hx => by
    obtain ⟨j, hj, rfl⟩ := List.getElem_of_mem (List.mem_of_mem_take hx)
    exact hp j hj
  have hmb := fun i => mix_bd (N := N) (r := r) hN (hpm i)
  refine loop_up N (fun i vs m' => vs = [.int .i64 (mixI N (r.take i)), .int .i64 (i : Int)] ∧ m' = m) (by omega) ⟨rfl, rfl⟩ ?_
  rintro i vs m' hi ⟨rfl, rfl⟩ self hself
  have hmi := hmb i
  rw [List.length_take] at hmi
  rw [uc_e, uc_e, oInt_lss]
  refine oIf_dec (fun hc => ?_) (fun hc => ?_)
  · have hiN : i < N := by omega
    have hir : i < r.length := by omega
    have hpi := hp i hir
    obtain ⟨h4, h5⟩ := mul_bd (c := (pop r[i] : Int)) (n := (N : Int) - 1) (by omega) (by omega) (by omega)
    rw [ia1 hiN, oOpt_e, ldu hr hir, oOpt_e]
    refine onesCount_sp (hb i hir) ?_
    rw [oInt_sub ⟨by omega, by omega⟩, oInt_sub ⟨by omega, by omega⟩, oInt_mul ⟨by omega, by omega⟩, oInt_add ⟨by omega, by omega⟩, oInt_add ⟨by omega, by omega⟩]
    refine hself hiN _ _ ⟨?_, rfl⟩
    rw [List.take_add_one, List.getElem?_eq_getElem hir]
    show _ = [Value.int .i64 (mixI N (r.take i ++ [r[i]])), _]
    rw [mixI_snoc]; rfl
  · have hiN : i = N := by omega
    rw [List.take_of_length_le (by omega)] at hmi ⊢
    have hN3 : 0 ≤ (N : Int) * ((N : Int) - 1) ∧ (N : Int) * ((N : Int) - 1) ≤ 36 ∧ 0 ≤ (N : Int) * ((N : Int) - 1) * ((N : Int) - 2) ∧ (N : Int) * ((N : Int) - 1) * ((N : Int) - 2) ≤ 216 := by
      have : N = 1 ∨ N = 2 ∨ N = 3 ∨ N = 4 ∨ N = 5 ∨ N = 6 := by omega
      rcases this with rfl | rfl | rfl | rfl | rfl | rfl <;> decide
    obtain ⟨g1, g2, g3, g4⟩ := hN3
    have hq1 : 0 ≤ (N : Int) * ((N : Int) - 1) * ((N : Int) - 2) / 6 ∧ (N : Int) * ((N : Int) - 1) * ((N : Int) - 2) / 6 ≤ 216 := by omega
    have hq2 : 0 ≤ mixI N r / 2 ∧ mixI N r / 2 ≤ 216 := by omega
    rw [oInt_sub ⟨by omega, by omega⟩, oInt_mul ⟨by omega, by omega⟩, oInt_sub ⟨by omega, by omega⟩, oInt_mul ⟨by omega, by omega⟩, oInt_quo g3 (by omega) (by omega), oInt_quo hmi.1 (by omega) (by omega), oInt_sub ⟨by omega, by omega⟩, if3, oOpt_e]
    exact hk
/-! The same of plans. -/
theorem Others_sp {N : Nat} {v : Value} {B : Nat → Nat → Bool} (hlf : 1000000 ≤ lf) (hL : L ≤ m.next) (h1 : 1 ≤ N) (hN : N ≤ 6) (hv : PL m v (tabsOf N B))
    (hk : ∀ u m', Gt m m' → PG m.next m' u (tabsOf N fun x y => !B x y) → k (.tuple ⟨[.agg ⟨[.int .i64 (N : Int), u]⟩, .int .i64 0]⟩) m' = some ()) :
    runT (tabC lf) (n + 6) 38 [.agg ⟨[.int .i64 (N : Int), v]⟩] L m k = some () := by
  rw [r38]; dsimp only [S38, iofNat, inegSucc]
  obtain ⟨vp, vc, hvs⟩ := hv.ex
  have p6 : 2 ^ N ≤ 64 := Nat.le_trans (Nat.pow_le_pow_right (by omega) hN) (by decide)
  rw [uc_e, un0_e]
  refine bx2 fun m1 e1 q1 n1 => ?_
  rw [anew_eq, oRes_e]
  have e2 := Mem.gt_push m1 ⟨1, [.int .i64 0, .slice none 0 0], none⟩
  have q2 := Mem.rd_push m1 ⟨1, [.int .i64 0, .slice none 0 0], none⟩
  have n2 : (m1.push ⟨1, [.int .i64 0, .slice none 0 0], none⟩).next = m1.next + 1 := Mem.push_next _ _
  generalize m1.push ⟨1, [.int .i64 0, .slice none 0 0], none⟩ = m2 at e2 q2 n2 ⊢
  have q12 := (e2.kept _ (by omega)).trans q1
  rw [ldN2 q12, oOpt_e, r102]; dsimp only [S102, iofNat, inegSucc]
  rw [uc_e, uc_e, un0_e]
  refine bx2 fun m3 e3 q3 n3 => ?_
  rw [ldN2 q3, oOpt_e]
  have E3 := (e1.trans e2).trans e3
  refine opened_sp (n := n + 2) hlf (by omega) h1 hN tabs_tidy (tabT_nodup N B N) (by have := tabT_len B hN (Nat.le_refl N); unfold tabsOf; omega) (hv.mono E3) fun b r m4 e4 hb q4 hr => ?_
  have n4 := e4.next
  rw [ax0, oOpt_e, ax1, oOpt_e, oInt_neq, show (!decide ((0 : Int) = 0)) = false from rfl, oIf_f, oCallV_e (hf := rfl)]
  have hrb : ∀ j (h : j < r.length), r[j] < 64 := fun j h => Nat.lt_of_lt_of_le (hr.lt tabs_tidy h) p6
  show runT (tabC lf) (n + 4) 103 [.slice (some ⟨b, 0, none⟩) N N] L m4 _ = some ()
  refine others1_sp (n := n + 1) hlf (by omega) hN q4 hr.1 hrb fun u m5 e5 hu => ?_
  have n5 := e5.next
  obtain ⟨p, c, hus⟩ := hu.pl.ex
  rw [oth_tabs hN hr] at hu
  have ha : aassert Tryz.prog (.iface 74 (.agg ⟨[.int .i64 (N : Int), u]⟩)) 74 true = some (.tuple ⟨[.agg ⟨[.int .i64 (N : Int), u]⟩, .bool true]⟩) := by rw [hus]; exact as74 _ _ _ _
  rw [ax0, oOpt_e, ax1, oOpt_e, ha, oOpt_e, ax0, oOpt_e, ax1, oOpt_e]
  have q5 := (e5.kept _ (by omega)).trans ((e4.kept _ (by omega)).trans ((e3.kept _ (by omega)).trans q2))
  refine mk2 (by omega) (by rw [hus]; rfl) fun m6 e6 q6 n6 => ?_
  have q56 := (e6.kept _ (by omega)).trans q5
  rw [ldN2 q6, oOpt_e, show ptrTo m1.next = .pointer (some ⟨m1.next, 0, none⟩) from rfl, st2w q56 (by omega) (by rw [hus]; rfl), oRes_e]
  have q7 : (m6.put m1.next (some ⟨1, [.int .i64 (N : Int), u], none⟩)).rd m1.next = some ⟨1, [.int .i64 (N : Int), u], none⟩ := Mem.rd_put_eq _ _ (by omega)
  rw [ldN2 q7, oOpt_e]
  have hum := hu.mono e6
  refine hk u _ (Mem.put_gt (((E3.trans e4).trans e5).trans e6) _ (by omega)) ?_
  exact (hum.keep fun c hc hcm => Mem.rd_put _ _ _ _ (by omega)).le (by omega)
theorem Counts_sp {N : Nat} {v : Value} {B : Nat → Nat → Bool} (hlf : 1000000 ≤ lf) (hL : L ≤ m.next) (h1 : 1 ≤ N) (hN : N ≤ 6) (hv : PL m v (tabsOf N B))
    (hk : ∀ u m' r, Gt m m' → RoomOf N (tabsOf N B) r → GN m.next m' u (r.map pop) → k (.tuple ⟨[u, .int .i64 0]⟩) m' = some ()) :
    runT (tabC lf) (n + 6) 41 [.agg ⟨[.int .i64 (N : Int), v]⟩] L m k = some () := by
  rw [r41]; dsimp only [S41, iofNat, inegSucc]
  obtain ⟨vp, vc, hvs⟩ := hv.ex
  have p6 : 2 ^ N ≤ 64 := Nat.le_trans (Nat.pow_le_pow_right (by omega) hN) (by decide)
  rw [uc_e, un0_e]
  refine bx2 fun m1 e1 q1 n1 => ?_
  rw [ldN2 q1, oOpt_e, r102]; dsimp only [S102, iofNat, inegSucc]
  rw [uc_e, uc_e, un0_e]
  refine bx2 fun m3 e3 q3 n3 => ?_
  rw [ldN2 q3, oOpt_e]
  have E3 := e1.trans e3
  refine opened_sp (n := n + 2) hlf (by omega) h1 hN tabs_tidy (tabT_nodup N B N) (by have := tabT_len B hN (Nat.le_refl N); unfold tabsOf; omega) (hv.mono E3) fun b r m4 e4 hb q4 hr => ?_
  have n4 := e4.next
  rw [ax0, oOpt_e, ax1, oOpt_e, oInt_neq, show (!decide ((0 : Int) = 0)) = false from rfl, oIf_f, oCallV_e (hf := rfl)]
  have hrb : ∀ j (h : j < r.length), r[j] < 64 := fun j h => Nat.lt_of_lt_of_le (hr.lt tabs_tidy h) p6
  show runT (tabC lf) (n + 4) 104 [.slice (some ⟨b, 0, none⟩) N N] L m4 _ = some ()
  refine counts1_sp (n := n + 1) hlf (by omega) hN q4 hr.1 hrb fun u m5 e5 hu => ?_
  obtain ⟨p, c, hus⟩ := hu.ex
  have ha : aassert Tryz.prog (.iface 22 u) 22 true = some (.tuple ⟨[u, .bool true]⟩) := by rw [hus]; exact as22 _ _ _
  rw [ax0, oOpt_e, ax1, oOpt_e, ha, oOpt_e, ax0, oOpt_e, ax1, oOpt_e]
  exact hk u m5 r ((E3.trans e4).trans e5) hr (hu.le (by omega))
theorem Trios_sp {N : Nat} {v : Value} {B : Nat → Nat → Bool} (hlf : 1000000 ≤ lf) (hL : L ≤ m.next) (h1 : 1 ≤ N) (hN : N ≤ 6) (hv : PL m v (tabsOf N B))
    (hk : ∀ m' r, Gt m m' → RoomOf N (tabsOf N B) r → k (.tuple ⟨[.int .i64 (trioX N r), .int .i64 0]⟩) m' = some ()) :
    runT (tabC lf) (n + 6) 45 [.agg ⟨[.int .i64 (N : Int), v]⟩] L m k = some () := by
  rw [r45]; dsimp only [S45, iofNat, inegSucc]
  obtain ⟨vp, vc, hvs⟩ := hv.ex
  have p6 : 2 ^ N ≤ 64 := Nat.le_trans (Nat.pow_le_pow_right (by omega) hN) (by decide)
  rw [uc_e, un0_e]
  refine bx2 fun m1 e1 q1 n1 => ?_
  rw [ldN2 q1, oOpt_e, r102]; dsimp only [S102, iofNat, inegSucc]
  rw [uc_e, uc_e, un0_e]
  refine bx2 fun m3 e3 q3 n3 => ?_
  rw [ldN2 q3, oOpt_e]
  have E3 := e1.trans e3
  refine opened_sp (n := n + 2) hlf (by omega) h1 hN tabs_tidy (tabT_nodup N B N) (by have := tabT_len B hN (Nat.le_refl N); unfold tabsOf; omega) (hv.mono E3) fun b r m4 e4 hb q4 hr => ?_
  have n4 := e4.next
  rw [ax0, oOpt_e, ax1, oOpt_e, oInt_neq, show (!decide ((0 : Int) = 0)) = false from rfl, oIf_f, oCallV_e (hf := rfl)]
  have hrb : ∀ j (h : j < r.length), r[j] < 64 := fun j h => Nat.lt_of_lt_of_le (hr.lt tabs_tidy h) p6
  show runT (tabC lf) (n + 4) 106 [.slice (some ⟨b, 0, none⟩) N N] L m4 _ = some ()
  refine trios1_sp (n := n + 1) hlf h1 hN q4 hr.1 hrb (fun i h => room_pop hN hr h) ?_
  rw [ax0, oOpt_e, ax1, oOpt_e, as3, oOpt_e, ax0, oOpt_e, ax1, oOpt_e]
  exact hk m4 r (E3.trans e4) hr
end
end Go.Vit

/- How many trios there are: counted by who sits with how many. -/
namespace Go.Vit
open Go
def sumI (f : Nat → Int) : Nat → Int
  | 0 => 0
  | n + 1 => sumI f n + f n
theorem sumI_s (f : Nat → Int) (n : Nat) : sumI f (n + 1) = sumI f n + f n := rfl
theorem sumI_congr {f g : Nat → Int} : ∀ {n}, (∀ i, i < n → f i = g i) → sumI f n = sumI g n
  | 0, _ => rfl
  | n + 1, h => by rw [sumI_s, sumI_s, sumI_congr fun i hi => h i (by omega), h n (by omega)]
theorem sumI_bd {f : Nat → Int} {c : Int} : ∀ {n}, (∀ i, i < n → 0 ≤ f i ∧ f i ≤ c) → 0 ≤ sumI f n ∧ sumI f n ≤ c * n
  | 0, _ => by simp [sumI]
  | n + 1, h => by
    have h1 := sumI_bd (f := f) (c := c) (n := n) fun i hi => h i (by omega)
    have h2 := h n (by omega)
    have h3 : c * ((n + 1 : Nat) : Int) = c * n + c := by rw [Int.natCast_add, Int.mul_add]; simp
    rw [sumI_s]
    omega
section
variable (e : Nat → Nat → Int)
def dd (m s : Nat) : Int := sumI (e s) m
def tauI (a b c : Nat) : Int := 1 - (e a b + e a c + e b c) + (e a b * e a c + e a b * e b c + e a c * e b c)
def pairI (k m : Nat) : Int := sumI (fun b => sumI (fun c => tauI e k b c) b) m
def qI (m : Nat) : Int := sumI (fun s => dd e m s) m
def rI (k m : Nat) : Int := sumI (fun s => dd e m s * e k s) m
def xI (k m : Nat) : Int := sumI (fun s => e k s * e m s) m
def mI (n : Nat) : Int := sumI (fun s => dd e n s * ((n : Int) - 1 - dd e n s)) n
def tI (n : Nat) : Int := sumI (fun a => pairI e a a) n
variable {e}
theorem row_tau (k m : Nat) : ∀ j, sumI (fun c => tauI e k m c) j = j * (1 - e k m) - sumI (e k) j - sumI (e m) j + e k m * sumI (e k) j + e k m * sumI (e m) j + sumI (fun c => e k c * e m c) j
  | 0 => by simp [sumI]
  | j + 1 => by
    simp only [sumI_s, row_tau k m j]
    unfold tauI
    have : ((j + 1 : Nat) : Int) = (j : Int) + 1 := by simp
    rw [this]
    grind
theorem sum_flip {m : Nat} (hs : ∀ x y, e x y = e y x) : ∀ j, sumI (fun s => e s m) j = sumI (e m) j
  | 0 => rfl
  | j + 1 => by rw [sumI_s, sumI_s, sum_flip hs j, hs j m]
theorem q_aux (m : Nat) : ∀ j, sumI (fun s => dd e (m + 1) s) j = sumI (fun s => dd e m s) j + sumI (fun s => e s m) j
  | 0 => rfl
  | j + 1 => by
    rw [sumI_s, sumI_s, sumI_s, q_aux m j]
    have : dd e (m + 1) j = dd e m j + e j m := rfl
    rw [this]; omega
theorem q_succ (hs : ∀ x y, e x y = e y x) (hd : ∀ x, e x x = 0) (m : Nat) : qI e (m + 1) = qI e m + 2 * dd e m m := by
  have h1 : dd e (m + 1) m = dd e m m + e m m := rfl
  unfold qI
  rw [sumI_s, q_aux, sum_flip hs, h1, hd]
  show _ + dd e m m + (dd e m m + 0) = _
  omega
theorem r_aux (k m : Nat) (hs : ∀ x y, e x y = e y x) : ∀ j, sumI (fun s => dd e (m + 1) s * e k s) j = sumI (fun s => dd e m s * e k s) j + sumI (fun s => e k s * e m s) j
  | 0 => rfl
  | j + 1 => by
    rw [sumI_s, sumI_s, sumI_s, r_aux k m hs j]
    have h1 : dd e (m + 1) j = dd e m j + e j m := rfl
    rw [h1, hs j m]
    grind
theorem r_succ (hs : ∀ x y, e x y = e y x) (hd : ∀ x, e x x = 0) (k m : Nat) : rI e k (m + 1) = rI e k m + xI e k m + dd e m m * e k m := by
  have h1 : dd e (m + 1) m = dd e m m + e m m := rfl
  unfold rI xI
  rw [sumI_s, r_aux k m hs, h1, hd]
  grind
theorem pair_eq (hs : ∀ x y, e x y = e y x) (hd : ∀ x, e x x = 0) (h1 : ∀ x y, e x y * e x y = e x y) (k : Nat) : ∀ m : Nat, 2 * pairI e k m = (m : Int) * ((m : Int) - 1) - 2 * ((m : Int) - 1) * sumI (e k) m - qI e m + sumI (e k) m * sumI (e k) m - sumI (e k) m + 2 * rI e k m
  | 0 => by simp [pairI, sumI, qI, rI]
  | m + 1 => by
    have ih := pair_eq hs hd h1 k m
    have hp : pairI e k (m + 1) = pairI e k m + sumI (fun c => tauI e k m c) m := rfl
    have he := h1 k m
    have hm : sumI (e m) m = dd e m m := rfl
    have hx : sumI (fun c => e k c * e m c) m = xI e k m := rfl
    rw [hp, row_tau, hm, hx, q_succ hs hd, r_succ hs hd, sumI_s]
    have : ((m + 1 : Nat) : Int) = (m : Int) + 1 := by simp
    rw [this]
    generalize pairI e k m = P at ih ⊢
    generalize sumI (e k) m = D at ih ⊢
    generalize qI e m = Q at ih ⊢
    generalize rI e k m = R at ih ⊢
    generalize xI e k m = X
    generalize dd e m m = d
    generalize e k m = c at he ⊢
    generalize (m : Int) = z at ih ⊢
    grind
theorem m_aux (hs : ∀ x y, e x y = e y x) (h1 : ∀ x y, e x y * e x y = e x y) (n : Nat) : ∀ j, sumI (fun s => dd e (n + 1) s * (((n + 1 : Nat) : Int) - 1 - dd e (n + 1) s)) j
      = sumI (fun s => dd e n s * ((n : Int) - 1 - dd e n s)) j + sumI (fun s => dd e n s) j + ((n : Int) - 1) * sumI (fun s => e s n) j - 2 * sumI (fun s => dd e n s * e n s) j
  | 0 => by simp [sumI]
  | j + 1 => by
    rw [sumI_s, sumI_s, sumI_s, sumI_s, sumI_s, m_aux hs h1 n j]
    have h2 : dd e (n + 1) j = dd e n j + e j n := rfl
    have h3 := h1 j n
    have h4 := hs j n
    have h5 : ((n + 1 : Nat) : Int) = (n : Int) + 1 := by simp
    rw [h2, h5, ← h4]
    grind
theorem m_succ (hs : ∀ x y, e x y = e y x) (hd : ∀ x, e x x = 0) (h1 : ∀ x y, e x y * e x y = e x y) (n : Nat) :
    mI e (n + 1) = mI e n + qI e n + ((n : Int) - 1) * dd e n n - 2 * rI e n n + dd e n n * ((n : Int) - dd e n n) := by
  unfold mI
  rw [sumI_s, m_aux hs h1, sum_flip hs]
  have h2 : dd e (n + 1) n = dd e n n + e n n := rfl
  rw [h2, hd]
  have h5 : ((n + 1 : Nat) : Int) = (n : Int) + 1 := by simp
  rw [h5]
  unfold qI rI
  have h6 : sumI (e n) n = dd e n n := rfl
  rw [h6]
  grind
theorem trio_law (hs : ∀ x y, e x y = e y x) (hd : ∀ x, e x x = 0) (h1 : ∀ x y, e x y * e x y = e x y) : ∀ n : Nat, 6 * tI e n = (n : Int) * ((n : Int) - 1) * ((n : Int) - 2) - 3 * mI e n
  | 0 => by simp [tI, mI, sumI]
  | n + 1 => by
    have ih := trio_law hs hd h1 n
    have hp := pair_eq hs hd h1 n n
    have h6 : sumI (e n) n = dd e n n := rfl
    rw [h6] at hp
    have ht : tI e (n + 1) = tI e n + pairI e n n := rfl
    rw [ht, m_succ hs hd h1]
    have h5 : ((n + 1 : Nat) : Int) = (n : Int) + 1 := by simp
    rw [h5]
    grind
end
/-- Who sits with whom, as a number. -/
def eR (r : List Nat) (x y : Nat) : Int := if (r.getD x 0).testBit y = true then 1 else 0
theorem eR_sq (r : List Nat) (x y : Nat) : eR r x y * eR r x y = eR r x y := by unfold eR; split <;> rfl
section
variable {N : Nat} {l : List (Nat × Nat)} {r : List Nat}
theorem room_get (h : RoomOf N l r) (hl : ∀ p ∈ l, p.1 < p.2 ∧ p.2 < N) (x y : Nat) : (r.getD x 0).testBit y = (decide ((x, y) ∈ l) || decide ((y, x) ∈ l)) := by
  by_cases hx : x < r.length
  · rw [List.getD_eq_getElem?_getD, List.getElem?_eq_getElem hx]
    exact h.2 x hx y
  · rw [List.getD_eq_getElem?_getD, List.getElem?_eq_none (by omega)]
    have h1 : (x, y) ∉ l := fun hm => by have := hl _ hm; have h2 : x < y := this.1; have h3 : y < N := this.2; have := h.1; omega
    have h2 : (y, x) ∉ l := fun hm => by have := hl _ hm; have h2 : x < N := this.2; have := h.1; omega
    rw [decide_eq_false h1, decide_eq_false h2]; simp
theorem eR_sym (h : RoomOf N l r) (hl : ∀ p ∈ l, p.1 < p.2 ∧ p.2 < N) (x y : Nat) : eR r x y = eR r y x := by
  unfold eR
  rw [room_get h hl, room_get h hl, Bool.or_comm]
theorem eR_diag (h : RoomOf N l r) (hl : ∀ p ∈ l, p.1 < p.2 ∧ p.2 < N) (x : Nat) : eR r x x = 0 := by
  unfold eR
  have h1 : (x, x) ∉ l := fun hm => by have := (hl _ hm).1; have h2 : x < x := this; omega
  rw [room_get h hl, decide_eq_false h1]; rfl
theorem filt_sum (q : Nat → Bool) : ∀ n, (((List.range n).filter q).length : Int) = sumI (fun i => if q i = true then 1 else 0) n
  | 0 => rfl
  | n + 1 => by
    rw [List.range_succ, List.filter_append, List.length_append, sumI_s, ← filt_sum q n]
    cases h : q n <;> simp [h]
theorem sumI_cut {f : Nat → Int} {N : Nat} : ∀ {m : Nat}, N ≤ m → (∀ i, N ≤ i → f i = 0) → sumI f m = sumI f N
  | 0, h, _ => by rw [Nat.le_zero.1 h]
  | m + 1, h, h0 => by
    rcases Nat.lt_or_ge m N with h1 | h1
    · rw [show N = m + 1 by omega]
    · rw [sumI_s, sumI_cut h1 h0, h0 m h1]; omega
theorem room_dd (hN : N ≤ 6) (h : RoomOf N l r) (hl : ∀ p ∈ l, p.1 < p.2 ∧ p.2 < N) {x : Nat} (hx : x < r.length) : (pop r[x] : Int) = dd (eR r) N x := by
  have hb : ∀ i, r[x].testBit i = (r.getD x 0).testBit i := fun i => by rw [List.getD_eq_getElem?_getD, List.getElem?_eq_getElem hx]; rfl
  have hlt : r[x] < 64 := Nat.lt_of_lt_of_le (h.lt hl hx) (Nat.le_trans (Nat.pow_le_pow_right (by omega) hN) (by decide))
  rw [pop_bits ⟨r[x], hlt⟩]
  show (((List.range 6).filter fun i => r[x].testBit i).length : Int) = _
  rw [filt_sum, sumI_cut (N := N) hN fun i hi => ?_]
  · unfold dd eR
    exact sumI_congr fun i _ => by rw [hb]
  · rw [hb, room_get h hl, decide_eq_false (fun hm => by have := (hl _ hm).2; have h2 : i < N := this; omega), decide_eq_false (fun hm => by have := hl _ hm; have h2 : i < x := this.1; have h3 : x < N := this.2; omega)]; rfl
theorem mix_eq (hN : N ≤ 6) (h : RoomOf N l r) (hl : ∀ p ∈ l, p.1 < p.2 ∧ p.2 < N) : mixI N r = mI (eR r) N := by
  have key : ∀ i, i ≤ r.length → mixI N (r.take i) = sumI (fun s => dd (eR r) N s * ((N : Int) - 1 - dd (eR r) N s)) i := by
    intro i
    induction i with
    | zero => intro _; rfl
    | succ i ih =>
      intro hi
      rw [List.take_add_one, List.getElem?_eq_getElem (by omega)]
      show mixI N (r.take i ++ [r[i]]) = _
      rw [mixI_snoc, ih (by omega), sumI_s, room_dd hN h hl (by omega)]
  have := key r.length (Nat.le_refl _)
  rw [List.take_length, h.1] at this
  exact this
theorem trio_eq (h1 : 1 ≤ N) (hN : N ≤ 6) (h : RoomOf N l r) (hl : ∀ p ∈ l, p.1 < p.2 ∧ p.2 < N) : trioX N r = tI (eR r) N := by
  have hlaw := trio_law (eR_sym h hl) (eR_diag h hl) (eR_sq r) N
  unfold trioX
  rw [mix_eq hN h hl]
  generalize mI (eR r) N = M at hlaw ⊢
  generalize tI (eR r) N = T at hlaw ⊢
  have : N = 1 ∨ N = 2 ∨ N = 3 ∨ N = 4 ∨ N = 5 ∨ N = 6 := by omega
  rcases this with rfl | rfl | rfl | rfl | rfl | rfl <;> simp at hlaw ⊢ <;> omega
end
/-- All three sit with each other, or none with another one. -/
def monoB (r : List Nat) (a b c : Nat) : Bool := ((r.getD a 0).testBit b == (r.getD a 0).testBit c) && ((r.getD a 0).testBit b == (r.getD b 0).testBit c)
theorem tau_mono (r : List Nat) (a b c : Nat) : tauI (eR r) a b c = if monoB r a b c = true then 1 else 0 := by
  unfold tauI eR monoB
  cases (r.getD a 0).testBit b <;> cases (r.getD a 0).testBit c <;> cases (r.getD b 0).testBit c <;> rfl
end Go.Vit

