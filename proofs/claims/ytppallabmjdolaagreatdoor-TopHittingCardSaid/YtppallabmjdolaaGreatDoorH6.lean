/- Walks: members, lists compared, hours checked. -/
import Derived.Test.YtppallabmjdolaaGreatDoorH5
set_option linter.unusedSimpArgs false
set_option linter.unusedVariables false
set_option maxRecDepth 20000
namespace Go.Vit
open Go Go.Proofs
attribute [local irreducible] runT loopS
def memL (g : Nat) : List Nat := (List.range 6).filter fun i => g.testBit i
def memTo (g i : Nat) : List Nat := (List.range i).filter fun i => g.testBit i
theorem memTo_s (g i : Nat) : memTo g (i + 1) = memTo g i ++ if g.testBit i = true then [i] else [] := by
  unfold memTo
  rw [List.range_succ, List.filter_append]
  congr 1
  cases h : g.testBit i <;> simp [h]
theorem memTo_len (g i : Nat) : (memTo g i).length ≤ i := by
  have := List.length_filter_le (fun i => g.testBit i) (List.range i)
  rwa [List.length_range] at this
theorem memL_asc (g : Nat) : (memL g).Pairwise (· < ·) := List.Pairwise.filter _ (range_asc 6)
theorem mem_memL {g i : Nat} : i ∈ memL g ↔ i < 6 ∧ g.testBit i = true := by
  unfold memL
  rw [List.mem_filter, List.mem_range]
theorem shr3 (x i : Nat) (hi : i ≤ 64) : abin Tryz.prog .shr 3 (.int .i64 (x : Int)) (.int .i64 (i : Int)) = some (.int .i64 ((x >>> i : Nat) : Int)) := by
  show ashift .shr .i64 (Int.ofNat x) (Int.ofNat i) = _
  unfold ashift
  rw [show ilt (Int.ofNat i) 0 = false by rw [ilt_e]; exact decide_eq_false (by rw [Int.ofNat_eq_natCast]; omega)]
  show mkI .i64 (ashr (Int.ofNat x) (nmin i 64)) = _
  have : nmin i 64 = i := by unfold nmin; rw [Nat.ble_eq_true_of_le hi]
  rw [this, mkI_e]; rfl
theorem oCallV_b {β : Type} (call : CallK β) (f : FuncId) (x : Value) (vs : List Value) (L : Nat) (m : Mem) (k : Value → Mem → Option β) (hf : Nat.blt f RB = true) : oCallV call (.func (.func f) #[x] #[]) vs L m k = call f (x :: vs) L m k := by
  simp only [oCallV, atarget, ayield, abnd, hf]
def hitB (S : List Nat) (l : List Hp) : Bool := l.all fun h => S.any fun x => hasH h x
theorem hitB_iff {S : List Nat} {l : List Hp} : hitB S l = true ↔ Hit S l := by
  unfold hitB Hit
  rw [List.all_eq_true]
  exact ⟨fun h x hx => List.any_eq_true.1 (h x hx), fun h x hx => List.any_eq_true.2 (h x hx)⟩
section
variable {lf n L : Nat} {m : Mem} {k : Value → Mem → Option Unit}
theorem members_sp {g : Nat} (hlf : 1000000 ≤ lf) (hL : L ≤ m.next) (hg : g < 64) (hk : ∀ u m', Gt m m' → GN m.next m' u (memL g) → k u m' = some ()) : runT (tabC lf) (n + 1) 16 [.int .i64 (g : Int), .int .i64 6] L m k = some () := by
  rw [r16]; dsimp only [S16, iofNat, inegSucc]
  rw [uc_e, uc_e, un0_e]
  refine loop_up 6 (fun i vs m' => ∃ u, vs = [u, .int .i64 (i : Int)] ∧ Gt m m' ∧ GN m.next m' u (memTo g i)) (by omega) ⟨_, rfl, Gt.refl _, GN.nil _ _⟩ ?_
  rintro i vs m1 hi ⟨u, rfl, e1, hu⟩ self hself
  have n1 := e1.next
  rw [uc_e, uc_e, oInt_lss]
  refine oIf_dec (fun hc => ?_) (fun hc => ?_)
  · have hi6 : i < 6 := by omega
    have hml := memTo_len g i
    have hb := bit01 g i
    have hx : g >>> i < 64 := Nat.lt_of_le_of_lt (Nat.shiftRight_le _ _) hg
    rw [shr3 _ _ (by omega), oOpt_e, show (Value.int .i64 1) = .int .i64 ((1 : Nat) : Int) from rfl, oInt_and (by omega) (by omega), hb, oInt_eql, join_e]
    rw [memTo_s] at hself
    cases ht : g.testBit i with
    | true =>
      rw [ht, if_pos rfl] at hself
      rw [show decide ((((if (true : Bool) = true then 1 else 0 : Nat)) : Int) = ((1 : Nat) : Int)) = true from rfl, oIf_t, bs22, oRes_e]
      obtain ⟨z, m2, h1, h2, h3, h4⟩ := GN.snoc (P := Tryz.prog) (L := L) (L0 := m.next) (m0 := m) i ael22 (by omega) hu (by omega) hL e1 (Nat.le_refl _)
      rw [h1, oRes_e]
      dsimp only
      rw [uc_e, oInt_add ⟨by omega, by omega⟩]
      exact hself hi6 _ _ ⟨z, rfl, h3, h2.le (by omega)⟩
    | false =>
      rw [ht, if_neg (by simp), List.append_nil] at hself
      rw [show decide ((((if (false : Bool) = true then 1 else 0 : Nat)) : Int) = ((1 : Nat) : Int)) = false from rfl, oIf_f]
      dsimp only
      rw [uc_e, oInt_add ⟨by omega, by omega⟩]
      exact hself hi6 _ _ ⟨u, rfl, e1, hu⟩
  · have hi6 : i = 6 := by omega
    subst hi6
    exact hk u m1 e1 hu
theorem cmp84_sp {x y : Nat} (hk : k (.int .i64 (if x < y then -1 else if y < x then 1 else 0)) m = some ()) : runT (tabC lf) (n + 2) 84 [.int .i64 (x : Int), .int .i64 (y : Int)] L m k = some () := by
  rw [r84]; dsimp only [S84, iofNat, inegSucc]
  rw [uc_e, uc_e, un0_e, r133]; dsimp only [S133, iofNat, inegSucc]
  rw [uc_e, un0_e, oInt_neq, decide_eq_true rfl, Bool.not_true, uc_e, un0_e, oInt_neq, decide_eq_true rfl, Bool.not_true, oIf_f, oIf_f, oInt_lss]
  refine oIf_dec (fun h => ?_) (fun h => ?_)
  · rw [if_pos (by omega)] at hk; exact hk
  · rw [if_neg (by omega)] at hk
    rw [oInt_gtr]
    refine oIf_dec (fun h2 => ?_) (fun h2 => ?_)
    · rw [if_pos (by omega)] at hk; exact hk
    · rw [if_neg (by omega)] at hk; exact hk
theorem compare_sp {v u : Value} {a b : List Nat} (hlf : 1000000 ≤ lf) (hv : IN m v a) (hu : IN m u b) (hl : a.length < 1000) (hl2 : b.length < 1000) (hk : k (.int .i64 (cmpL a b)) m = some ()) : runT (tabC lf) (n + 3) 25 [v, u] L m k = some () := by
  rw [r25]; dsimp only [S25, iofNat, inegSucc]
  rw [uc_e, uc_e, un0_e, hv.ln, oOpt_e]
  refine loop_up a.length (fun i vs m' => vs = [.int .i64 (i : Int)] ∧ m' = m ∧ i ≤ b.length ∧ cmpL (a.drop i) (b.drop i) = cmpL a b) (by omega) ⟨rfl, rfl, Nat.zero_le _, rfl⟩ ?_
  rintro i vs m' hi ⟨rfl, rfl, hib, hcm⟩ self hself
  rw [uc_e, oInt_lss]
  refine oIf_dec (fun hc => ?_) (fun hc => ?_)
  · have hia : i < a.length := by omega
    rw [hv.ia hia, oOpt_e, hv.ld hia, oOpt_e, hu.ln, oOpt_e, oInt_geq]
    have hda : a.drop i = a[i] :: a.drop (i + 1) := List.drop_eq_getElem_cons hia
    refine oIf_dec (fun h => ?_) (fun h => ?_)
    · rw [List.drop_eq_nil_of_le (show b.length ≤ i by omega), hda] at hcm
      rw [← hcm] at hk
      exact hk
    · have hib2 : i < b.length := by omega
      have hdb : b.drop i = b[i] :: b.drop (i + 1) := List.drop_eq_getElem_cons hib2
      rw [hda, hdb] at hcm
      have hcm : (if a[i] < b[i] then -1 else if b[i] < a[i] then 1 else cmpL (a.drop (i + 1)) (b.drop (i + 1))) = cmpL a b := hcm
      rw [hu.ia hib2, oOpt_e, hu.ld hib2, oOpt_e]
      refine cmp84_sp ?_
      by_cases h1 : a[i] < b[i]
      · rw [if_pos h1] at hcm ⊢
        rw [← hcm] at hk
        rw [oInt_neq, show (!decide ((-1 : Int) = 0)) = true from rfl, oIf_t]
        exact hk
      · rw [if_neg h1] at hcm ⊢
        by_cases h2 : b[i] < a[i]
        · rw [if_pos h2] at hcm ⊢
          rw [← hcm] at hk
          rw [oInt_neq, show (!decide ((1 : Int) = 0)) = true from rfl, oIf_t]
          exact hk
        · rw [if_neg h2] at hcm ⊢
          rw [oInt_neq, show (!decide ((0 : Int) = 0)) = false from rfl, oIf_f, oInt_add ⟨by omega, by omega⟩]
          exact hself hia _ _ ⟨rfl, rfl, by omega, hcm⟩
  · have hia : i = a.length := by omega
    subst hia
    rw [List.drop_length] at hcm
    rw [oOpt_e, hu.ln, oOpt_e, oInt_lss]
    refine oIf_dec (fun h => ?_) (fun h => ?_)
    · rw [List.drop_eq_getElem_cons (show a.length < b.length by omega)] at hcm
      rw [← hcm] at hk
      exact hk
    · rw [List.drop_eq_nil_of_le (by omega)] at hcm
      rw [← hcm] at hk
      exact hk
theorem meets_sp {v u : Value} {l : List Hp} {S : List Nat} (hlf : 1000000 ≤ lf) (hL : L ≤ m.next) (hv : PL m v l) (hu : IN m u S) (hl : l.length ≤ 10) (hr : ∀ h ∈ l, h.1 ≤ h.2 ∧ h.2 ≤ 23) (hS : S.Pairwise (· < ·)) (hS2 : ∀ x ∈ S, x ≤ 23) (hSl : S.length < 1000)
    (hk : ∀ m', Gt m m' → k (.int .i64 (if hitB S l = true then 0 else 14)) m' = some ()) : runT (tabC lf) (n + 8) 21 [v, u] L m k = some () := by
  rw [r21]; dsimp only [S21, iofNat, inegSucc]
  rw [uc_e, uc_e, un0_e]
  refine check73_sp (n := n + 5) hlf hL hv hl hr fun m1 e1 => ?_
  have n1 := e1.next
  rw [oInt_neq, show (!decide ((0 : Int) = 0)) = false from rfl, oIf_f, hu.ln, oOpt_e]
  have hu1 := hu.mono e1
  refine loop_up S.length (fun i vs m' => ∃ z : Int, vs = [.int .i64 z, .int .i64 (i : Int)] ∧ m' = m1 ∧ ∀ (h : i < S.length), z < (S[i] : Int)) (by omega) ⟨-1, rfl, rfl, fun h => by omega⟩ ?_
  rintro i vs m' hi ⟨z, rfl, rfl, hz⟩ self hself
  rw [uc_e, uc_e, oInt_lss]
  refine oIf_dec (fun hc => ?_) (fun hc => ?_)
  · have hiS : i < S.length := by omega
    have h23 := hS2 _ (List.getElem_mem hiS)
    have hzz := hz hiS
    rw [hu1.ia hiS, oOpt_e, hu1.ld hiS, oOpt_e]
    refine between_sp _ _ _ ?_
    rw [decide_eq_true (by omega), aun_not, oOpt_e, Bool.not_true, oIf_f, oInt_leq, decide_eq_false (by omega), oIf_f, oInt_add ⟨by omega, by omega⟩]
    refine hself hiS _ _ ⟨_, rfl, rfl, fun h => ?_⟩
    have := List.pairwise_iff_getElem.1 hS i (i + 1) hiS h (by omega)
    omega
  · clear hself
    rw [hv.ln, oOpt_e]
    refine loop_up l.length (fun i vs m' => vs = [.int .i64 (i : Int)] ∧ Gt m m' ∧ hitB S (l.take i) = true) (by omega) ⟨rfl, e1, rfl⟩ ?_
    rintro i vs m2 hi2 ⟨rfl, e2, hh⟩ self hself
    have n2 := e2.next
    rw [uc_e, oInt_lss]
    refine oIf_dec (fun hc2 => ?_) (fun hc2 => ?_)
    · have hil : i < l.length := by omega
      have hv2 := hv.mono e2
      rw [hv2.ia hil, oOpt_e, hv2.ldN hil, oOpt_e]
      show (oRes (anew m2 1 [.int .i64 0, .int .i64 0] ptrTo) fun t m' => oRes (st1 2 L m' t (.agg ⟨[.int .i64 (l[i].1 : Int), .int .i64 (l[i].2 : Int)]⟩)) _) = some ()
      refine mk2 (by omega) rfl fun m3 e3 q3 n3 => ?_
      have e23 := e2.trans e3
      rw [ldN2 q3, oOpt_e]
      have hf : FnN (runT (tabC lf) (n + 5)) (.func (.func 75) #[.agg ⟨[.int .i64 (l[i].1 : Int), .int .i64 (l[i].2 : Int)]⟩] #[]) L m3 S fun x => hasH l[i] x := by
        intro m x k _ hx hk
        rw [oCallV_b (hf := rfl)]
        exact has75_sp (n := n + 3) (h := l[i]) hk
      refine containsFuncN_sp (n := n + 5) hlf (hu.mono e23) (by omega) hf fun m4 e4 => ?_
      rw [aun_not, oOpt_e]
      have htake : hitB S (l.take (i + 1)) = (S.any fun x => hasH l[i] x) := by
        have hh' := hh
        unfold hitB at hh' ⊢
        rw [List.take_add_one, List.getElem?_eq_getElem hil, Option.toList_some, List.all_append, hh', Bool.true_and]
        simp
      refine oIf_bool (fun h => ?_) (fun h => ?_)
      · have hno : hitB S l = false := by
          unfold hitB
          rw [List.all_eq_false]
          exact ⟨l[i], List.getElem_mem hil, by simpa using h⟩
        have := hk m4 (e23.trans e4)
        rw [hno] at this
        exact this
      · rw [oInt_add ⟨by omega, by omega⟩]
        exact hself hil _ _ ⟨rfl, e23.trans e4, by rw [htake]; simpa using h⟩
    · rw [List.take_of_length_le (by omega)] at hh
      have := hk m2 e2
      rw [hh] at this
      exact this
end
end Go.Vit
