/- All lists of numbers, one after the other one (P6's first part and W19, cut out for a claim's size). -/
import Derived.Test.YtnmmjbclidbdbaaDoorW14
set_option linter.unusedSimpArgs false
set_option linter.unusedVariables false
set_option maxRecDepth 20000
namespace Go.Vit
open Go Go.Proofs
attribute [local irreducible] runT loopS
theorem take_snoc {l : List Nat} {i : Nat} (h : i < l.length) : l.take (i + 1) = l.take i ++ [l[i]] := by
  rw [List.take_add_one, List.getElem?_eq_getElem h]; rfl
theorem parkL_cell {n : Nat} {l : List Nat} : ∀ x ∈ parkL n l, x = -1 ∨ 0 ≤ x ∧ x < n := fun x hx => by
  obtain ⟨i, hi, rfl⟩ := List.getElem_of_mem hx
  rw [parkL_len] at hi
  obtain ⟨p, hp, hb⟩ := parkL_bd (n := n) hi
  rw [List.getElem?_eq_getElem (by rw [parkL_len]; exact hi)] at hp
  rw [Option.some.inj hp]
  rcases hb with h | h
  · exact .inl h
  · exact .inr ⟨by omega, h.2⟩
/-- The next list. -/
def nxtL (N : Nat) : List Nat → Option (List Nat)
  | [] => none
  | w :: l => match nxtL N l with
    | some l' => some (w :: l')
    | none => if w + 1 < N then some ((w + 1) :: List.replicate l.length 0) else none
theorem nxt_some {N w : Nat} {l l' : List Nat} (h : nxtL N l = some l') : nxtL N (w :: l) = some (w :: l') := by
  show (match nxtL N l with | some l' => some (w :: l') | none => if w + 1 < N then some ((w + 1) :: List.replicate l.length 0) else none) = _
  rw [h]
theorem nxt_none {N w : Nat} {l : List Nat} (h : nxtL N l = none) : nxtL N (w :: l) = if w + 1 < N then some ((w + 1) :: List.replicate l.length 0) else none := by
  show (match nxtL N l with | some l' => some (w :: l') | none => if w + 1 < N then some ((w + 1) :: List.replicate l.length 0) else none) = _
  rw [h]
theorem nxt_end {N : Nat} (hN : 1 ≤ N) : ∀ p, nxtL N (List.replicate p (N - 1)) = none
  | 0 => rfl
  | p + 1 => by rw [List.replicate_succ, nxt_none (nxt_end hN p), if_neg (by omega)]
theorem nxt_mid {N c r : Nat} (hN : 1 ≤ N) (hc : c + 1 < N) : ∀ a : List Nat, nxtL N (a ++ c :: List.replicate r (N - 1)) = some (a ++ (c + 1) :: List.replicate r 0)
  | [] => by
    show nxtL N (c :: List.replicate r (N - 1)) = _
    rw [nxt_none (nxt_end hN r), if_pos hc, List.length_replicate]; rfl
  | x :: a => nxt_some (nxt_mid hN hc a)
def rkL (N : Nat) : List Nat → Nat
  | [] => 0
  | w :: l => w * N ^ l.length + rkL N l
theorem rk_zero (N : Nat) : ∀ p, rkL N (List.replicate p 0) = 0
  | 0 => rfl
  | p + 1 => by rw [List.replicate_succ]; show 0 * _ + rkL N (List.replicate p 0) = 0; rw [rk_zero N p, Nat.zero_mul]
theorem rk_lt {N : Nat} : ∀ {l : List Nat}, (∀ x ∈ l, x < N) → rkL N l < N ^ l.length
  | [], _ => Nat.zero_lt_one
  | w :: l, h => by
    have h1 := rk_lt fun x hx => h x (List.mem_cons_of_mem _ hx)
    have h2 := h w (List.mem_cons_self ..)
    show w * N ^ l.length + rkL N l < N ^ (l.length + 1)
    have h3 : (w + 1) * N ^ l.length ≤ N * N ^ l.length := Nat.mul_le_mul_right _ (by omega)
    rw [Nat.succ_mul] at h3
    rw [Nat.pow_succ, Nat.mul_comm (N ^ l.length) N]
    omega
theorem nxt_rk {N : Nat} : ∀ {l : List Nat}, (∀ x ∈ l, x < N) → match nxtL N l with
    | some l' => rkL N l' = rkL N l + 1 ∧ l'.length = l.length ∧ ∀ x ∈ l', x < N
    | none => rkL N l + 1 = N ^ l.length
  | [], _ => rfl
  | w :: l, h => by
    have ih := nxt_rk fun x hx => h x (List.mem_cons_of_mem _ hx)
    have h2 := h w (List.mem_cons_self ..)
    cases hn : nxtL N l with
    | some l' =>
      rw [hn] at ih
      obtain ⟨i1, i2, i3⟩ := ih
      rw [nxt_some hn]
      refine ⟨?_, by simp [i2], ?_⟩
      · show w * N ^ l'.length + rkL N l' = w * N ^ l.length + rkL N l + 1
        rw [i2, i1]; omega
      · intro x hx
        rcases List.mem_cons.1 hx with h | h
        · omega
        · exact i3 x h
    | none =>
      rw [hn] at ih
      have ih : rkL N l + 1 = N ^ l.length := ih
      rw [nxt_none hn]
      by_cases hw : w + 1 < N
      · rw [if_pos hw]
        refine ⟨?_, by simp, ?_⟩
        · show (w + 1) * N ^ (List.replicate l.length 0).length + rkL N (List.replicate l.length 0) = w * N ^ l.length + rkL N l + 1
          rw [rk_zero, List.length_replicate, Nat.succ_mul]; omega
        · intro x hx
          rcases List.mem_cons.1 hx with h | h
          · omega
          · rw [List.eq_of_mem_replicate h]; omega
      · rw [if_neg hw]
        show w * N ^ l.length + rkL N l + 1 = N ^ (l.length + 1)
        have hw2 : N = w + 1 := by omega
        rw [Nat.pow_succ, Nat.mul_comm (N ^ l.length) N]
        conv => rhs; lhs; rw [hw2]
        rw [Nat.succ_mul]; omega
def cellsN (l : List Nat) : List Value := (ci l).map (Value.int .i64)
theorem cellsN_len (l : List Nat) : (cellsN l).length = l.length := by unfold cellsN; rw [List.length_map, ci_length]
theorem cellsN_get {l : List Nat} {i : Nat} (h : i < l.length) : (cellsN l)[i]? = some (.int .i64 (l[i] : Int)) := by
  unfold cellsN ci
  rw [List.map_map, List.getElem?_map, List.getElem?_eq_getElem h]; rfl
theorem cellsN_set (l : List Nat) (i x : Nat) : (cellsN l).set i (.int .i64 (x : Int)) = cellsN (l.set i x) := by
  unfold cellsN ci
  rw [List.map_set, List.map_set]
theorem set_mid {α : Type} (a : List α) (c x : α) (z : List α) : (a ++ c :: z).set a.length x = a ++ x :: z := by
  rw [List.set_append_right _ _ (Nat.le_refl _), Nat.sub_self]; rfl
theorem tby3 : tbytes Tryd.prog 3 = some 8 := by kernel_rfl
theorem make22 (m : Mem) {a : Nat} (ha : a ≤ 8) : amakeSlice Tryd.prog m 22 (.int .i64 (a : Int)) (.int .i64 (a : Int)) = some (.slice (some ⟨m.next, 0, none⟩) a a, m.push ⟨1, cellsN (List.replicate a 0), none⟩) := by
  unfold amakeSlice
  have h1 : anat (.int .i64 (a : Int)) = some a := by
    show anat (.int .i64 (Int.ofNat a)) = _
    simp only [anat, natK_eq]
  simp only [u22, azero3, ts3, tby3, h1]
  have h2 : Nat.mul 8 a = 8 * a := rfl
  have h3 : azrow [.int .i64 0] a = cellsN (List.replicate a 0) := by
    rw [azrow_rep]; unfold cellsN ci; rw [List.map_replicate, List.map_replicate]; rfl
  rw [h2, ble_t (Nat.le_refl a), ble_t (show a ≤ 1048576 by omega), ble_t (show 8 * a ≤ 281474976710656 by omega)]
  simp only [List.length_singleton, Nat.beq_refl, Bool.and_self, anew_eq, h3]
/-- What is done with each list. -/
def EachL (lf ce L : Nat) (ev : Value) (X : Nat → Prop) (m0 : Mem) (N p : Nat) (J : Option (List Nat) → Mem → Prop) : Prop :=
  ∀ (n : Nat) (m : Mem) (b : Nat) (l : List Nat) (k : Value → Mem → Option Unit), GtX X m0 m → J (some l) m → l.length = p → (∀ x ∈ l, x < N) → m.rd b = some ⟨1, cellsN l, none⟩ → ¬ X b →
    (∀ m', GtX X m m' → J (nxtL N l) m' → k (.tuple ⟨[]⟩) m' = some ()) → oCallV (runT (tab lf) (n + ce)) ev [.slice (some ⟨b, 0, none⟩) p p] L m k = some ()
section
variable {lf n L : Nat} {m : Mem} {k : Value → Mem → Option Unit}
set_option maxHeartbeats 2000000 in
theorem all_sp {ce N p : Nat} {ev : Value} {X : Nat → Prop} {J : Option (List Nat) → Mem → Prop} (hlf : 1000000 ≤ lf) (hL : L ≤ m.next) (hN1 : 1 ≤ N) (hN8 : N ≤ 8) (hp : p ≤ 8) (hNp : N ^ p < 1000000) (hX : ∀ c, X c → c < m.next)
    (hE : EachL lf ce L ev X m N p J) (hJ : ∀ o m1 m2, (∀ c, c < m.next → m2.rd c = m1.rd c) → J o m1 → J o m2) (h0 : J (some (List.replicate p 0)) m) (hk : ∀ m', GtX X m m' → J none m' → k (.tuple ⟨[]⟩) m' = some ()) :
    runT (tab lf) (n + ce + 1) 44 [.int .i64 (p : Int), .int .i64 (N : Int), ev] L m k = some () := by
  rw [r44]; dsimp only [S44, iofNat, inegSucc]
  rw [uc_e, uc_e, uc_e, un0_e, make22 m hp, oRes_e]
  have e1 := Mem.gt_push m ⟨1, cellsN (List.replicate p 0), none⟩
  have q1 : (m.push ⟨1, cellsN (List.replicate p 0), none⟩).rd m.next = some ⟨1, cellsN (List.replicate p 0), none⟩ := Mem.rd_push _ _
  have n1 : (m.push ⟨1, cellsN (List.replicate p 0), none⟩).next = m.next + 1 := Mem.push_next _ _
  generalize m.push ⟨1, cellsN (List.replicate p 0), none⟩ = m1 at e1 q1 n1 ⊢
  have hXb : ¬ X m.next := fun h => by have := hX _ h; omega
  refine loop_of (n := N ^ p) (fun μ vs m' => ∃ l, vs = [] ∧ μ = N ^ p - rkL N l ∧ GtX X m m' ∧ m.next < m'.next ∧ m'.rd m.next = some ⟨1, cellsN l, none⟩ ∧ J (some l) m' ∧ l.length = p ∧ ∀ x ∈ l, x < N) ?_
    ⟨List.replicate p 0, rfl, by rw [rk_zero]; rfl, GtX.of e1, by omega, q1, hJ _ m _ e1.kept h0, List.length_replicate, fun x hx => by rw [List.eq_of_mem_replicate hx]; omega⟩ (by omega)
  rintro μ vs m2 ⟨l, rfl, rfl, e2, n2, q2, j2, hl, hlt⟩ self hself
  refine hE n m2 m.next l _ e2 j2 hl hlt q2 hXb fun m3 e3 j3 => ?_
  have n3 := e3.next
  have q3 := (e3.kept m.next n2 hXb).trans q2
  rw [oInt_sub ⟨by omega, by omega⟩]
  refine loop_up p (fun r vs m' => vs = [.int .i64 ((p : Int) - 1 - (r : Int))] ∧ l.drop (p - r) = List.replicate r (N - 1) ∧ GtX (· = m.next) m3 m' ∧ m'.rd m.next = some ⟨1, cellsN (l.take (p - r) ++ List.replicate r 0), none⟩) (by omega)
    ⟨by rw [show (p : Int) - 1 - ((0 : Nat) : Int) = (p : Int) - 1 by omega], by rw [Nat.sub_zero, List.drop_eq_nil_of_le (by omega)]; rfl, GtX.refl _, by rw [q3, Nat.sub_zero, List.take_of_length_le (by omega), List.replicate_zero, List.append_nil]⟩ ?_
  rintro r vs m4 hr ⟨rfl, hdr, e4, q4⟩ self2 hself2
  have n4 := e4.next
  have hm4 : ∀ c, c < m.next → m4.rd c = m3.rd c := fun c hc => e4.kept c (by omega) (by omega)
  rw [uc_e, oInt_geq]
  by_cases hrp : r < p
  · obtain ⟨i, hi⟩ : ∃ i, i = p - r - 1 := ⟨_, rfl⟩
    have hil : i < l.length := by omega
    have hpi : p - r = i + 1 := by omega
    have hlti := hlt _ (List.getElem_mem hil)
    have hti : (l.take i).length = i := by rw [List.length_take]; omega
    have htk : l.take (p - r) ++ List.replicate r 0 = l.take i ++ l[i] :: List.replicate r 0 := by rw [hpi, take_snoc hil, List.append_assoc]; rfl
    have hl2 : l = l.take i ++ l[i] :: List.replicate r (N - 1) := by
      conv => lhs; rw [← List.take_append_drop i l]
      rw [List.drop_eq_getElem_cons hil, ← hpi, hdr]
    rw [htk] at q4
    have hlen : i < (l.take i ++ l[i] :: List.replicate r 0).length := by rw [List.length_append, hti]; simp
    have hcl : i < (cellsN (l.take i ++ l[i] :: List.replicate r 0)).length := by rw [cellsN_len]; exact hlen
    have hget : (l.take i ++ l[i] :: List.replicate r 0)[i]'hlen = l[i] := by
      rw [List.getElem_append_right (by omega)]
      simp [hti]
    have hset : ∀ x, (l.take i ++ l[i] :: List.replicate r 0).set i x = l.take i ++ x :: List.replicate r 0 := fun x => by
      have := set_mid (l.take i) l[i] x (List.replicate r 0)
      rwa [hti] at this
    have hia : ia 1 (.slice (some ⟨m.next, 0, none⟩) p p) (.int .i64 (i : Int)) = some (.pointer (some ⟨m.next, i, none⟩)) := by
      rw [ia_e (by omega), Nat.zero_add, Nat.mul_one]
    have hld : ld1 m4 (.pointer (some ⟨m.next, i, none⟩)) = some (.int .i64 (l[i] : Int)) := by
      rw [ld1_u, q4, rdo_e, cellsN_get hlen, hget]
    rw [show (p : Int) - 1 - (r : Int) = (i : Int) by omega, decide_eq_true (show (0 : Int) ≤ (i : Int) by omega), join_e, oGT_t, hia, oOpt_e, hld, oOpt_e, oInt_sub ⟨by omega, by omega⟩, oInt_eql]
    dsimp only
    rw [uc_e, oPick_t]
    refine oIf_dec (fun hc => ?_) (fun hc => ?_)
    · have hcN : l[i] = N - 1 := by omega
      have hst := st_int (L := L) (x := 0) q4 hcl hL
      rw [show (Value.int .i64 0) = .int .i64 ((0 : Nat) : Int) from rfl, cellsN_set, hset] at hst
      rw [oOpt_e, show (Value.int .i64 0) = .int .i64 ((0 : Nat) : Int) from rfl, hst, oRes_e, oInt_sub ⟨by omega, by omega⟩]
      refine hself2 hrp _ _ ⟨by rw [show (i : Int) - 1 = (p : Int) - 1 - ((r + 1 : Nat) : Int) by omega], ?_, e4.put rfl _, ?_⟩
      · rw [show p - (r + 1) = i by omega, List.drop_eq_getElem_cons hil, ← hpi, hdr, hcN]; rfl
      · rw [Mem.rd_put_eq _ _ (by omega), show p - (r + 1) = i by omega]; rfl
    · clear hself2
      have hcN : l[i] + 1 < N := by omega
      have hnx := nxt_mid (r := r) hN1 hcN (l.take i)
      rw [← hl2] at hnx
      have hrk := nxt_rk hlt
      rw [hnx] at j3 hrk
      obtain ⟨k1, k2, k3⟩ := hrk
      have hrl := rk_lt k3
      rw [k2, hl, k1] at hrl
      have hst := st_int (L := L) (x := ((l[i] + 1 : Nat) : Int)) q4 hcl hL
      rw [cellsN_set, hset] at hst
      rw [oInt_lss, decide_eq_false (show ¬ (i : Int) < 0 by omega), oIf_f, oOpt_e, hld, oOpt_e, oInt_add ⟨by omega, by omega⟩, oOpt_e, show (l[i] : Int) + 1 = ((l[i] + 1 : Nat) : Int) by omega, hst, oRes_e]
      have e5 : GtX (· = m.next) m3 (m4.put m.next (some ⟨1, cellsN (l.take i ++ (l[i] + 1) :: List.replicate r 0), none⟩)) := e4.put rfl _
      refine hself _ _ _ ?_ ⟨l.take i ++ (l[i] + 1) :: List.replicate r 0, rfl, rfl, ?_, by show m.next < m4.next; omega, Mem.rd_put_eq _ _ (by omega), hJ _ m3 _ (fun c hc => e5.kept c (by omega) (by omega)) j3, by omega, k3⟩
      · rw [k1]; omega
      · exact ⟨by show m.next ≤ m4.next; omega, fun c hc hn => (e5.kept c (by omega) (by omega)).trans ((e3.kept c (by omega) hn).trans (e2.kept c hc hn))⟩
  · have hrp2 : r = p := by omega
    subst hrp2
    rw [Nat.sub_self, List.drop_zero] at hdr
    have hnx := nxt_end hN1 r
    rw [← hdr] at hnx
    rw [hnx] at j3
    rw [decide_eq_false (show ¬ (0 : Int) ≤ (r : Int) - 1 - (r : Int) by omega), join_e, oGT_f]
    dsimp only
    rw [uc_e, oPick_f, oIf_f, oInt_lss, decide_eq_true (show (r : Int) - 1 - (r : Int) < 0 by omega), oIf_t]
    exact hk m4 ⟨by omega, fun c hc hn => (e4.kept c (by omega) (by omega)).trans ((e3.kept c (by omega) hn).trans (e2.kept c hc hn))⟩ (hJ _ m3 _ hm4 j3)
end
theorem ax0 (a b : Value) : aextract (.tuple ⟨[a, b]⟩) 0 = some a := id rfl
theorem ax1 (a b : Value) : aextract (.tuple ⟨[a, b]⟩) 1 = some b := id rfl
end Go.Vit
