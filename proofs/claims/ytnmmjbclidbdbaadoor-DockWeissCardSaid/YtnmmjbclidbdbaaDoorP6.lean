/- All lists of numbers in ascending order, and how many before each serve all. -/
import Derived.Test.YtnmmjbclidbdbaaDoorP5
set_option linter.unusedSimpArgs false
set_option linter.unusedVariables false
namespace Go.Vit
open Go
/-- The next list. -/
def nxtL (N : Nat) : List Nat → Option (List Nat)
  | [] => none
  | w :: l => match nxtL N l with
    | some l' => some (w :: l')
    | none => if w + 1 < N then some ((w + 1) :: List.replicate l.length 0) else none
theorem nxt_some {N w : Nat} {l l' : List Nat} (h : nxtL N l = some l') : nxtL N (w :: l) = some (w :: l') := by
  show (match nxtL N l with | some l' => some (w :: l') | none => if w + 1 < N then some ((w + 1) :: List.replicate l.length 0) else none) = _
  rw [h]
theorem nxt_none {N w : Nat} {l : List Nat} (h : nxtL N l = none) : nxtL N (w :: l) = if w + 1 < N then some ((w + 1) :: List.replicate l.length 0) else none := by
  show (match nxtL N l with | some l' => some (w :: l') | none => if w + 1 < N then some ((w + 1) :: List.replicate l.length 0) else none) = _
  rw [h]
theorem nxt_end {N : Nat} (hN : 1 ≤ N) : ∀ p, nxtL N (List.replicate p (N - 1)) = none
  | 0 => rfl
  | p + 1 => by rw [List.replicate_succ, nxt_none (nxt_end hN p), if_neg (by omega)]
theorem nxt_mid {N c r : Nat} (hN : 1 ≤ N) (hc : c + 1 < N) : ∀ a : List Nat, nxtL N (a ++ c :: List.replicate r (N - 1)) = some (a ++ (c + 1) :: List.replicate r 0)
  | [] => by
    show nxtL N (c :: List.replicate r (N - 1)) = _
    rw [nxt_none (nxt_end hN r), if_pos hc, List.length_replicate]; rfl
  | x :: a => nxt_some (nxt_mid hN hc a)
def rkL (N : Nat) : List Nat → Nat
  | [] => 0
  | w :: l => w * N ^ l.length + rkL N l
theorem rk_zero (N : Nat) : ∀ p, rkL N (List.replicate p 0) = 0
  | 0 => rfl
  | p + 1 => by rw [List.replicate_succ]; show 0 * _ + rkL N (List.replicate p 0) = 0; rw [rk_zero N p, Nat.zero_mul]
theorem rk_lt {N : Nat} : ∀ {l : List Nat}, (∀ x ∈ l, x < N) → rkL N l < N ^ l.length
  | [], _ => Nat.zero_lt_one
  | w :: l, h => by
    have h1 := rk_lt fun x hx => h x (List.mem_cons_of_mem _ hx)
    have h2 := h w (List.mem_cons_self ..)
    show w * N ^ l.length + rkL N l < N ^ (l.length + 1)
    have h3 : (w + 1) * N ^ l.length ≤ N * N ^ l.length := Nat.mul_le_mul_right _ (by omega)
    rw [Nat.succ_mul] at h3
    rw [Nat.pow_succ, Nat.mul_comm (N ^ l.length) N]
    omega
theorem nxt_rk {N : Nat} : ∀ {l : List Nat}, (∀ x ∈ l, x < N) → match nxtL N l with
    | some l' => rkL N l' = rkL N l + 1 ∧ l'.length = l.length ∧ ∀ x ∈ l', x < N
    | none => rkL N l + 1 = N ^ l.length
  | [], _ => rfl
  | w :: l, h => by
    have ih := nxt_rk fun x hx => h x (List.mem_cons_of_mem _ hx)
    have h2 := h w (List.mem_cons_self ..)
    cases hn : nxtL N l with
    | some l' =>
      rw [hn] at ih
      obtain ⟨i1, i2, i3⟩ := ih
      rw [nxt_some hn]
      refine ⟨?_, by simp [i2], ?_⟩
      · show w * N ^ l'.length + rkL N l' = w * N ^ l.length + rkL N l + 1
        rw [i2, i1]; omega
      · intro x hx
        rcases List.mem_cons.1 hx with h | h
        · omega
        · exact i3 x h
    | none =>
      rw [hn] at ih
      have ih : rkL N l + 1 = N ^ l.length := ih
      rw [nxt_none hn]
      by_cases hw : w + 1 < N
      · rw [if_pos hw]
        refine ⟨?_, by simp, ?_⟩
        · show (w + 1) * N ^ (List.replicate l.length 0).length + rkL N (List.replicate l.length 0) = w * N ^ l.length + rkL N l + 1
          rw [rk_zero, List.length_replicate, Nat.succ_mul]; omega
        · intro x hx
          rcases List.mem_cons.1 hx with h | h
          · omega
          · rw [List.eq_of_mem_replicate h]; omega
      · rw [if_neg hw]
        show w * N ^ l.length + rkL N l + 1 = N ^ (l.length + 1)
        have hw2 : N = w + 1 := by omega
        rw [Nat.pow_succ, Nat.mul_comm (N ^ l.length) N]
        conv => rhs; lhs; rw [hw2]
        rw [Nat.succ_mul]; omega
def b01 (b : Bool) : Nat := if b = true then 1 else 0
theorem cb_zero (N : Nat) : ∀ p T, cbW N (List.replicate p 0) T = 0
  | 0, _ => rfl
  | p + 1, T => by
    rw [List.replicate_succ]
    show sumC _ 0 + (match fbay N (fun c => T.testBit c) 0 with | some b => cbW N (List.replicate p 0) (T ||| 2 ^ b) | none => 0) = 0
    have : sumC (gW N T (List.replicate p 0).length) 0 = 0 := rfl
    rw [this]
    cases fbay N (fun c => T.testBit c) 0 with
    | none => rfl
    | some b => show 0 + cbW N (List.replicate p 0) (T ||| 2 ^ b) = 0; rw [cb_zero N p]
theorem cb_s {N x T b : Nat} {l : List Nat} (h : fbay N (fun c => T.testBit c) x = some b) : cbW N (x :: l) T = sumC (gW N T l.length) x + cbW N l (T ||| 2 ^ b) := by
  show sumC _ x + (match fbay N (fun c => T.testBit c) x with | some b => cbW N l (T ||| 2 ^ b) | none => 0) = _
  rw [h]
theorem cb_n {N x T : Nat} {l : List Nat} (h : fbay N (fun c => T.testBit c) x = none) : cbW N (x :: l) T = sumC (gW N T l.length) x := by
  show sumC _ x + (match fbay N (fun c => T.testBit c) x with | some b => cbW N l (T ||| 2 ^ b) | none => 0) = _
  rw [h]; rfl
theorem srv_s {N x T b : Nat} {l : List Nat} (h : fbay N (fun c => T.testBit c) x = some b) : srvB N (x :: l) T = srvB N l (T ||| 2 ^ b) := by
  show (match fbay N (fun c => T.testBit c) x with | some b => srvB N l (T ||| 2 ^ b) | none => false) = _
  rw [h]
theorem srv_n {N x T : Nat} {l : List Nat} (h : fbay N (fun c => T.testBit c) x = none) : srvB N (x :: l) T = false := by
  show (match fbay N (fun c => T.testBit c) x with | some b => srvB N l (T ||| 2 ^ b) | none => false) = _
  rw [h]
/-- One list after the other one. -/
theorem cb_nxt {N : Nat} : ∀ {l : List Nat}, (∀ x ∈ l, x < N) → ∀ T, match nxtL N l with
    | some l' => cbW N l' T = cbW N l T + b01 (srvB N l T)
    | none => cbW N l T + b01 (srvB N l T) = cntW N l.length T
  | [], _, _ => rfl
  | w :: l, h, T => by
    have hl : ∀ x ∈ l, x < N := fun x hx => h x (List.mem_cons_of_mem _ hx)
    have h2 := h w (List.mem_cons_self ..)
    have h3 := sumC_s (gW N T l.length) w
    cases hn : nxtL N l with
    | some l' =>
      have hlen : l'.length = l.length := by have := nxt_rk hl; rw [hn] at this; exact this.2.1
      rw [nxt_some hn]
      show cbW N (w :: l') T = cbW N (w :: l) T + b01 (srvB N (w :: l) T)
      cases hf : fbay N (fun c => T.testBit c) w with
      | none => rw [cb_n hf, cb_n hf, srv_n hf, hlen]; rfl
      | some b =>
        have ih := cb_nxt hl (T ||| 2 ^ b)
        rw [hn] at ih
        have ih : cbW N l' (T ||| 2 ^ b) = cbW N l (T ||| 2 ^ b) + b01 (srvB N l (T ||| 2 ^ b)) := ih
        rw [cb_s hf, cb_s hf, srv_s hf, hlen, ih]; omega
    | none =>
      have hg : cbW N (w :: l) T + b01 (srvB N (w :: l) T) = sumC (gW N T l.length) (w + 1) := by
        cases hf : fbay N (fun c => T.testBit c) w with
        | none => rw [cb_n hf, srv_n hf, h3, gW_none hf]; rfl
        | some b =>
          have ih := cb_nxt hl (T ||| 2 ^ b)
          rw [hn] at ih
          have ih : cbW N l (T ||| 2 ^ b) + b01 (srvB N l (T ||| 2 ^ b)) = cntW N l.length (T ||| 2 ^ b) := ih
          rw [cb_s hf, srv_s hf, h3, gW_some hf, ← ih]; omega
      rw [nxt_none hn]
      by_cases hw : w + 1 < N
      · rw [if_pos hw]
        show cbW N ((w + 1) :: List.replicate l.length 0) T = cbW N (w :: l) T + b01 (srvB N (w :: l) T)
        rw [hg]
        cases hf : fbay N (fun c => T.testBit c) (w + 1) with
        | none => rw [cb_n hf, List.length_replicate]
        | some b => rw [cb_s hf, cb_zero, List.length_replicate]; rfl
      · rw [if_neg hw]
        show cbW N (w :: l) T + b01 (srvB N (w :: l) T) = cntW N (l.length + 1) T
        rw [hg, cntW_succ, show w + 1 = N by omega]
/-- The formula. -/
theorem weiss : ((List.range 6).all fun n => (List.range (n + 1)).all fun p => Nat.beq n 0 || Nat.beq (cntW n p 0) (if p = 0 then 1 else (n + 1 - p) * (n + 1) ^ (p - 1))) = true := by decide +kernel
theorem weiss_e {n p : Nat} (h1 : 1 ≤ n) (h5 : n ≤ 5) (hp : p ≤ n) : cntW n p 0 = if p = 0 then 1 else (n + 1 - p) * (n + 1) ^ (p - 1) := by
  have h := List.all_eq_true.1 (List.all_eq_true.1 weiss n (List.mem_range.2 (by omega))) p (List.mem_range.2 (by omega))
  rw [Bool.or_eq_true] at h
  rcases h with h | h
  · have := Nat.eq_of_beq_eq_true h; omega
  · exact Nat.eq_of_beq_eq_true h
end Go.Vit
