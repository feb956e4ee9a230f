/- Lists of wishes are counted: by the bays that are taken, and by how many wish for each bay. -/
import Derived.Test.YtnmmjbclidbdbaaDoorW15
import Derived.Test.YtnmmjbclidbdbaaDoorP4
set_option linter.unusedSimpArgs false
set_option linter.unusedVariables false
namespace Go.Vit
open Go
theorem sumC_s (f : Nat → Nat) (b : Nat) : sumC f (b + 1) = sumC f b + f b := rfl
theorem sumC_congr {f g : Nat → Nat} : ∀ {n}, (∀ b, b < n → f b = g b) → sumC f n = sumC g n
  | 0, _ => rfl
  | n + 1, h => by rw [sumC_s, sumC_s, sumC_congr fun b hb => h b (by omega), h n (by omega)]
theorem sumC_add (f g : Nat → Nat) : ∀ n, sumC (fun i => f i + g i) n = sumC f n + sumC g n
  | 0 => rfl
  | n + 1 => by rw [sumC_s, sumC_s, sumC_s, sumC_add f g n]; omega
theorem sumC_mul (c : Nat) (f : Nat → Nat) : ∀ n, sumC (fun i => c * f i) n = c * sumC f n
  | 0 => rfl
  | n + 1 => by rw [sumC_s, sumC_s, sumC_mul c f n, Nat.mul_add]
theorem sumC_zero {f : Nat → Nat} : ∀ {n}, (∀ b, b < n → f b = 0) → sumC f n = 0
  | 0, _ => rfl
  | n + 1, h => by rw [sumC_s, sumC_zero fun b hb => h b (by omega), h n (by omega)]
theorem sumC_mono (f : Nat → Nat) {i : Nat} : ∀ {n}, i ≤ n → sumC f i ≤ sumC f n
  | 0, h => by rw [Nat.le_zero.1 h]; exact Nat.le_refl _
  | n + 1, h => by
    rcases Nat.lt_or_ge i (n + 1) with h1 | h1
    · have := sumC_mono f (show i ≤ n by omega); rw [sumC_s]; omega
    · rw [show i = n + 1 by omega]; exact Nat.le_refl _
theorem sumC_swap (f : Nat → Nat → Nat) (n : Nat) : ∀ m, sumC (fun i => sumC (fun j => f i j) n) m = sumC (fun j => sumC (fun i => f i j) m) n
  | 0 => (sumC_zero fun _ _ => rfl).symm
  | m + 1 => by rw [sumC_s, sumC_swap f n m, ← sumC_add]; rfl
theorem sumC_shift (f : Nat → Nat) : ∀ n, sumC f (n + 1) = f 0 + sumC (fun j => f (j + 1)) n
  | 0 => by rw [sumC_s]; show 0 + f 0 = f 0 + 0; omega
  | n + 1 => by rw [sumC_s, sumC_shift f n, sumC_s]; omega
theorem sumC_ind (q : Nat → Bool) : ∀ n, sumC (fun x => if q x = true then 1 else 0) n = ((List.range n).filter q).length
  | 0 => rfl
  | n + 1 => by
    rw [sumC_s, sumC_ind q n, List.range_succ, List.filter_append, List.length_append]
    cases h : q n <;> simp [h]
theorem sumC_one (c : Nat → Nat) (b : Nat) : ∀ {n}, b < n → sumC (fun x => if b = x then c x else 0) n = c b
  | 0, h => by omega
  | n + 1, h => by
    rw [sumC_s]
    by_cases hb : b = n
    · rw [if_pos hb, hb, sumC_zero fun x hx => if_neg (by omega)]; omega
    · rw [if_neg hb, sumC_one c b (by omega)]; rfl
theorem bkN_runB (T : Nat) : ∀ b, bkN (fun c => T.testBit c) b = 1 + runB T b
  | 0 => rfl
  | b + 1 => by
    have h := bkN_runB T b
    have h1 : bkN (fun c => T.testBit c) (b + 1) = if T.testBit b then 1 + bkN (fun c => T.testBit c) b else 1 := rfl
    have h2 : runB T (b + 1) = if T.testBit b = true then runB T b + 1 else 0 := rfl
    rw [h1, h2, h]
    cases T.testBit b <;> simp <;> omega
/-- How many wishes lead to a free bay. -/
theorem lead_sum {N T b : Nat} (hb : b < N) (hT : T.testBit b = false) : sumC (fun x => if fbay N (fun c => T.testBit c) x = some b then 1 else 0) N = 1 + runB T b := by
  have h1 : ∀ x, fbay N (fun c => T.testBit c) x = some b ↔ upto (fun c => T.testBit c) x b = true := fun x => by
    rw [upto_iff]
    constructor
    · intro h
      obtain ⟨_, h2, _, h4⟩ := fbay_some h
      exact ⟨h2, h4⟩
    · rintro ⟨h2, h4⟩
      exact fbay_of hb h2 hT h4
  have h2 : sumC (fun x => if fbay N (fun c => T.testBit c) x = some b then 1 else 0) N = sumC (fun x => if upto (fun c => T.testBit c) x b = true then 1 else 0) N :=
    sumC_congr fun x _ => by
      by_cases h : upto (fun c => T.testBit c) x b = true
      · rw [if_pos h, if_pos ((h1 x).2 h)]
      · rw [if_neg h, if_neg fun h' => h ((h1 x).1 h')]
  have h3 : ∀ n, b < n → sumC (fun x => if upto (fun c => T.testBit c) x b = true then 1 else 0) n = sumC (fun x => if upto (fun c => T.testBit c) x b = true then 1 else 0) (b + 1) := fun n => by
    induction n with
    | zero => intro h; omega
    | succ n ih =>
      intro h
      by_cases hn : b = n
      · rw [hn]
      · rw [sumC_s, ih (by omega), if_neg (fun h' => by have := (upto_iff.1 h').1; omega)]; rfl
  rw [h2, h3 N hb, sumC_ind, upto_cnt, bkN_runB]
theorem cntW_succ (N m T : Nat) : cntW N (m + 1) T = sumC (gW N T m) N := by
  have h1 : ∀ x, x < N → gW N T m x = sumC (fun b => if fbay N (fun c => T.testBit c) x = some b then cntW N m (T ||| 2 ^ b) else 0) N := fun x _ => by
    unfold gW
    cases h : fbay N (fun c => T.testBit c) x with
    | none => exact (sumC_zero fun b _ => if_neg (by simp)).symm
    | some b =>
      have hb := (fbay_some h).1
      show cntW N m (T ||| 2 ^ b) = _
      rw [← sumC_one (fun b => cntW N m (T ||| 2 ^ b)) b hb]
      exact sumC_congr fun y _ => by
        by_cases hy : b = y
        · rw [if_pos hy, if_pos (by rw [hy])]
        · rw [if_neg hy, if_neg (by simpa using hy)]
  rw [sumC_congr h1, sumC_swap]
  show sumC (fun b => if T.testBit b = true then 0 else (1 + runB T b) * cntW N m (T ||| 2 ^ b)) N = _
  refine sumC_congr fun b hb => ?_
  cases ht : T.testBit b with
  | true =>
    rw [if_pos rfl]
    refine (sumC_zero fun x _ => if_neg fun h => ?_).symm
    rw [(fbay_some h).2.2.1] at ht; cases ht
  | false =>
    rw [if_neg (by simp), ← lead_sum hb ht, Nat.mul_comm, ← sumC_mul]
    exact sumC_congr fun x _ => by split <;> simp
/-- Wishes that serve all, from a row on. -/
def srvB (N : Nat) : List Nat → Nat → Bool
  | [], _ => true
  | x :: l, T => match fbay N (fun c => T.testBit c) x with
    | some b => srvB N l (T ||| 2 ^ b)
    | none => false
/-- How many lists that serve all come before a list. -/
def cbW (N : Nat) : List Nat → Nat → Nat
  | [], _ => 0
  | x :: l, T => sumC (gW N T l.length) x + match fbay N (fun c => T.testBit c) x with
    | some b => cbW N l (T ||| 2 ^ b)
    | none => 0
theorem srv_cons {N x T : Nat} {l : List Nat} (h : srvB N (x :: l) T = true) : ∃ b, fbay N (fun c => T.testBit c) x = some b ∧ srvB N l (T ||| 2 ^ b) = true ∧ x < N := by
  unfold srvB at h
  split at h
  · rename_i b hb
    have := fbay_some hb
    exact ⟨b, hb, h, by omega⟩
  · cases h
theorem cbW_num {N : Nat} : ∀ {l : List Nat} {T : Nat}, srvB N l T = true → cbW N l T = numD N l T
  | [], _, _ => rfl
  | x :: l, T, h => by
    obtain ⟨b, hb, h2, _⟩ := srv_cons h
    show sumC (gW N T l.length) x + (match fbay N (fun c => T.testBit c) x with | some b => cbW N l (T ||| 2 ^ b) | none => 0) = sumC (gW N T l.length) x + numD N l (stepT N T x)
    unfold stepT
    rw [hb]
    show _ + cbW N l (T ||| 2 ^ b) = _ + numD N l (T ||| 2 ^ b)
    rw [cbW_num h2]
theorem numD_c {N x T b : Nat} {l : List Nat} (hb : fbay N (fun c => T.testBit c) x = some b) : numD N (x :: l) T = sumC (gW N T l.length) x + numD N l (T ||| 2 ^ b) := by
  show sumC (gW N T l.length) x + numD N l (stepT N T x) = _
  unfold stepT; rw [hb]
theorem gW_some {N x T b m : Nat} (hb : fbay N (fun c => T.testBit c) x = some b) : gW N T m x = cntW N m (T ||| 2 ^ b) := by unfold gW; rw [hb]
theorem gW_none {N x T m : Nat} (hb : fbay N (fun c => T.testBit c) x = none) : gW N T m x = 0 := by unfold gW; rw [hb]
theorem numD_lt {N : Nat} : ∀ {l : List Nat} {T : Nat}, srvB N l T = true → numD N l T < cntW N l.length T
  | [], _, _ => Nat.zero_lt_one
  | x :: l, T, h => by
    obtain ⟨b, hb, h2, hx⟩ := srv_cons h
    have ih := numD_lt h2
    rw [numD_c hb, List.length_cons, cntW_succ]
    have h3 := sumC_mono (gW N T l.length) (show x + 1 ≤ N by omega)
    rw [sumC_s, gW_some hb] at h3
    omega
theorem pick_one {g : Nat → Nat} {x y n : Nat} (h1 : sumC g x ≤ n) (h2 : n < sumC g (x + 1)) (h3 : sumC g y ≤ n) (h4 : n < sumC g (y + 1)) : x = y := by
  rcases Nat.lt_trichotomy x y with h | h | h
  · have := sumC_mono g (show x + 1 ≤ y by omega); omega
  · exact h
  · have := sumC_mono g (show y + 1 ≤ x by omega); omega
theorem numD_inj {N : Nat} : ∀ {l l' : List Nat} {T : Nat}, srvB N l T = true → srvB N l' T = true → l.length = l'.length → numD N l T = numD N l' T → l = l'
  | [], [], _, _, _, _, _ => rfl
  | [], _ :: _, _, _, _, h, _ => by simp at h
  | _ :: _, [], _, _, _, h, _ => by simp at h
  | x :: l, y :: l', T, h, h', hl, he => by
    have hl0 : l.length = l'.length := by simpa using hl
    clear hl
    obtain ⟨b, hb, h2, hx⟩ := srv_cons h
    obtain ⟨b', hb', h2', hx'⟩ := srv_cons h'
    have k1 := numD_lt h2
    have k2 := numD_lt h2'
    rw [numD_c hb, numD_c hb', ← hl0] at he
    have e1 := sumC_s (gW N T l.length) x
    have e2 := sumC_s (gW N T l.length) y
    rw [gW_some hb] at e1
    rw [gW_some hb', ] at e2
    rw [← hl0] at k2
    have hxy : x = y := pick_one (g := gW N T l.length) (n := sumC (gW N T l.length) x + numD N l (T ||| 2 ^ b)) (by omega) (by omega) (by omega) (by omega)
    subst hxy
    rw [hb] at hb'; cases hb'
    rw [numD_inj h2 h2' hl0 (by omega)]
theorem srv_park {N : Nat} (hN : N ≤ 8) : ∀ (l : List Nat) {T : Nat} {acc : List Int}, BitsOf N T acc → (-1 : Int) ∉ acc → srvB N l T = decide ((-1 : Int) ∉ parkA N acc l)
  | [], _, _, _, h => (decide_eq_true h).symm
  | x :: l, T, acc, hB, h => by
    have h1 : parkA N acc (x :: l) = parkA N (acc ++ [bayOf N acc x]) l := rfl
    rw [h1]
    unfold srvB
    rw [hB.fb x]
    rcases bayOf_cases N acc x with ⟨h2, h3⟩ | ⟨b, h2, h3, h4, h5, h6⟩
    · rw [h3, h2]
      obtain ⟨r, hr⟩ := parkA_pre N l (acc ++ [-1])
      refine (decide_eq_false fun hn => hn ?_).symm
      rw [hr]; simp
    · rw [h3, h2]
      refine srv_park hN l (hB.put (by omega)) ?_
      rw [List.mem_append, List.mem_singleton]
      rintro (h | h)
      · contradiction
      · omega
theorem srv_zero {N : Nat} (hN : N ≤ 8) (l : List Nat) : srvB N l 0 = decide ((-1 : Int) ∉ parkL N l) := srv_park hN l (BitsOf.nil N) (by simp)
/-! By multiplicities. -/
def bino : Nat → Nat → Nat
  | _, 0 => 1
  | 0, _ + 1 => 0
  | n + 1, k + 1 => bino n k + bino n (k + 1)
theorem bino_z (n : Nat) : bino n 0 = 1 := by cases n <;> rfl
theorem bino_s (n k : Nat) : bino (n + 1) (k + 1) = bino n k + bino n (k + 1) := rfl
theorem bino_big : ∀ n k, n < k → bino n k = 0
  | _, 0, h => by omega
  | 0, k + 1, _ => rfl
  | n + 1, k + 1, h => by rw [bino_s, bino_big n k (by omega), bino_big n (k + 1) (by omega)]
def endN (N : Nat) (h : Nat → Nat) : Nat → Nat → Nat → Nat
  | 0, _, m => if m = 0 then 1 else 0
  | b + 1, q, m => sumC (fun j => if q + h b + j ≤ N - b then bino m j * endN N h b (q + h b + j) (m - j) else 0) (m + 1)
theorem endN_s (N : Nat) (h : Nat → Nat) (b q m : Nat) : endN N h (b + 1) q m = sumC (fun j => if q + h b + j ≤ N - b then bino m j * endN N h b (q + h b + j) (m - j) else 0) (m + 1) := rfl
theorem endN_congr {N : Nat} {h h' : Nat → Nat} : ∀ {b : Nat}, (∀ c, c < b → h c = h' c) → ∀ q m, endN N h b q m = endN N h' b q m
  | 0, _, _, _ => rfl
  | b + 1, hh, q, m => by
    rw [endN_s, endN_s, hh b (by omega)]
    exact sumC_congr fun j _ => by rw [endN_congr fun c hc => hh c (by omega)]
def bump (h : Nat → Nat) (x c : Nat) : Nat := h c + if c = x then 1 else 0
theorem endN_succ {N : Nat} {h : Nat → Nat} : ∀ (b q m : Nat), endN N h b q (m + 1) = sumC (fun x => endN N (bump h x) b q m) b
  | 0, q, m => rfl
  | b + 1, q, m => by
    have hl : ∀ x, x < b → endN N (bump h x) (b + 1) q m = sumC (fun j => if q + h b + j ≤ N - b then bino m j * endN N (bump h x) b (q + h b + j) (m - j) else 0) (m + 1) := fun x hx => by
      rw [endN_s]
      have : bump h x b = h b := by unfold bump; rw [if_neg (by omega)]; rfl
      rw [this]
    have hb : endN N (bump h b) (b + 1) q m = sumC (fun j => if q + h b + (j + 1) ≤ N - b then bino m j * endN N h b (q + h b + (j + 1)) (m - j) else 0) (m + 1) := by
      rw [endN_s]
      have h1 : bump h b b = h b + 1 := by unfold bump; rw [if_pos rfl]
      rw [h1]
      refine sumC_congr fun j _ => ?_
      rw [show q + (h b + 1) + j = q + h b + (j + 1) by omega, endN_congr (h := bump h b) (h' := h) fun c hc => by unfold bump; rw [if_neg (by omega)]; rfl]
    have hs : sumC (fun x => endN N (bump h x) (b + 1) q m) b = sumC (fun j => if q + h b + j ≤ N - b then bino m j * endN N h b (q + h b + j) (m + 1 - j) else 0) (m + 1) := by
      rw [sumC_congr hl, sumC_swap]
      refine sumC_congr fun j hj => ?_
      by_cases hc : q + h b + j ≤ N - b
      · rw [if_pos hc, show m + 1 - j = (m - j) + 1 by omega, endN_succ b, ← sumC_mul]
        exact sumC_congr fun x _ => by rw [if_pos hc]
      · rw [if_neg hc]
        exact sumC_zero fun x _ => by rw [if_neg hc]
    rw [sumC_s, hs, hb, endN_s, sumC_shift]
    have hp : ∀ j, j < m + 1 → (if q + h b + (j + 1) ≤ N - b then bino (m + 1) (j + 1) * endN N h b (q + h b + (j + 1)) (m + 1 - (j + 1)) else 0)
        = (if q + h b + (j + 1) ≤ N - b then bino m (j + 1) * endN N h b (q + h b + (j + 1)) (m + 1 - (j + 1)) else 0) + (if q + h b + (j + 1) ≤ N - b then bino m j * endN N h b (q + h b + (j + 1)) (m - j) else 0) := fun j _ => by
      split
      · rw [bino_s, show m + 1 - (j + 1) = m - j by omega, Nat.add_mul]; omega
      · rfl
    rw [sumC_congr hp, sumC_add, bino_z]
    have ht : sumC (fun j => if q + h b + j ≤ N - b then bino m j * endN N h b (q + h b + j) (m + 1 - j) else 0) (m + 1)
        = (if q + h b + 0 ≤ N - b then 1 * endN N h b (q + h b + 0) (m + 1 - 0) else 0) + sumC (fun j => if q + h b + (j + 1) ≤ N - b then bino m (j + 1) * endN N h b (q + h b + (j + 1)) (m + 1 - (j + 1)) else 0) (m + 1) := by
      have h5 := sumC_shift (fun j => if q + h b + j ≤ N - b then bino m j * endN N h b (q + h b + j) (m + 1 - j) else 0) (m + 1)
      rw [sumC_s] at h5
      have h6 : (if q + h b + (m + 1) ≤ N - b then bino m (m + 1) * endN N h b (q + h b + (m + 1)) (m + 1 - (m + 1)) else 0) = 0 := by
        rw [bino_big m (m + 1) (by omega), Nat.zero_mul]; split <;> rfl
      rw [h6, Nat.add_zero] at h5
      rw [h5, bino_z]
    rw [ht]
    omega
theorem endN_zero {N : Nat} {h H : Nat → Nat} : ∀ {b q : Nat}, H b = q → (∀ c, c < b → H c = H (c + 1) + h c) → endN N h b q 0 = if ∀ c, c < b → H c ≤ N - c then 1 else 0
  | 0, q, _, _ => by rw [if_pos fun c hc => by omega]; rfl
  | b + 1, q, hq, hH => by
    have h1 : endN N h (b + 1) q 0 = 0 + if q + h b + 0 ≤ N - b then bino 0 0 * endN N h b (q + h b + 0) 0 else 0 := rfl
    have hb := hH b (by omega)
    rw [h1, Nat.add_zero, endN_zero (H := H) (b := b) (by omega) (fun c hc => hH c (by omega)), Nat.zero_add, bino_z, Nat.one_mul]
    by_cases h2 : q + h b ≤ N - b
    · rw [if_pos h2]
      by_cases h3 : ∀ c, c < b → H c ≤ N - c
      · rw [if_pos h3, if_pos fun c hc => by
          by_cases hcb : c = b
          · subst hcb; omega
          · exact h3 c (by omega)]
      · rw [if_neg h3, if_neg fun h4 => h3 fun c hc => h4 c (by omega)]
    · rw [if_neg h2, if_neg fun h4 => h2 (by have := h4 b (by omega); omega)]
theorem endN_le1 {N : Nat} {h : Nat → Nat} : ∀ (b q : Nat), endN N h b q 0 ≤ 1
  | 0, _ => Nat.le_refl _
  | b + 1, q => by
    have h1 : endN N h (b + 1) q 0 = 0 + if q + h b + 0 ≤ N - b then bino 0 0 * endN N h b (q + h b + 0) 0 else 0 := rfl
    have := endN_le1 (N := N) (h := h) b (q + h b + 0)
    rw [h1, bino_z]
    split <;> omega
theorem endN_le {N : Nat} (b q : Nat) : ∀ (m : Nat) (h : Nat → Nat), endN N h b q m ≤ b ^ m
  | 0, h => endN_le1 b q
  | m + 1, h => by
    rw [endN_succ, Nat.pow_succ, Nat.mul_comm]
    exact sumC_le b fun x _ => endN_le b q m _
/-- How many wish for a bay. -/
def cntE (w : List Nat) (c : Nat) : Nat := w.count c
theorem cntE_snoc (w : List Nat) (x : Nat) : cntE (w ++ [x]) = bump (cntE w) x := by
  funext c
  unfold cntE bump
  rw [List.count_append, List.count_singleton]
  by_cases h : c = x
  · rw [if_pos h, if_pos (by simp [h])]
  · rw [if_neg h, if_neg (by simpa using fun h' => h h'.symm)]
theorem cntGe_ci (c : Nat) : ∀ w : List Nat, cntGe (c : Int) (ci w) = cntGe ((c + 1 : Nat) : Int) (ci w) + cntE w c
  | [] => rfl
  | x :: w => by
    have ih := cntGe_ci c w
    have e1 : ∀ t : Int, cntGe t (ci (x :: w)) = (if t ≤ (x : Int) then 1 else 0) + cntGe t (ci w) := fun t => by
      unfold cntGe
      rw [show ci (x :: w) = (x : Int) :: ci w from rfl, List.filter_cons]
      by_cases h : t ≤ (x : Int)
      · rw [if_pos (by simpa using h), if_pos h, List.length_cons, Nat.add_comm]
      · rw [if_neg (by simpa using h), if_neg h, Nat.zero_add]
    have e2 : cntE (x :: w) c = cntE w c + if x = c then 1 else 0 := by
      unfold cntE
      rw [List.count_cons]
      by_cases h : x = c
      · rw [if_pos h, if_pos (by simpa using h)]
      · rw [if_neg h, if_neg (by simpa using h)]
    rw [e1, e1, e2, ih]
    split <;> split <;> split <;> omega
theorem endN_cnt {N : Nat} (hN : N ≤ 8) : ∀ (m : Nat) {w : List Nat} {T : Nat}, (∀ x ∈ w, x < N) → BitsOf N T (parkL N w) → endN N (cntE w) N 0 m = if (-1 : Int) ∉ parkL N w then cntW N m T else 0
  | 0, w, T, hw, hB => by
    have hH : cntGe ((N : Nat) : Int) (ci w) = 0 := cntGe_zero fun x hx => by
      obtain ⟨y, hy, rfl⟩ := List.mem_map.1 hx
      have := hw y hy
      omega
    rw [endN_zero (H := fun c => cntGe (c : Int) (ci w)) hH fun c _ => cntGe_ci c w]
    have h1 : (∀ c, c < N → cntGe (c : Int) (ci w) ≤ N - c) ↔ (-1 : Int) ∉ parkL N w := by
      rw [served_iff hw]
      constructor
      · intro h k hk1 hk2
        have := h (N - k) (by omega)
        rw [show ((N - k : Nat) : Int) = (N : Int) - k by omega] at this
        omega
      · intro h c hc
        have := h (N - c) (by omega) (by omega)
        rw [show (N : Int) - ((N - c : Nat) : Int) = (c : Int) by omega] at this
        exact this
    by_cases h : (-1 : Int) ∉ parkL N w
    · rw [if_pos h, if_pos (h1.2 h)]; rfl
    · rw [if_neg h, if_neg fun h' => h (h1.1 h')]
  | m + 1, w, T, hw, hB => by
    rw [endN_succ]
    have hx : ∀ x, x < N → endN N (bump (cntE w) x) N 0 m = if (-1 : Int) ∉ parkL N w then gW N T m x else 0 := fun x hx => by
      rw [← cntE_snoc]
      have hwx : ∀ y ∈ w ++ [x], y < N := fun y hy => by
        rw [List.mem_append, List.mem_singleton] at hy
        rcases hy with h | h
        · exact hw y h
        · omega
      have hs := parkL_snoc N w x
      rcases bayOf_cases N (parkL N w) x with ⟨h2, h3⟩ | ⟨b, h2, h3, h4, h5, h6⟩
      · rw [h2] at hs
        have hB2 : BitsOf N T (parkL N (w ++ [x])) := by rw [hs]; exact hB.out
        rw [endN_cnt hN m hwx hB2, if_neg (by rw [hs]; simp), gW_none (by rw [hB.fb x]; exact h3)]
        split <;> rfl
      · rw [h2] at hs
        have hB2 : BitsOf N (T ||| 2 ^ b) (parkL N (w ++ [x])) := by rw [hs]; exact hB.put (by omega)
        rw [endN_cnt hN m hwx hB2, gW_some (b := b) (by rw [hB.fb x]; exact h3)]
        have hiff : (-1 : Int) ∉ parkL N (w ++ [x]) ↔ (-1 : Int) ∉ parkL N w := by
          rw [hs, List.mem_append, List.mem_singleton]
          constructor
          · exact fun h h' => h (.inl h')
          · rintro h (h' | h')
            · exact h h'
            · omega
        by_cases h : (-1 : Int) ∉ parkL N w
        · rw [if_pos h, if_pos (hiff.2 h)]
        · rw [if_neg h, if_neg fun h' => h (hiff.1 h')]
    rw [sumC_congr hx]
    by_cases h : (-1 : Int) ∉ parkL N w
    · rw [if_pos h, cntW_succ]
      exact sumC_congr fun x _ => if_pos h
    · rw [if_neg h]
      exact sumC_zero fun x _ => if_neg h
/-- A wish more, by multiplicities. -/
theorem endN_gW {N : Nat} (hN : N ≤ 8) {m x : Nat} {w : List Nat} {T : Nat} (hw : ∀ x ∈ w, x < N) (hx : x < N) (hB : BitsOf N T (parkL N w)) (hs : (-1 : Int) ∉ parkL N w) : endN N (cntE (w ++ [x])) N 0 m = gW N T m x := by
  have h1 := endN_cnt hN (m + 1) hw hB
  have hwx : ∀ y ∈ w ++ [x], y < N := fun y hy => by
    rw [List.mem_append, List.mem_singleton] at hy
    rcases hy with h | h
    · exact hw y h
    · omega
  have hp := parkL_snoc N w x
  rcases bayOf_cases N (parkL N w) x with ⟨h2, h3⟩ | ⟨b, h2, h3, h4, h5, h6⟩
  · rw [h2] at hp
    have hB2 : BitsOf N T (parkL N (w ++ [x])) := by rw [hp]; exact hB.out
    rw [endN_cnt hN m hwx hB2, if_neg (by rw [hp]; simp), gW_none (by rw [hB.fb x]; exact h3)]
  · rw [h2] at hp
    have hB2 : BitsOf N (T ||| 2 ^ b) (parkL N (w ++ [x])) := by rw [hp]; exact hB.put (by omega)
    rw [endN_cnt hN m hwx hB2, gW_some (b := b) (by rw [hB.fb x]; exact h3), if_pos]
    rw [hp, List.mem_append, List.mem_singleton]
    rintro (h' | h')
    · exact hs h'
    · omega
def chI (n : Nat) : Nat → Nat
  | 0 => 1
  | i + 1 => chI n i * (n - i) / (i + 1)
theorem chI_all : ((List.range 9).all fun n => (List.range (n + 1)).all fun k => Nat.beq (chI n k) (bino n k) && Nat.ble (chI n k * 8) 100000) = true := by decide +kernel
theorem chI_e {n k : Nat} (hn : n ≤ 8) (hk : k ≤ n) : chI n k = bino n k ∧ chI n k * 8 ≤ 100000 := by
  have h := List.all_eq_true.1 (List.all_eq_true.1 chI_all n (List.mem_range.2 (by omega))) k (List.mem_range.2 (by omega))
  rw [Bool.and_eq_true] at h
  exact ⟨Nat.eq_of_beq_eq_true h.1, Nat.le_of_ble_eq_true h.2⟩
end Go.Vit
