/- Turning orders, counted: in plain words. -/
import Derived.Test.YtffomiamkiakcaaP1
set_option linter.unusedSimpArgs false
set_option linter.unusedVariables false
namespace Go.Vit
open Go
def sm1 (f : Nat → Nat) : List Nat → Nat
  | [] => 0
  | x :: l => f x + sm1 f l
theorem sm1_app (f : Nat → Nat) : ∀ a b, sm1 f (a ++ b) = sm1 f a + sm1 f b
  | [], b => by simp [sm1]
  | x :: a, b => by
    show f x + sm1 f (a ++ b) = f x + sm1 f a + sm1 f b
    rw [sm1_app f a b]; omega
theorem sm1_congr {f g : Nat → Nat} : ∀ {l : List Nat}, (∀ x ∈ l, f x = g x) → sm1 f l = sm1 g l
  | [], _ => rfl
  | x :: l, h => by
    show f x + sm1 f l = g x + sm1 g l
    rw [h x (by simp), sm1_congr fun y hy => h y (List.mem_cons_of_mem _ hy)]
/-- How many turning orders follow, if so many are left and so many may be next. -/
def Wt : Nat → Nat → Nat
  | 0, _ => 1
  | m + 1, j => sm1 (fun t => Wt m (m - t)) (List.range j)
theorem Wt_succ (m j : Nat) : Wt (m + 1) (j + 1) = Wt (m + 1) j + Wt m (m - j) := by
  show sm1 _ (List.range (j + 1)) = sm1 _ (List.range j) + _
  rw [List.range_succ, sm1_app]; rfl
def lft (n : Nat) (b : List Nat) : List Nat := (List.range n).filter fun x => decide (x ∉ b)
theorem lft_nil (n : Nat) : lft n [] = List.range n := by
  unfold lft
  rw [List.filter_eq_self]
  intro x _; simp
theorem lft_sorted (n : Nat) (b : List Nat) : (lft n b).Pairwise (· < ·) := List.Pairwise.filter _ List.pairwise_lt_range
theorem lft_mem {n : Nat} {b : List Nat} {x : Nat} : x ∈ lft n b ↔ x < n ∧ x ∉ b := by
  unfold lft
  rw [List.mem_filter, List.mem_range]; simp
theorem lft_snoc {n : Nat} {b A D : List Nat} {x : Nat} (h : lft n b = A ++ x :: D) : lft n (b ++ [x]) = A ++ D := by
  have h1 : lft n (b ++ [x]) = (lft n b).filter fun y => decide (y ≠ x) := by
    unfold lft
    rw [List.filter_filter]
    refine List.filter_congr fun y _ => ?_
    by_cases h1 : y = x <;> by_cases h2 : y ∈ b <;> simp [h1, h2]
  have hs := lft_sorted n b
  rw [h] at hs
  rw [List.pairwise_append] at hs
  obtain ⟨_, h2, h3⟩ := hs
  rw [h1, h, List.filter_append, List.filter_cons_of_neg (by simp)]
  congr 1
  · rw [List.filter_eq_self]
    intro y hy
    have := h3 y hy x (by simp)
    simp; omega
  · rw [List.filter_eq_self]
    intro y hy
    have := (List.pairwise_cons.1 h2).1 y hy
    simp; omega
def oddB (k : Nat) : Bool := decide (k % 2 = 1)
theorem oddB_succ (k : Nat) : oddB (k + 1) = !oddB k := by
  unfold oddB
  by_cases h : k % 2 = 1
  · rw [decide_eq_true h, decide_eq_false (by omega)]; rfl
  · rw [decide_eq_false h, decide_eq_true (by omega)]; rfl
def trnB : Bool → List Nat → Bool
  | _, [] => true
  | u, x :: l => match l with
    | [] => true
    | y :: _ => (decide (x < y) == u) && trnB (!u) l
theorem trnB_snoc : ∀ (l : List Nat) (u : Bool) (x y : Nat), trnB u (l ++ [x, y]) = (trnB u (l ++ [x]) && (decide (x < y) == (u == (oddB (l.length + 1)))))
  | [], u, x, y => by
    show ((decide (x < y) == u) && true) = (true && _)
    cases u <;> simp [oddB]
  | [z], u, x, y => by
    show ((decide (z < x) == u) && ((decide (x < y) == !u) && true)) = (((decide (z < x) == u) && true) && _)
    cases u <;> simp [oddB]
  | z :: w :: l, u, x, y => by
    have ih := trnB_snoc (w :: l) (!u) x y
    show ((decide (z < w) == u) && trnB (!u) (w :: l ++ [x, y])) = (((decide (z < w) == u) && trnB (!u) (w :: l ++ [x])) && _)
    rw [ih]
    have e : ((!u) == oddB ((w :: l).length + 1)) = (u == oddB ((z :: w :: l).length + 1)) := by
      simp only [List.length_cons]
      rw [oddB_succ (l.length + 1 + 1)]
      cases u <;> cases oddB (l.length + 1 + 1) <;> rfl
    rw [e, Bool.and_assoc]
/-- x may follow. -/
def goesB (b : List Nat) (x : Nat) : Bool := match b.getLast? with
  | none => true
  | some y => decide (y < x) == oddB b.length
theorem trnB_next (b : List Nat) (x : Nat) : trnB true (b ++ [x]) = (trnB true b && goesB b x) := by
  rcases List.eq_nil_or_concat b with rfl | ⟨l, y, rfl⟩
  · rfl
  · rw [List.concat_eq_append]
    have h := trnB_snoc l true y x
    rw [List.append_assoc]
    show trnB true (l ++ [y, x]) = _
    rw [h]
    unfold goesB
    simp
def cntR (n : Nat) : Nat → List Nat → Nat
  | 0, b => if trnB true b = true then 1 else 0
  | m + 1, b => if trnB true b = true then sm1 (fun x => if x ∈ b then 0 else cntR n m (b ++ [x])) (List.range n) else 0
theorem sm1_filter (f : Nat → Nat) (p : Nat → Bool) : ∀ l, sm1 (fun x => if p x = true then f x else 0) l = sm1 f (l.filter p)
  | [] => rfl
  | x :: l => by
    rw [List.filter_cons]
    show (if p x = true then f x else 0) + _ = _
    rw [sm1_filter f p l]
    split
    · rfl
    · simp
theorem cntR_succ {n m : Nat} {b : List Nat} (h : trnB true b = true) : cntR n (m + 1) b = sm1 (fun x => cntR n m (b ++ [x])) (lft n b) := by
  show (if trnB true b = true then _ else 0) = _
  rw [if_pos h]
  unfold lft
  rw [← sm1_filter]
  refine sm1_congr fun x _ => ?_
  by_cases hx : x ∈ b <;> simp [hx]
theorem cntR_no {n m : Nat} {b : List Nat} (h : trnB true b = false) : cntR n m b = 0 := by
  cases m <;> simp [cntR, h]
/-- How many follow, if the number in the midst of these is next. -/
def nxt (b : List Nat) (x : Nat) (A D : List Nat) (m : Nat) : Nat := if goesB b x = true then (if oddB b.length = true then Wt m A.length else Wt m D.length) else 0
def gs (m : Nat) : Nat → Nat → Nat
  | _, 0 => 0
  | a, j + 1 => Wt m (m - a) + gs m (a + 1) j
theorem gs_snoc (m : Nat) : ∀ j a, gs m a (j + 1) = gs m a j + Wt m (m - (a + j))
  | 0, a => by simp [gs]
  | j + 1, a => by
    show Wt m (m - a) + gs m (a + 1) (j + 1) = Wt m (m - a) + gs m (a + 1) j + _
    rw [gs_snoc m j (a + 1), show a + 1 + j = a + (j + 1) by omega]
    omega
theorem gs_zero (m : Nat) : ∀ j, gs m 0 j = Wt (m + 1) j
  | 0 => rfl
  | j + 1 => by rw [gs_snoc, gs_zero m j, Wt_succ]; simp
theorem goesB_up {b : List Nat} {y x : Nat} (h : b.getLast? = some y) (ho : oddB b.length = true) : goesB b x = decide (y < x) := by
  unfold goesB
  rw [h, ho]
  simp
theorem goesB_down {b : List Nat} {y x : Nat} (h : b.getLast? = some y) (ho : oddB b.length = false) : goesB b x = !decide (y < x) := by
  unfold goesB
  rw [h, ho]
  simp
/-- The sum over all that may be next. -/
theorem sum_next {n m : Nat} {b : List Nat} {f : Nat → Nat} (hb : b ≠ []) (hm : (lft n b).length = m + 1) (hf : ∀ A x D, lft n b = A ++ x :: D → f x = nxt b x A D m) :
    sm1 f (lft n b) = Wt (m + 1) ((lft n b).filter (goesB b)).length := by
  obtain ⟨y, hy⟩ : ∃ y, b.getLast? = some y := by
    cases h : b.getLast? with
    | none => exact absurd (List.getLast?_eq_none_iff.1 h) hb
    | some y => exact ⟨y, rfl⟩
  have hs := lft_sorted n b
  cases ho : oddB b.length with
  | true =>
    have key : ∀ D A, lft n b = A ++ D → sm1 f D = Wt (m + 1) (D.filter (goesB b)).length := by
      intro D
      induction D with
      | nil => intro A _; rfl
      | cons x D ih =>
        intro A he
        have hfx := hf A x D he
        have h1 := ih (A ++ [x]) (by simpa using he)
        have hlen : A.length + D.length = m := by rw [he] at hm; simp at hm; omega
        show f x + sm1 f D = _
        rw [h1, hfx]
        unfold nxt
        rw [ho, if_pos (show true = true from rfl)]
        cases hg : goesB b x with
        | false => rw [List.filter_cons_of_neg (by simp [hg]), if_neg (by simp)]; simp
        | true =>
          rw [List.filter_cons_of_pos hg, if_pos rfl, List.length_cons, Wt_succ]
          have hall : D.filter (goesB b) = D := by
            rw [List.filter_eq_self]
            intro z hz
            rw [goesB_up hy ho] at hg ⊢
            rw [he] at hs
            have := (List.pairwise_cons.1 (List.pairwise_append.1 hs).2.1).1 z hz
            have := of_decide_eq_true hg
            exact decide_eq_true (by omega)
          rw [hall, show m - D.length = A.length by omega]
          omega
    exact key _ [] rfl
  | false =>
    have key : ∀ D A, lft n b = A ++ D → sm1 f D = gs m A.length (D.filter (goesB b)).length := by
      intro D
      induction D with
      | nil => intro A _; rfl
      | cons x D ih =>
        intro A he
        have hfx := hf A x D he
        have h1 := ih (A ++ [x]) (by simpa using he)
        have hlen : A.length + D.length = m := by rw [he] at hm; simp at hm; omega
        show f x + sm1 f D = _
        rw [h1, hfx]
        unfold nxt
        rw [ho, if_neg (show ¬ (false = true) by simp)]
        cases hg : goesB b x with
        | false =>
          rw [List.filter_cons_of_neg (by simp [hg]), if_neg (by simp)]
          have hall : D.filter (goesB b) = [] := by
            rw [List.filter_eq_nil_iff]
            intro z hz
            rw [goesB_down hy ho] at hg ⊢
            rw [he] at hs
            have := (List.pairwise_cons.1 (List.pairwise_append.1 hs).2.1).1 z hz
            simp at hg ⊢
            omega
          rw [hall]
          simp [gs]
        | true =>
          rw [List.filter_cons_of_pos hg, if_pos rfl, List.length_cons, List.length_append]
          show _ = Wt m (m - A.length) + _
          rw [show m - A.length = D.length by omega]
          rfl
    exact (key (lft n b) [] rfl).trans (gs_zero _ _)
theorem cntR_ok {n : Nat} : ∀ (m : Nat) (b : List Nat), trnB true b = true → b ≠ [] → (lft n b).length = m → cntR n m b = Wt m ((lft n b).filter (goesB b)).length
  | 0, b, ht, _, _ => by simp [cntR, ht, Wt]
  | m + 1, b, ht, hb, hm => by
    rw [cntR_succ ht]
    refine sum_next hb hm fun A x D he => ?_
    unfold nxt
    have hn := trnB_next b x
    rw [ht, Bool.true_and] at hn
    cases hg : goesB b x with
    | false => rw [hg] at hn; rw [if_neg (by simp), cntR_no hn]
    | true =>
      rw [hg] at hn
      rw [if_pos rfl]
      have hl := lft_snoc he
      have hlen : A.length + D.length = m := by rw [he] at hm; simp at hm; omega
      rw [cntR_ok m (b ++ [x]) hn (by simp) (by rw [hl, List.length_append]; exact hlen), hl]
      have hs := lft_sorted n b
      rw [he] at hs
      obtain ⟨h1, h2, h3⟩ := List.pairwise_append.1 hs
      have hlast : (b ++ [x]).getLast? = some x := by simp
      have hol : oddB (b ++ [x]).length = !oddB b.length := by rw [List.length_append]; exact oddB_succ _
      have hA : ∀ z ∈ A, ¬ x < z := fun z hz => by have := h3 z hz x (by simp); omega
      have hD : ∀ z ∈ D, x < z := fun z hz => (List.pairwise_cons.1 h2).1 z hz
      cases ho : oddB b.length with
      | true =>
        rw [ho] at hol
        rw [if_pos rfl, List.filter_append]
        have e1 : A.filter (goesB (b ++ [x])) = A := by
          rw [List.filter_eq_self]
          intro z hz
          rw [goesB_down hlast hol, decide_eq_false (hA z hz)]; rfl
        have e2 : D.filter (goesB (b ++ [x])) = [] := by
          rw [List.filter_eq_nil_iff]
          intro z hz
          rw [goesB_down hlast hol, decide_eq_true (hD z hz)]; simp
        rw [e1, e2, List.append_nil]
      | false =>
        rw [ho] at hol
        rw [if_neg (by simp), List.filter_append]
        have e1 : A.filter (goesB (b ++ [x])) = [] := by
          rw [List.filter_eq_nil_iff]
          intro z hz
          rw [goesB_up hlast hol, decide_eq_false (hA z hz)]; simp
        have e2 : D.filter (goesB (b ++ [x])) = D := by
          rw [List.filter_eq_self]
          intro z hz
          rw [goesB_up hlast hol, decide_eq_true (hD z hz)]
        rw [e1, e2, List.nil_append]
/-- What follows a number, by its place. -/
theorem cnt_next {n m : Nat} {b A D : List Nat} {x : Nat} (ht : trnB true b = true) (hm : (lft n b).length = m + 1) (he : lft n b = A ++ x :: D) : cntR n m (b ++ [x]) = nxt b x A D m := by
  by_cases hb : b = []
  · subst hb
    have hl := lft_snoc he
    have hlen : A.length + D.length = m := by rw [he] at hm; simp at hm; omega
    have h := cntR_ok (n := n) m ([] ++ [x]) rfl (by simp) (by rw [hl, List.length_append]; exact hlen)
    rw [h, hl]
    have hs := lft_sorted n []
    rw [he] at hs
    obtain ⟨h1, h2, h3⟩ := List.pairwise_append.1 hs
    have hA : ∀ z ∈ A, ¬ x < z := fun z hz => by have := h3 z hz x (by simp); omega
    have hD : ∀ z ∈ D, x < z := fun z hz => (List.pairwise_cons.1 h2).1 z hz
    have e0 : nxt [] x A D m = Wt m D.length := rfl
    rw [e0, List.filter_append]
    have hol : oddB ([] ++ [x] : List Nat).length = true := rfl
    have hlast : ([] ++ [x] : List Nat).getLast? = some x := rfl
    have e1 : A.filter (goesB ([] ++ [x])) = [] := by
      rw [List.filter_eq_nil_iff]
      intro z hz
      rw [goesB_up hlast hol, decide_eq_false (hA z hz)]; simp
    have e2 : D.filter (goesB ([] ++ [x])) = D := by
      rw [List.filter_eq_self]
      intro z hz
      rw [goesB_up hlast hol, decide_eq_true (hD z hz)]
    rw [e1, e2, List.nil_append]
  · have hn := trnB_next b x
    rw [ht, Bool.true_and] at hn
    unfold nxt
    cases hg : goesB b x with
    | false => rw [hg] at hn; rw [if_neg (by simp), cntR_no hn]
    | true =>
      rw [hg] at hn
      rw [if_pos rfl]
      have hl := lft_snoc he
      have hlen : A.length + D.length = m := by rw [he] at hm; simp at hm; omega
      rw [cntR_ok m (b ++ [x]) hn (by simp) (by rw [hl, List.length_append]; exact hlen), hl]
      have hs := lft_sorted n b
      rw [he] at hs
      obtain ⟨h1, h2, h3⟩ := List.pairwise_append.1 hs
      have hlast : (b ++ [x]).getLast? = some x := by simp
      have hol : oddB (b ++ [x]).length = !oddB b.length := by rw [List.length_append]; exact oddB_succ _
      have hA : ∀ z ∈ A, ¬ x < z := fun z hz => by have := h3 z hz x (by simp); omega
      have hD : ∀ z ∈ D, x < z := fun z hz => (List.pairwise_cons.1 h2).1 z hz
      cases ho : oddB b.length with
      | true =>
        rw [ho] at hol
        rw [if_pos rfl, List.filter_append]
        have e1 : A.filter (goesB (b ++ [x])) = A := by
          rw [List.filter_eq_self]
          intro z hz
          rw [goesB_down hlast hol, decide_eq_false (hA z hz)]; rfl
        have e2 : D.filter (goesB (b ++ [x])) = [] := by
          rw [List.filter_eq_nil_iff]
          intro z hz
          rw [goesB_down hlast hol, decide_eq_true (hD z hz)]; simp
        rw [e1, e2, List.append_nil]
      | false =>
        rw [ho] at hol
        rw [if_neg (by simp), List.filter_append]
        have e1 : A.filter (goesB (b ++ [x])) = [] := by
          rw [List.filter_eq_nil_iff]
          intro z hz
          rw [goesB_up hlast hol, decide_eq_false (hA z hz)]; simp
        have e2 : D.filter (goesB (b ++ [x])) = D := by
          rw [List.filter_eq_self]
          intro z hz
          rw [goesB_up hlast hol, decide_eq_true (hD z hz)]
        rw [e1, e2, List.nil_append]
/-- The triangle. -/
def triN (n k : Nat) : Nat := if n = 0 ∨ n ≤ k then 0 else Wt (n - 1) (n - 1 - k)
def triL : List Int := (List.range 100).map fun c => (triN (c / 10) (c % 10) : Int)
end Go.Vit
