/- All turning orders, gone through one by one; in plain words. -/
import Derived.Test.YtffomiamkiakcaaP10
import Derived.Test.YtffomiamkiakcaaP2
set_option linter.unusedSimpArgs false
set_option linter.unusedVariables false
namespace Go.Vit
open Go
/-- A list of ints turns. -/
def trI (l : List Int) : Bool := trnB true (l.map Int.toNat)
def cnt (q : List (List Int)) : Nat := (q.filter trI).length
theorem cnt_app (a b : List (List Int)) : cnt (a ++ b) = cnt a + cnt b := by unfold cnt; rw [List.filter_append, List.length_append]
theorem cnt_cons (l : List Int) (q : List (List Int)) : cnt (l :: q) = (if trI l = true then 1 else 0) + cnt q := by
  unfold cnt
  by_cases h : trI l = true
  · rw [List.filter_cons_of_pos h, if_pos h, List.length_cons]; omega
  · rw [List.filter_cons_of_neg h, if_neg h]; omega
theorem trI_ci (b : List Nat) : trI (ci b) = trnB true b := by
  unfold trI ci
  rw [List.map_map]
  congr 1
  conv => rhs; rw [← List.map_id b]
  exact List.map_congr_left fun x _ => by show ((x : Int)).toNat = x; omega
theorem ci_app (a b : List Nat) : ci (a ++ b) = ci a ++ ci b := by unfold ci; rw [List.map_append]
theorem mem_ciN {x : Nat} {b : List Nat} : ((x : Int) ∈ ci b) ↔ x ∈ b := by
  unfold ci
  rw [List.mem_map]
  constructor
  · rintro ⟨y, hy, h⟩
    have : y = x := by omega
    exact this ▸ hy
  · intro h; exact ⟨x, h, rfl⟩
/-- Split in parts, without two alike. -/
theorem allS_cnt (n m : Nat) (b : List Nat) (ih : ∀ A x D, lft n b = A ++ x :: D → cnt (allR m (ci (b ++ [x])) (ci (A ++ D))) = cntR n m (b ++ [x])) :
    ∀ rest pre, lft n b = pre ++ rest → cnt (allS (allR m) (ci b) (ci pre) (ci rest)) = sm1 (fun x => cntR n m (b ++ [x])) rest
  | [], pre, _ => rfl
  | x :: rest, pre, h => by
    have hs := lft_sorted n b
    rw [h] at hs
    have hx : x ∉ pre := fun hm => by
      have := (List.pairwise_append.1 hs).2.2 x hm x (by simp); omega
    show cnt ((if (x : Int) ∈ ci pre then [] else allR m (ci b ++ [(x : Int)]) (ci pre ++ ci rest)) ++ allS (allR m) (ci b) (ci pre ++ [(x : Int)]) (ci rest)) = _
    rw [if_neg (fun hm => hx (mem_ciN.1 hm)), cnt_app]
    have e1 : ci b ++ [(x : Int)] = ci (b ++ [x]) := by rw [ci_app]; rfl
    have e2 : ci pre ++ [(x : Int)] = ci (pre ++ [x]) := by rw [ci_app]; rfl
    rw [e1, e2, ← ci_app, ih pre x rest h, allS_cnt n m b ih rest (pre ++ [x]) (by rw [h]; simp)]
    rfl
theorem cnt_allR {n : Nat} : ∀ (m : Nat) (b : List Nat), cnt (allR m (ci b) (ci (lft n b))) = cntR n m b
  | 0, b => by
    show cnt [ci b] = _
    rw [cnt_cons, trI_ci]
    show _ + 0 = if trnB true b = true then 1 else 0
    rfl
  | m + 1, b => by
    show cnt (allS (allR m) (ci b) [] (ci (lft n b))) = _
    have h := allS_cnt n m b (fun A x D h => by rw [← lft_snoc h]; exact cnt_allR m _) (lft n b) [] rfl
    rw [show (ci [] : List Int) = [] from rfl] at h
    rw [h]
    cases ht : trnB true b with
    | true => rw [cntR_succ ht]
    | false =>
      rw [cntR_no ht]
      have : ∀ l : List Nat, sm1 (fun x => cntR n m (b ++ [x])) l = 0 := by
        intro l
        induction l with
        | nil => rfl
        | cons x l ih =>
          show cntR n m (b ++ [x]) + _ = 0
          rw [ih, cntR_no (by rw [trnB_next, ht]; rfl)]
      exact this _
/-- Which part one of them lies in. -/
theorem allS_pick (n m : Nat) (b : List Nat) {y : List Int} {E : List (List Int)} :
    ∀ rest pre done, lft n b = pre ++ rest → allS (allR m) (ci b) (ci pre) (ci rest) = done ++ y :: E →
      ∃ A x D d1 d2, rest = A ++ x :: D ∧ allR m (ci (b ++ [x])) (ci (pre ++ A ++ D)) = d1 ++ y :: d2 ∧ cnt done = sm1 (fun x => cntR n m (b ++ [x])) A + cnt d1
  | [], pre, done, _, h => by
    have h : ([] : List (List Int)) = done ++ y :: E := h
    simp at h
  | x :: rest, pre, done, h, hq => by
    have hs := lft_sorted n b
    rw [h] at hs
    have hx : x ∉ pre := fun hm => by
      have := (List.pairwise_append.1 hs).2.2 x hm x (by simp); omega
    have hq : (if (x : Int) ∈ ci pre then [] else allR m (ci b ++ [(x : Int)]) (ci pre ++ ci rest)) ++ allS (allR m) (ci b) (ci pre ++ [(x : Int)]) (ci rest) = done ++ y :: E := hq
    have e1 : ci b ++ [(x : Int)] = ci (b ++ [x]) := by rw [ci_app]; rfl
    have e2 : ci pre ++ [(x : Int)] = ci (pre ++ [x]) := by rw [ci_app]; rfl
    rw [if_neg (fun hm => hx (mem_ciN.1 hm)), e1, e2, ← ci_app] at hq
    have later : ∀ c, done = allR m (ci (b ++ [x])) (ci (pre ++ rest)) ++ c → allS (allR m) (ci b) (ci (pre ++ [x])) (ci rest) = c ++ y :: E → ∃ A x' D d1 d2, x :: rest = A ++ x' :: D ∧ allR m (ci (b ++ [x'])) (ci (pre ++ A ++ D)) = d1 ++ y :: d2 ∧ cnt done = sm1 (fun x => cntR n m (b ++ [x])) A + cnt d1 := by
      intro c hd hr
      obtain ⟨A, x', D, d1, d2, g1, g2, g3⟩ := allS_pick n m b rest (pre ++ [x]) c (by rw [h]; simp) hr
      refine ⟨x :: A, x', D, d1, d2, by rw [g1]; rfl, ?_, ?_⟩
      · have : pre ++ [x] ++ A ++ D = pre ++ x :: A ++ D := by simp
        rw [← this]; exact g2
      · rw [hd, cnt_app, g3, ← lft_snoc h, cnt_allR]
        show _ = cntR n m (b ++ [x]) + _ + _
        omega
    rcases List.append_eq_append_iff.1 hq with ⟨c, h1, h2⟩ | ⟨c, h1, h2⟩
    · exact later c h1 h2
    · cases c with
      | nil =>
        rw [List.append_nil] at h1
        exact later [] (by rw [h1, List.append_nil]) h2.symm
      | cons z c =>
        injection h2 with h3 h4
        subst h3
        exact ⟨[], x, rest, done, c, rfl, by rw [List.append_nil]; exact h1, by show _ = 0 + _; omega⟩
theorem scanA_at {f : Nat → Nat} : ∀ (A : List Nat) {x : Nat} {D : List Nat} {q : Nat}, q < f x → scanA f (A ++ x :: D) (sm1 f A + q) = some (x, q)
  | [], x, D, q, h => by
    show (if 0 + q < f x then some (x, 0 + q) else _) = _
    rw [Nat.zero_add, if_pos h]
  | y :: A, x, D, q, h => by
    show (if f y + sm1 f A + q < f y then _ else scanA f (A ++ x :: D) (f y + sm1 f A + q - f y)) = _
    rw [if_neg (by omega), show f y + sm1 f A + q - f y = sm1 f A + q by omega]
    exact scanA_at A h
/-- The one with a number is found under it. -/
theorem at_all {n : Nat} : ∀ (m : Nat) (b : List Nat) {done E : List (List Int)} {l : List Nat}, (lft n b).length = m → allR m (ci b) (ci (lft n b)) = done ++ ci l :: E → trnB true l = true → atR n m b (cnt done) = l ∧ (∃ r, l = b ++ r ∧ r.length = m) ∧
    (l.length = n → b.length + m = n → numN l (b.length + m) = numN l b.length + cnt done)
  | 0, b, done, E, l, _, h, ht => by
    have h : [ci b] = done ++ ci l :: E := h
    cases done with
    | nil =>
      injection h with h1 h2
      have hb : b = l := by
        have := congrArg (List.map Int.toNat) h1
        unfold ci at this
        rw [List.map_map, List.map_map] at this
        have e : ∀ q : List Nat, List.map (Int.toNat ∘ fun (x : Nat) => (x : Int)) q = q := fun q => by
          conv => rhs; rw [← List.map_id q]
          exact List.map_congr_left fun x _ => by show ((x : Int)).toNat = x; omega
        rwa [e, e] at this
      subst hb
      exact ⟨rfl, ⟨[], by simp, rfl⟩, fun _ _ => rfl⟩
    | cons z q => injection h with h1 h2; simp at h2
  | m + 1, b, done, E, l, hm, h, ht => by
    have h : allS (allR m) (ci b) (ci []) (ci (lft n b)) = done ++ ci l :: E := h
    obtain ⟨A, x, D, d1, d2, g1, g2, g3⟩ := allS_pick n m b (lft n b) [] done rfl h
    rw [List.nil_append, ← lft_snoc g1] at g2
    have hm' : (lft n (b ++ [x])).length = m := by rw [lft_snoc g1]; rw [g1] at hm; simp at hm ⊢; omega
    obtain ⟨i1, ⟨r, i2, i3⟩, i4⟩ := at_all m (b ++ [x]) hm' g2 ht
    have hq : cnt d1 < cntR n m (b ++ [x]) := by
      rw [← cnt_allR, g2, cnt_app, cnt_cons, trI_ci, ht, if_pos rfl]; omega
    refine ⟨?_, ⟨x :: r, by rw [i2]; simp, by simp [i3]⟩, fun hl hb => ?_⟩
    · show (match scanA (fun x => cntR n m (b ++ [x])) (lft n b) (cnt done) with
        | none => b
        | some (x, q') => atR n m (b ++ [x]) q') = l
      rw [g1, g3, scanA_at (f := fun x => cntR n m (b ++ [x])) A hq]
      exact i1
    · have hlx : (b ++ [x]).length = b.length + 1 := by simp
      have h2 := i4 hl (by rw [hlx]; omega)
      rw [hlx] at h2
      have hbl : b.length < l.length := by omega
      have htk : l.take b.length = b := by rw [i2, List.append_assoc, List.take_left]
      have hgx : l[b.length] = x := by
        have : l[b.length]? = some x := by rw [i2, List.append_assoc, List.getElem?_append_right (Nat.le_refl _)]; simp
        rw [List.getElem?_eq_getElem hbl] at this
        injection this
      have hf : (lft l.length (l.take b.length)).filter (fun y => decide (y < l[b.length])) = A := by
        have hs := lft_sorted n b
        rw [g1] at hs
        obtain ⟨s1, s2, s3⟩ := List.pairwise_append.1 hs
        rw [htk, hl, g1, hgx, List.filter_append, List.filter_cons_of_neg (by simp)]
        rw [List.filter_eq_self.2 fun y hy => decide_eq_true (s3 y hy x (by simp)), List.filter_eq_nil_iff.2 fun y hy => by
          have := (List.pairwise_cons.1 s2).1 y hy
          simp; omega, List.append_nil]
      have h3 := numN_step hbl hf
      rw [htk, hl, show n - b.length - 1 = m by omega] at h3
      rw [show b.length + (m + 1) = b.length + 1 + m by omega, h2, h3, g3]
      omega
/-- How many begin with a number. -/
def hdI (k : Nat) (l : List Int) : Bool := trI l && (l.head? == some (k : Int))
def cntK (k : Nat) (q : List (List Int)) : Nat := (q.filter (hdI k)).length
theorem cntK_app (k : Nat) (a b : List (List Int)) : cntK k (a ++ b) = cntK k a + cntK k b := by unfold cntK; rw [List.filter_append, List.length_append]
theorem cntK_cons (k : Nat) (l : List Int) (q : List (List Int)) : cntK k (l :: q) = (if hdI k l = true then 1 else 0) + cntK k q := by
  unfold cntK
  by_cases h : hdI k l = true
  · rw [List.filter_cons_of_pos h, if_pos h, List.length_cons]; omega
  · rw [List.filter_cons_of_neg h, if_neg h]; omega
theorem cntK_le (k : Nat) (q : List (List Int)) : cntK k q ≤ cnt q := by
  induction q with
  | nil => exact Nat.le_refl _
  | cons l q ih =>
    rw [cntK_cons, cnt_cons]
    unfold hdI
    cases h : trI l <;> simp
    · exact ih
    · split <;> omega
theorem cntK_hd {k x : Nat} : ∀ (q : List (List Int)), (∀ l ∈ q, l.head? = some (x : Int)) → cntK k q = if x = k then cnt q else 0
  | [], _ => by split <;> rfl
  | l :: q, h => by
    have h1 := h l (by simp)
    have h2 := cntK_hd (k := k) q fun y hy => h y (List.mem_cons_of_mem _ hy)
    rw [cntK_cons, cnt_cons, h2]
    unfold hdI
    rw [h1]
    by_cases e : x = k
    · subst e; simp
    · have e' : ¬ ((x : Int) = (k : Int)) := by omega
      simp [e, e']
theorem allR_hd : ∀ (m : Nat) (b left : List Int) {l : List Int}, l ∈ allR m b left → ∃ r, l = b ++ r
  | 0, b, left, l, h => ⟨[], by rw [List.append_nil]; simpa [allR] using h⟩
  | m + 1, b, left, l, h => by
    obtain ⟨C, x, D, h1, h2, h3⟩ := (allS_mem left []).1 h
    obtain ⟨r, hr⟩ := allR_hd m _ _ h3
    exact ⟨x :: r, by rw [hr]; simp⟩
theorem allS_cntK (n m k : Nat) : ∀ rest pre, lft n [] = pre ++ rest → cntK k (allS (allR m) [] (ci pre) (ci rest)) = sm1 (fun x => if x = k then cntR n m [x] else 0) rest
  | [], pre, _ => rfl
  | x :: rest, pre, h => by
    have hs := lft_sorted n []
    rw [h] at hs
    have hx : x ∉ pre := fun hm => by
      have := (List.pairwise_append.1 hs).2.2 x hm x (by simp); omega
    show cntK k ((if (x : Int) ∈ ci pre then [] else allR m [(x : Int)] (ci pre ++ ci rest)) ++ allS (allR m) [] (ci pre ++ [(x : Int)]) (ci rest)) = _
    rw [if_neg (fun hm => hx (mem_ciN.1 hm)), cntK_app]
    have e2 : ci pre ++ [(x : Int)] = ci (pre ++ [x]) := by rw [ci_app]; rfl
    rw [e2, ← ci_app, allS_cntK n m k rest (pre ++ [x]) (by rw [h]; simp), cntK_hd (x := x) _ (fun l hl => by obtain ⟨r, hr⟩ := allR_hd _ _ _ hl; rw [hr]; rfl)]
    have h4 := cnt_allR (n := n) m ([] ++ [x])
    rw [lft_snoc h] at h4
    show (if x = k then cnt (allR m (ci ([] ++ [x])) (ci (pre ++ rest))) else 0) + _ = (if x = k then cntR n m ([] ++ [x]) else 0) + _
    rw [h4]
theorem sm1_one (n k a : Nat) : sm1 (fun x => if x = k then a else 0) (List.range n) = if k < n then a else 0 := by
  induction n with
  | zero => rfl
  | succ n ih =>
    rw [List.range_succ, sm1_app, ih]
    show _ + ((if n = k then a else 0) + 0) = _
    by_cases h1 : n = k
    · subst h1; rw [if_neg (by omega), if_pos rfl, if_pos (by omega)]; omega
    · rw [if_neg h1]
      by_cases h2 : k < n
      · rw [if_pos h2, if_pos (by omega)]; omega
      · rw [if_neg h2, if_neg (by omega)]
theorem range_len (n : Nat) : (lft n []).length = n := by rw [lft_nil, List.length_range]
theorem all_cnt (n : Nat) : cnt (allR n [] (ci (List.range n))) = cntR n n [] := by
  have h := cnt_allR (n := n) n []
  rw [lft_nil] at h
  exact h
theorem all_cntK {n k : Nat} (hk : k < n) : cntK k (allR n [] (ci (List.range n))) = triN n k := by
  obtain ⟨m, rfl⟩ : ∃ m, n = m + 1 := ⟨n - 1, by omega⟩
  have h := allS_cntK (m + 1) m k (lft (m + 1) []) [] rfl
  rw [lft_nil] at h
  show cntK k (allS (allR m) [] [] (ci (List.range (m + 1)))) = _
  rw [show (ci [] : List Int) = [] from rfl] at h
  rw [h, ← cnt_begin hk]
  have e : sm1 (fun x => if x = k then cntR (m + 1) m [x] else 0) (List.range (m + 1)) = sm1 (fun x => if x = k then cntR (m + 1) m [k] else 0) (List.range (m + 1)) := sm1_congr fun x _ => by
    by_cases h : x = k
    · subst h; rfl
    · rw [if_neg h, if_neg h]
  rw [e, sm1_one, if_pos hk, Nat.add_sub_cancel]
/-- One of all. -/
theorem all_one {n : Nat} {done E : List (List Int)} {l : List Nat} (h : allR n [] (ci (List.range n)) = done ++ ci l :: E) (hl : l.length = n) (ht : trnB true l = true) : atR n n [] (cnt done) = l ∧ numN l n = cnt done := by
  rw [← lft_nil] at h
  obtain ⟨h1, h2, h3⟩ := at_all n [] (range_len n) h ht
  have h4 := h3 hl (by simp)
  simp only [List.length_nil, Nat.zero_add] at h4
  exact ⟨h1, by rw [h4]; show 0 + _ = _; omega⟩
end Go.Vit
