/- Plain: a part divided in two leaves the sum. -/
import Derived.Test.YtcaoifacidnhcaaDoorP1
set_option linter.unusedSimpArgs false
set_option linter.unusedVariables false
namespace Go.Vit
theorem prodN_perm {l l' : List Nat} (h : l.Perm l') : prodN l = prodN l' := by
  induction h with
  | nil => rfl
  | cons x _ ih => simp only [prodN, ih]
  | swap x y l => simp only [prodN, Nat.mul_left_comm]
  | trans _ _ h1 h2 => exact h1.trans h2
theorem sumN_perm {B : Nat} {l l' : List Nat} (h : l.Perm l') : sumN B l = sumN B l' := by
  induction h with
  | nil => rfl
  | cons x _ ih => simp only [sumN, ih]
  | swap x y l => simp only [sumN]; omega
  | trans _ _ h1 h2 => exact h1.trans h2
theorem partsN_perm {l l' : List Nat} (h : l.Perm l') : partsN l = partsN l' := by
  unfold partsN
  rw [prodN_perm h, sumN_perm h]
theorem erase_perm {l : List Nat} {i : Nat} (h : i < l.length) : l.Perm (l.eraseIdx i ++ [l[i]]) := by
  rw [List.eraseIdx_eq_take_drop_succ]
  have h1 : l = l.take i ++ (l[i] :: l.drop (i + 1)) := by rw [← List.drop_eq_getElem_cons h, List.take_append_drop]
  refine (List.Perm.of_eq h1).trans ?_
  rw [List.append_assoc]
  exact List.Perm.append_left _ (List.perm_append_singleton _ _).symm
/-- The sum and the product of the new parts. -/
theorem div_scaled {l l' : List Nat} {i : Nat} (hl : ∀ q ∈ l, 0 < q) (h : i < l.length) (hp : l'.Perm (l.eraseIdx i ++ [l[i] + 1, l[i] * (l[i] + 1)])) :
    partsN l' = partsN l * ((l[i] + 1) * (l[i] + 1)) ∧ prodN l' = prodN l * ((l[i] + 1) * (l[i] + 1)) := by
  have h0 := hl _ (List.getElem_mem h)
  have he : ∀ q ∈ l.eraseIdx i, 0 < q := fun q hq => hl q (List.mem_of_mem_eraseIdx hq)
  have e2 : l.eraseIdx i ++ [l[i] + 1, l[i] * (l[i] + 1)] = (l.eraseIdx i ++ [l[i] + 1]) ++ [l[i] * (l[i] + 1)] := by simp
  have hq0 : 0 < l[i] * (l[i] + 1) := Nat.mul_pos h0 (by omega)
  have he2 : ∀ q ∈ l.eraseIdx i ++ [l[i] + 1], 0 < q := fun q hq => by
    rcases List.mem_append.1 hq with hq | hq
    · exact he q hq
    · simp at hq; omega
  rw [partsN_perm hp, prodN_perm hp, partsN_perm (erase_perm h), prodN_perm (erase_perm h), e2, prodN_snoc, prodN_snoc, prodN_snoc, partsN_snoc hq0 he2, partsN_snoc (by omega) he, partsN_snoc h0 he, prodN_snoc]
  generalize partsN (l.eraseIdx i) = S
  generalize prodN (l.eraseIdx i) = E
  generalize l[i] = p
  constructor
  · simp only [Nat.add_mul, Nat.mul_add, Nat.mul_one, Nat.one_mul, ← Nat.mul_assoc]
    have a1 : S * p * p = S * p * p := rfl
    have a2 : E * p * p = p * E * p := by rw [Nat.mul_comm E p]
    have a3 : E * p = p * E := Nat.mul_comm _ _
    simp only [Nat.mul_comm, Nat.mul_left_comm, Nat.mul_assoc]
    omega
  · simp only [Nat.mul_assoc, Nat.mul_comm, Nat.mul_left_comm]
theorem div_sum {l l' : List Nat} {i : Nat} (hl : ∀ q ∈ l, 0 < q) (h : i < l.length) (hp : l'.Perm (l.eraseIdx i ++ [l[i] + 1, l[i] * (l[i] + 1)])) :
    partsN l' / Nat.gcd (partsN l') (prodN l') = partsN l / Nat.gcd (partsN l) (prodN l) ∧ prodN l' / Nat.gcd (partsN l') (prodN l') = prodN l / Nat.gcd (partsN l) (prodN l) := by
  obtain ⟨h1, h2⟩ := div_scaled hl h hp
  have hs : 0 < (l[i] + 1) * (l[i] + 1) := Nat.mul_pos (by omega) (by omega)
  rw [h1, h2, Nat.gcd_mul_right, Nat.mul_div_mul_right _ _ hs, Nat.mul_div_mul_right _ _ hs]
  exact ⟨rfl, rfl⟩
theorem not_erase {l : List Nat} {i : Nat} (hl : Val l) (h : i < l.length) : l[i] ∉ l.eraseIdx i := by
  have h1 : (l.eraseIdx i ++ [l[i]]).Nodup := (erase_perm h).nodup_iff.1 (hl.ord.imp fun h => by omega)
  rw [List.nodup_append] at h1
  exact fun hm => h1.2.2 _ hm _ (by simp) rfl
theorem nodup_div {l : List Nat} {i : Nat} (hl : Val l) (h : i < l.length) (h1 : l[i] + 1 ∉ l) (h2 : l[i] * (l[i] + 1) ∉ l) : (l.eraseIdx i ++ [l[i] + 1, l[i] * (l[i] + 1)]).Nodup := by
  have hr := hl.rng _ (List.getElem_mem h)
  rw [List.nodup_append]
  have hn : l.Nodup := hl.ord.imp fun h => by omega
  refine ⟨hn.sublist (List.eraseIdx_sublist _ _), ?_, ?_⟩
  · have : 2 * (l[i] + 1) ≤ l[i] * (l[i] + 1) := Nat.mul_le_mul_right _ hr.1
    simp
    omega
  · intro a ha b hb e
    subst e
    have ha' := List.mem_of_mem_eraseIdx ha
    simp at hb
    rcases hb with rfl | rfl
    · exact h1 ha'
    · exact h2 ha'
theorem not_div {l l' : List Nat} {i : Nat} (hl : Val l) (h : i < l.length) (hp : l'.Perm (l.eraseIdx i ++ [l[i] + 1, l[i] * (l[i] + 1)])) : l[i] ∉ l' := by
  have hr := hl.rng _ (List.getElem_mem h)
  intro hm
  rcases List.mem_append.1 (hp.mem_iff.1 hm) with hm | hm
  · exact not_erase hl h hm
  · have : 2 * (l[i] + 1) ≤ l[i] * (l[i] + 1) := Nat.mul_le_mul_right _ hr.1
    simp at hm
    omega
end Go.Vit
