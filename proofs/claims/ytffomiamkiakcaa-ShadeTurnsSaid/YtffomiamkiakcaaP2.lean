/- Arrangements: the best one, the first of these; in plain words. -/
import Derived.Test.YtffomiamkiakcaaP1
set_option linter.unusedSimpArgs false
set_option linter.unusedVariables false
namespace Go.Vit
open Go
/-- The order of lists. -/
def lle : List Int → List Int → Prop
  | [], _ => True
  | _ :: _, [] => False
  | x :: a, y :: b => x < y ∨ (x = y ∧ lle a b)
theorem lle_refl : ∀ a, lle a a
  | [] => trivial
  | x :: a => .inr ⟨rfl, lle_refl a⟩
theorem lle_anti : ∀ {a b}, lle a b → lle b a → a = b
  | [], [], _, _ => rfl
  | [], _ :: _, _, h => h.elim
  | _ :: _, [], h, _ => h.elim
  | x :: a, y :: b, h1, h2 => by
    rcases h1 with h1 | ⟨rfl, h1⟩
    · rcases h2 with h2 | ⟨rfl, h2⟩
      · omega
      · omega
    · rcases h2 with h2 | ⟨_, h2⟩
      · omega
      · rw [lle_anti h1 h2]
theorem lle_total : ∀ a b, lle a b ∨ lle b a
  | [], _ => .inl trivial
  | _ :: _, [] => .inr trivial
  | x :: a, y :: b => by
    by_cases h : x < y
    · exact .inl (.inl h)
    · by_cases h2 : y < x
      · exact .inr (.inl h2)
      · have : x = y := by omega
        rcases lle_total a b with h3 | h3
        · exact .inl (.inr ⟨this, h3⟩)
        · exact .inr (.inr ⟨this.symm, h3⟩)
theorem lle_trans : ∀ {a b c}, lle a b → lle b c → lle a c
  | [], _, _, _, _ => trivial
  | _ :: _, [], _, h, _ => h.elim
  | _ :: _, _ :: _, [], _, h => h.elim
  | x :: a, y :: b, z :: c, h1, h2 => by
    rcases h1 with h1 | ⟨rfl, h1⟩
    · rcases h2 with h2 | ⟨rfl, h2⟩
      · exact .inl (by omega)
      · exact .inl h1
    · rcases h2 with h2 | ⟨rfl, h2⟩
      · exact .inl h2
      · exact .inr ⟨rfl, lle_trans h1 h2⟩
theorem lle_app : ∀ (a : List Int) {b c}, lle b c → lle (a ++ b) (a ++ c)
  | [], _, _, h => h
  | x :: a, _, _, h => .inr ⟨rfl, lle_app a h⟩
theorem lle_app_lt : ∀ (a : List Int) {x y : Int} {b c}, x < y → lle (a ++ x :: b) (a ++ y :: c)
  | [], _, _, _, _, h => .inl h
  | z :: a, _, _, _, _, h => .inr ⟨rfl, lle_app_lt a h⟩
/-- The first of the arrangements that cost least. -/
def Best (cost : List Int → Int) (s R : List Int) : Prop := R.Perm s ∧ ∀ p, p.Perm s → cost R ≤ cost p ∧ (cost p = cost R → lle R p)
theorem Best.uniq {cost : List Int → Int} {s s' R R' : List Int} (hs : s.Perm s') (h : Best cost s R) (h' : Best cost s' R') : R = R' := by
  have h1 := h.2 R' (h'.1.trans hs.symm)
  have h2 := h'.2 R (h.1.trans hs)
  have he : cost R = cost R' := by omega
  exact lle_anti (h1.2 he.symm) (h2.2 he)
theorem Best.perm {cost : List Int → Int} {s s' R : List Int} (hs : s.Perm s') (h : Best cost s R) : Best cost s' R := ⟨h.1.trans hs, fun p hp => h.2 p (hp.trans hs.symm)⟩
theorem Best.congr {cost cost' : List Int → Int} {s R : List Int} (h : Best cost s R) (hc : ∀ p, p.Perm s → cost p = cost' p) : Best cost' s R :=
  ⟨h.1, fun p hp => by
    rw [← hc p hp, ← hc R h.1]
    exact h.2 p hp⟩
/-! Going through splits. -/
def bestH (h : Int → List Int → Int) : List Int → List Int → Int → Int
  | _, [], acc => acc
  | pre, x :: rest, acc => bestH h (pre ++ [x]) rest (max acc (h x (pre ++ rest)))
def pickH (h : Int → List Int → Int) (want : Int) : List Int → List Int → Option (Int × List Int)
  | _, [] => none
  | pre, x :: rest => if h x (pre ++ rest) = want then some (x, pre ++ rest) else pickH h want (pre ++ [x]) rest
theorem bestH_acc (h : Int → List Int → Int) : ∀ (rest pre : List Int) (acc : Int), acc ≤ bestH h pre rest acc
  | [], _, _ => Int.le_refl _
  | x :: rest, pre, acc => by
    have := bestH_acc h rest (pre ++ [x]) (max acc (h x (pre ++ rest)))
    show acc ≤ bestH h (pre ++ [x]) rest _
    omega
theorem bestH_ub (h : Int → List Int → Int) : ∀ (rest pre : List Int) (acc : Int) (C : List Int) (x : Int) (D : List Int), rest = C ++ x :: D → h x (pre ++ C ++ D) ≤ bestH h pre rest acc
  | [], _, _, C, x, D, e => by simp at e
  | y :: rest, pre, acc, C, x, D, e => by
    show _ ≤ bestH h (pre ++ [y]) rest _
    cases C with
    | nil =>
      rw [List.nil_append] at e
      injection e with e1 e2
      subst e1; subst e2
      rw [List.append_nil]
      have := bestH_acc h rest (pre ++ [y]) (max acc (h y (pre ++ rest)))
      omega
    | cons c C =>
      rw [List.cons_append] at e
      injection e with e1 e2
      subst e1
      have := bestH_ub h rest (pre ++ [y]) (max acc (h y (pre ++ rest))) C x D e2
      simpa using this
theorem bestH_at (h : Int → List Int → Int) : ∀ (rest pre : List Int) (acc : Int), bestH h pre rest acc = acc ∨ ∃ C x D, rest = C ++ x :: D ∧ bestH h pre rest acc = h x (pre ++ C ++ D)
  | [], _, _ => .inl rfl
  | y :: rest, pre, acc => by
    have e : bestH h pre (y :: rest) acc = bestH h (pre ++ [y]) rest (max acc (h y (pre ++ rest))) := rfl
    rcases bestH_at h rest (pre ++ [y]) (max acc (h y (pre ++ rest))) with h1 | ⟨C, x, D, h1, h2⟩
    · rw [e, h1]
      by_cases hm : h y (pre ++ rest) ≤ acc
      · exact .inl (by omega)
      · refine .inr ⟨[], y, rest, rfl, ?_⟩
        rw [List.append_nil]; omega
    · refine .inr ⟨y :: C, x, D, by rw [h1]; rfl, ?_⟩
      rw [e, h2]; simp
theorem pickH_some (h : Int → List Int → Int) (want : Int) : ∀ (rest pre : List Int), (∃ C x D, rest = C ++ x :: D ∧ h x (pre ++ C ++ D) = want) →
    ∃ C x D, pickH h want pre rest = some (x, pre ++ C ++ D) ∧ rest = C ++ x :: D ∧ h x (pre ++ C ++ D) = want ∧ ∀ C' y D', rest = C' ++ y :: D' → h y (pre ++ C' ++ D') = want → C.length ≤ C'.length
  | [], pre, ⟨C, x, D, e, _⟩ => by simp at e
  | y :: rest, pre, hx => by
    by_cases hy : h y (pre ++ rest) = want
    · refine ⟨[], y, rest, ?_, rfl, by rw [List.append_nil]; exact hy, fun _ _ _ _ _ => Nat.zero_le _⟩
      rw [List.append_nil]
      exact if_pos hy
    · obtain ⟨C, x, D, e, hw⟩ := hx
      cases C with
      | nil =>
        rw [List.nil_append] at e
        injection e with e1 e2
        subst e1; subst e2
        rw [List.append_nil] at hw
        exact absurd hw hy
      | cons c C =>
        rw [List.cons_append] at e
        injection e with e1 e2
        subst e1
        obtain ⟨C2, x2, D2, g1, g2, g3, g4⟩ := pickH_some h want rest (pre ++ [y]) ⟨C, x, D, e2, by simpa using hw⟩
        refine ⟨y :: C2, x2, D2, ?_, by rw [g2]; rfl, by simpa using g3, ?_⟩
        · have e3 : pickH h want pre (y :: rest) = pickH h want (pre ++ [y]) rest := if_neg hy
          rw [e3, g1]; simp
        · intro C' z D' e4 hz
          cases C' with
          | nil =>
            rw [List.nil_append] at e4
            injection e4 with e5 e6
            subst e5; subst e6
            rw [List.append_nil] at hz
            exact absurd hz hy
          | cons c' C' =>
            rw [List.cons_append] at e4
            injection e4 with e5 e6
            subst e5
            have := g4 C' z D' e6 (by simpa using hz)
            simp only [List.length_cons]
            omega
/-- What a way of filling is worth. -/
structure Worth where
  g : Int → Int → Int
  mono : ∀ {a b s}, -1 ≤ a → a ≤ b → 0 ≤ b → a ≠ -1 → g a s ≤ g b s
  low : ∀ {a s}, 0 ≤ a → 0 ≤ s → -1 ≤ g a s
  inj : ∀ {a b s}, 0 ≤ a → 0 ≤ b → g a s = g b s → g a s ≠ -1 → a = b
  up : ∀ {a s}, 0 ≤ a → 0 ≤ s → g a s ≤ a + s
section
variable (wo : Worth) (r : Bool)
def stW (a b rest : Int) : Int := if rest = -1 then -1 else wo.g rest (ab a b)
def clW (a f : Int) : Int := if r = true then wo.g 0 (ab a f) else 0
def WF : Int → List Int → Int → Int
  | a, [], f => clW wo r a f
  | a, x :: p, f => stW wo a x (WF x p f)
def En : Nat → Int → Int → List Int → Int
  | 0, f, a, _ => clW wo r a f
  | k + 1, f, a, L => bestH (fun x L' => stW wo a x (En k f x L')) [] L (-1)
def fillR : Nat → Int → Int → List Int → List Int
  | 0, _, _, _ => []
  | k + 1, f, a, L => match pickH (fun x L' => stW wo a x (En wo r k f x L')) (En wo r (k + 1) f a L) [] L with
    | none => []
    | some (x, L') => x :: fillR k f x L'
end
theorem ab_nn (a b : Int) : 0 ≤ ab a b := by unfold ab; omega
section
variable {wo : Worth} {r : Bool}
theorem stW_low {a b w : Int} (h : -1 ≤ w) : -1 ≤ stW wo a b w := by
  unfold stW
  split
  · omega
  · exact wo.low (by omega) (ab_nn _ _)
theorem stW_mono {a b w w' : Int} (h : -1 ≤ w) (h2 : w ≤ w') : stW wo a b w ≤ stW wo a b w' := by
  by_cases e : w = -1
  · have := stW_low (wo := wo) (a := a) (b := b) (show -1 ≤ w' by omega)
    have e2 : stW wo a b w = -1 := if_pos e
    rw [e2]; exact this
  · have e1 : stW wo a b w = wo.g w (ab a b) := if_neg e
    have e2 : stW wo a b w' = wo.g w' (ab a b) := if_neg (by omega)
    rw [e1, e2]
    exact wo.mono h h2 (by omega) e
theorem stW_inj {a b w w' : Int} (h : -1 ≤ w) (h' : -1 ≤ w') (he : stW wo a b w = stW wo a b w') (hn : stW wo a b w ≠ -1) : w = w' := by
  unfold stW at he hn
  split at he
  · rename_i h1; rw [if_pos h1] at hn; exact absurd rfl hn
  · rename_i h1
    rw [if_neg h1] at hn
    split at he
    · exact absurd he hn
    · exact wo.inj (by omega) (by omega) he hn
theorem clW_low {a f : Int} : -1 ≤ clW wo r a f := by
  unfold clW
  split
  · exact wo.low (Int.le_refl _) (ab_nn _ _)
  · omega
theorem WF_low : ∀ (p : List Int) (a f : Int), -1 ≤ WF wo r a p f
  | [], _, _ => clW_low
  | x :: p, a, f => stW_low (WF_low p x f)
theorem En_low : ∀ (k : Nat) (f a : Int) (L : List Int), -1 ≤ En wo r k f a L
  | 0, _, _, _ => clW_low
  | k + 1, f, a, L => bestH_acc _ _ _ _
theorem En_up : ∀ (k : Nat) (f a : Int) (L : List Int), L.length = k → (∀ x ∈ L, 0 ≤ x ∧ x ≤ 60) → 0 ≤ f ∧ f ≤ 60 → 0 ≤ a ∧ a ≤ 60 → En wo r k f a L ≤ 60 * ((k : Int) + 1)
  | 0, f, a, L, _, _, hf, ha => by
    show clW wo r a f ≤ _
    have := ab_bd ha hf
    unfold clW
    split
    · have := wo.up (Int.le_refl 0) (ab_nn a f)
      omega
    · omega
  | k + 1, f, a, L, hk, hL, hf, ha => by
    rcases bestH_at (fun x L' => stW wo a x (En wo r k f x L')) L [] (-1) with h | ⟨C, x, D, h1, h2⟩
    · have : En wo r (k + 1) f a L = -1 := h
      omega
    · rw [List.nil_append] at h2
      have e : En wo r (k + 1) f a L = stW wo a x (En wo r k f x (C ++ D)) := h2
      have hx : 0 ≤ x ∧ x ≤ 60 := hL x (by rw [h1]; simp)
      have hl : (C ++ D).length = k := by rw [h1] at hk; simp at hk ⊢; omega
      have ih := En_up k f x (C ++ D) hl (fun y hy => hL y (by rw [h1]; rcases List.mem_append.1 hy with hy | hy <;> simp [hy])) hf hx
      have hlow := En_low (wo := wo) (r := r) k f x (C ++ D)
      have hb := ab_bd ha hx
      rw [e]
      unfold stW
      split
      · omega
      · have := wo.up (show 0 ≤ En wo r k f x (C ++ D) by omega) (ab_nn a x)
        omega
theorem bestH_att {h : Int → List Int → Int} (hl : ∀ x L, -1 ≤ h x L) {rest pre : List Int} (hr : rest ≠ []) : ∃ C x D, rest = C ++ x :: D ∧ bestH h pre rest (-1) = h x (pre ++ C ++ D) := by
  rcases bestH_at h rest pre (-1) with h1 | h1
  · cases rest with
    | nil => exact absurd rfl hr
    | cons x rest =>
      refine ⟨[], x, rest, rfl, ?_⟩
      have h2 := bestH_ub h (x :: rest) pre (-1) [] x rest rfl
      have := hl x (pre ++ [] ++ rest)
      omega
  · exact h1
theorem perm_split {x : Int} {p C D : List Int} (h : (x :: p).Perm (C ++ x :: D)) : p.Perm (C ++ D) := (List.perm_cons x).1 (h.trans List.perm_middle)
theorem mem_first {x : Int} {L : List Int} (h : x ∈ L) : ∃ C D, L = C ++ x :: D ∧ x ∉ C := by
  obtain ⟨C, D, h1, h2⟩ := List.eq_append_cons_of_mem h
  exact ⟨C, D, h1, h2⟩
theorem En_ub : ∀ (k : Nat) (f a : Int) (L p : List Int), L.length = k → p.Perm L → WF wo r a p f ≤ En wo r k f a L
  | 0, f, a, L, p, hk, hp => by
    have : L = [] := List.length_eq_zero_iff.1 hk
    subst this
    rw [List.perm_nil.1 hp]
    exact Int.le_refl _
  | k + 1, f, a, L, p, hk, hp => by
    cases p with
    | nil => have := hp.length_eq; simp at this; omega
    | cons x p =>
      obtain ⟨C, D, e, _⟩ := mem_first (hp.mem_iff.1 (List.mem_cons_self ..))
      subst e
      have hp' := perm_split hp
      have hl : (C ++ D).length = k := by simp at hk ⊢; omega
      have h1 := En_ub k f x (C ++ D) p hl hp'
      have h2 := bestH_ub (fun x L' => stW wo a x (En wo r k f x L')) (C ++ x :: D) [] (-1) C x D rfl
      rw [List.nil_append] at h2
      exact Int.le_trans (stW_mono (WF_low _ _ _) h1) h2
theorem En_at : ∀ (k : Nat) (f a : Int) (L : List Int), L.length = k → En wo r k f a L = -1 ∨ ∃ p, p.Perm L ∧ WF wo r a p f = En wo r k f a L
  | 0, f, a, L, hk => by
    have : L = [] := List.length_eq_zero_iff.1 hk
    subst this
    exact .inr ⟨[], List.Perm.refl _, rfl⟩
  | k + 1, f, a, L, hk => by
    rcases bestH_at (fun x L' => stW wo a x (En wo r k f x L')) L [] (-1) with h | ⟨C, x, D, h1, h2⟩
    · exact .inl h
    · subst h1
      rw [List.nil_append] at h2
      have hl : (C ++ D).length = k := by simp at hk ⊢; omega
      have e : En wo r (k + 1) f a (C ++ x :: D) = stW wo a x (En wo r k f x (C ++ D)) := h2
      rcases En_at k f x (C ++ D) hl with h3 | ⟨p, h3, h4⟩
      · left
        rw [e, h3]; exact if_pos rfl
      · refine .inr ⟨x :: p, (h3.cons x).trans List.perm_middle.symm, ?_⟩
        rw [e, ← h4]; rfl
theorem En_perm {k : Nat} {f a : Int} {L L' : List Int} (hk : L.length = k) (hp : L.Perm L') : En wo r k f a L = En wo r k f a L' := by
  have hk' : L'.length = k := by rw [← hp.length_eq]; exact hk
  have l1 := En_low (wo := wo) (r := r) k f a L
  have l2 := En_low (wo := wo) (r := r) k f a L'
  have h1 : En wo r k f a L ≤ En wo r k f a L' := by
    rcases En_at (wo := wo) (r := r) k f a L hk with h | ⟨p, h, h2⟩
    · omega
    · rw [← h2]; exact En_ub k f a L' p hk' (h.trans hp)
  have h2 : En wo r k f a L' ≤ En wo r k f a L := by
    rcases En_at (wo := wo) (r := r) k f a L' hk' with h | ⟨p, h, h2⟩
    · omega
    · rw [← h2]; exact En_ub k f a L p hk (h.trans hp.symm)
  omega
theorem sorted_rm {L C D : List Int} {x : Int} (hs : L.Pairwise (· ≤ ·)) (e : L = C ++ x :: D) : (C ++ D).Pairwise (· ≤ ·) := by
  subst e
  rw [List.pairwise_append] at hs ⊢
  obtain ⟨h1, h2, h3⟩ := hs
  exact ⟨h1, (List.pairwise_cons.1 h2).2, fun a ha b hb => h3 a ha b (List.mem_cons_of_mem _ hb)⟩
theorem sorted_le {L C D C' D' : List Int} {x y : Int} (hs : L.Pairwise (· ≤ ·)) (e : L = C ++ x :: D) (e' : L = C' ++ y :: D') (hl : C.length ≤ C'.length) : x ≤ y := by
  have h1 : L[C.length]? = some x := by rw [e]; simp
  have h2 : L[C'.length]? = some y := by rw [e']; simp
  obtain ⟨a1, h3⟩ := List.getElem?_eq_some_iff.1 h1
  obtain ⟨a2, h4⟩ := List.getElem?_eq_some_iff.1 h2
  by_cases he : C.length = C'.length
  · have : L[C.length]? = L[C'.length]? := by rw [he]
    rw [h1, h2] at this
    injection this with this
    omega
  · have := List.pairwise_iff_getElem.1 hs C.length C'.length a1 a2 (by omega)
    rw [h3, h4] at this
    exact this
/-- Two splits of the same value leave the same others. -/
theorem split_perm {L C D C' D' : List Int} {x : Int} (e : L = C ++ x :: D) (e' : L = C' ++ x :: D') : (C ++ D).Perm (C' ++ D') := by
  refine (List.perm_cons x).1 ?_
  exact List.perm_middle.symm.trans ((by rw [← e, ← e'] : (C ++ x :: D).Perm (C' ++ x :: D')).trans List.perm_middle)
theorem fillR_ok : ∀ (k : Nat) (f a : Int) (L : List Int), L.length = k → L.Pairwise (· ≤ ·) → En wo r k f a L ≠ -1 →
    (fillR wo r k f a L).Perm L ∧ WF wo r a (fillR wo r k f a L) f = En wo r k f a L ∧ ∀ p, p.Perm L → WF wo r a p f = En wo r k f a L → lle (fillR wo r k f a L) p
  | 0, f, a, L, hk, _, _ => by
    have : L = [] := List.length_eq_zero_iff.1 hk
    subst this
    exact ⟨List.Perm.refl _, rfl, fun p _ _ => trivial⟩
  | k + 1, f, a, L, hk, hs, hn => by
    have hat : ∃ C x D, L = C ++ x :: D ∧ (fun x L' => stW wo a x (En wo r k f x L')) x ([] ++ C ++ D) = En wo r (k + 1) f a L := by
      rcases bestH_at (fun x L' => stW wo a x (En wo r k f x L')) L [] (-1) with h | ⟨C, x, D, h1, h2⟩
      · exact absurd h hn
      · exact ⟨C, x, D, h1, h2.symm⟩
    obtain ⟨C, x, D, g1, g2, g3, g4⟩ := pickH_some (fun x L' => stW wo a x (En wo r k f x L')) _ L [] hat
    rw [List.nil_append] at g1 g3
    have g3' : stW wo a x (En wo r k f x (C ++ D)) = En wo r (k + 1) f a L := g3
    have hfr : fillR wo r (k + 1) f a L = x :: fillR wo r k f x (C ++ D) := by
      simp only [fillR, g1]
    have hl : (C ++ D).length = k := by rw [g2] at hk; simp at hk ⊢; omega
    have hnn : En wo r k f x (C ++ D) ≠ -1 := by
      intro e
      rw [e] at g3'
      exact hn (g3'.symm.trans (if_pos rfl))
    obtain ⟨i1, i2, i3⟩ := fillR_ok k f x (C ++ D) hl (sorted_rm hs g2) hnn
    rw [hfr]
    refine ⟨?_, ?_, ?_⟩
    · rw [g2]; exact (i1.cons x).trans List.perm_middle.symm
    · show stW wo a x (WF wo r x (fillR wo r k f x (C ++ D)) f) = _
      rw [i2, g3']
    · intro p hp hw
      cases p with
      | nil => have := hp.length_eq; simp at this; omega
      | cons y p =>
        obtain ⟨C', D', e', _⟩ := mem_first (hp.mem_iff.1 (List.mem_cons_self ..))
        have hp' : p.Perm (C' ++ D') := perm_split (e' ▸ hp)
        have hl' : (C' ++ D').length = k := by rw [e'] at hk; simp at hk ⊢; omega
        have u1 := En_ub (wo := wo) (r := r) k f y (C' ++ D') p hl' hp'
        have u2 := stW_mono (wo := wo) (a := a) (b := y) (WF_low (wo := wo) (r := r) p y f) u1
        have u3 := bestH_ub (fun x L' => stW wo a x (En wo r k f x L')) L [] (-1) C' y D' e'
        rw [List.nil_append] at u3
        have hw' : stW wo a y (WF wo r y p f) = En wo r (k + 1) f a L := hw
        have heq : stW wo a y (En wo r k f y (C' ++ D')) = En wo r (k + 1) f a L := by
          have u4 : stW wo a y (En wo r k f y (C' ++ D')) ≤ En wo r (k + 1) f a L := u3
          omega
        have hle := sorted_le hs g2 e' (g4 C' y D' e' (by rw [List.nil_append]; exact heq))
        by_cases hlt : x < y
        · exact .inl hlt
        · have hxy : x = y := by omega
          subst hxy
          refine .inr ⟨rfl, i3 p (hp'.trans (split_perm e' g2)) ?_⟩
          have := stW_inj (wo := wo) (WF_low (wo := wo) (r := r) p x f) (En_low (wo := wo) (r := r) k f x (C ++ D)) (hw'.trans g3'.symm) (by rw [hw']; exact hn)
          exact this
/-! The top. -/
variable (wo r) in
def topH (k : Nat) (x : Int) (L' : List Int) : Int := En wo r k x x L'
variable (wo r) in
def mostW (s : List Int) : Int := bestH (topH wo r (s.length - 1)) [] s (-1)
variable (wo r) in
def fillT (s : List Int) : List Int := match pickH (topH wo r (s.length - 1)) (mostW wo r s) [] s with
  | none => []
  | some (x, L') => x :: fillR wo r (s.length - 1) x x L'
variable (wo r) in
def WT : List Int → Int
  | [] => -1
  | x :: p => WF wo r x p x
theorem fillT_ok {s : List Int} (hs : s.Pairwise (· ≤ ·)) (hn : ∃ p, p.Perm s ∧ WT wo r p ≠ -1) : Best (fun p => - WT wo r p) s (fillT wo r s) ∧ WT wo r (fillT wo r s) ≠ -1 := by
  have hub : ∀ p, p.Perm s → WT wo r p ≤ mostW wo r s := by
    intro p hp
    cases p with
    | nil => exact bestH_acc _ _ _ _
    | cons x p =>
      obtain ⟨C, D, e, _⟩ := mem_first (hp.mem_iff.1 (List.mem_cons_self ..))
      have hp' : p.Perm (C ++ D) := perm_split (e ▸ hp)
      have hl : (C ++ D).length = s.length - 1 := by rw [e]; simp
      have h1 := En_ub (wo := wo) (r := r) (s.length - 1) x x (C ++ D) p hl hp'
      have h2 := bestH_ub (topH wo r (s.length - 1)) s [] (-1) C x D e
      rw [List.nil_append] at h2
      exact Int.le_trans h1 h2
  have hmn : mostW wo r s ≠ -1 := by
    obtain ⟨p, hp, hw⟩ := hn
    have h1 := hub p hp
    have : -1 ≤ WT wo r p := by
      cases p with
      | nil => exact Int.le_refl _
      | cons x p => exact WF_low _ _ _
    omega
  have hat : ∃ C x D, s = C ++ x :: D ∧ topH wo r (s.length - 1) x ([] ++ C ++ D) = mostW wo r s := by
    rcases bestH_at (topH wo r (s.length - 1)) s [] (-1) with h | ⟨C, x, D, h1, h2⟩
    · exact absurd h hmn
    · exact ⟨C, x, D, h1, h2.symm⟩
  obtain ⟨C, x, D, g1, g2, g3, g4⟩ := pickH_some _ _ s [] hat
  rw [List.nil_append] at g1 g3
  have g3' : En wo r (s.length - 1) x x (C ++ D) = mostW wo r s := g3
  have hfr : fillT wo r s = x :: fillR wo r (s.length - 1) x x (C ++ D) := by
    simp only [fillT, g1]
  have hl : (C ++ D).length = s.length - 1 := by rw [g2]; simp
  obtain ⟨i1, i2, i3⟩ := fillR_ok (wo := wo) (r := r) (s.length - 1) x x (C ++ D) hl (sorted_rm hs g2) (by rw [g3']; exact hmn)
  have hW : WT wo r (fillT wo r s) = mostW wo r s := by
    rw [hfr]
    show WF wo r x _ x = _
    rw [i2, g3']
  refine ⟨⟨?_, fun p hp => ⟨?_, fun he => ?_⟩⟩, by rw [hW]; exact hmn⟩
  · rw [hfr]
    have : (x :: fillR wo r (s.length - 1) x x (C ++ D)).Perm (C ++ x :: D) := (i1.cons x).trans List.perm_middle.symm
    rw [← g2] at this
    exact this
  · have := hub p hp
    show - WT wo r (fillT wo r s) ≤ - WT wo r p
    rw [hW]; omega
  · have he : WT wo r p = mostW wo r s := by
      have he : - WT wo r p = - WT wo r (fillT wo r s) := he
      rw [hW] at he; omega
    rw [hfr]
    cases p with
    | nil => have := hp.length_eq; rw [g2] at this; simp at this
    | cons y p =>
      obtain ⟨C', D', e', _⟩ := mem_first (hp.mem_iff.1 (List.mem_cons_self ..))
      have hp' : p.Perm (C' ++ D') := perm_split (e' ▸ hp)
      have hl' : (C' ++ D').length = s.length - 1 := by rw [e']; simp
      have u1 := En_ub (wo := wo) (r := r) (s.length - 1) y y (C' ++ D') p hl' hp'
      have u3 := bestH_ub (topH wo r (s.length - 1)) s [] (-1) C' y D' e'
      rw [List.nil_append] at u3
      have he' : WF wo r y p y = mostW wo r s := he
      have heq : topH wo r (s.length - 1) y (C' ++ D') = mostW wo r s := by
        have u4 : topH wo r (s.length - 1) y (C' ++ D') ≤ mostW wo r s := u3
        have u5 : En wo r (s.length - 1) y y (C' ++ D') = topH wo r (s.length - 1) y (C' ++ D') := rfl
        omega
      have hle := sorted_le hs g2 e' (g4 C' y D' e' (by rw [List.nil_append]; exact heq))
      by_cases hlt : x < y
      · exact .inl hlt
      · have hxy : x = y := by omega
        subst hxy
        refine .inr ⟨rfl, i3 p (hp'.trans (split_perm e' g2)) ?_⟩
        rw [he', g3']
end
/-! All arrangements. -/
def allS (rc : List Int → List Int → List (List Int)) (begun : List Int) : List Int → List Int → List (List Int)
  | _, [] => []
  | pre, x :: rest => (if x ∈ pre then [] else rc (begun ++ [x]) (pre ++ rest)) ++ allS rc begun (pre ++ [x]) rest
def allR : Nat → List Int → List Int → List (List Int)
  | 0, begun, _ => [begun]
  | k + 1, begun, left => allS (allR k) begun [] left
theorem allS_mem {rc : List Int → List Int → List (List Int)} {begun p : List Int} : ∀ (rest pre : List Int), p ∈ allS rc begun pre rest ↔ ∃ C x D, rest = C ++ x :: D ∧ x ∉ pre ++ C ∧ p ∈ rc (begun ++ [x]) (pre ++ C ++ D)
  | [], pre => by
    constructor
    · intro h; cases h
    · rintro ⟨C, x, D, h, _⟩; simp at h
  | y :: rest, pre => by
    show p ∈ (if y ∈ pre then [] else rc (begun ++ [y]) (pre ++ rest)) ++ allS rc begun (pre ++ [y]) rest ↔ _
    rw [List.mem_append, allS_mem rest (pre ++ [y])]
    constructor
    · rintro (h | ⟨C, x, D, h1, h2, h3⟩)
      · split at h
        · cases h
        · rename_i hy
          exact ⟨[], y, rest, rfl, by simpa using hy, by simpa using h⟩
      · exact ⟨y :: C, x, D, by rw [h1]; rfl, by simpa using h2, by simpa using h3⟩
    · rintro ⟨C, x, D, h1, h2, h3⟩
      cases C with
      | nil =>
        rw [List.nil_append] at h1
        injection h1 with e1 e2
        subst e1; subst e2
        left
        rw [if_neg (by simpa using h2)]
        simpa using h3
      | cons c C =>
        rw [List.cons_append] at h1
        injection h1 with e1 e2
        subst e1
        exact .inr ⟨C, x, D, e2, by simpa using h2, by simpa using h3⟩
theorem allR_mem : ∀ (k : Nat) (begun left p : List Int), left.length = k → (p ∈ allR k begun left ↔ ∃ q, q.Perm left ∧ p = begun ++ q)
  | 0, begun, left, p, hk => by
    have : left = [] := List.length_eq_zero_iff.1 hk
    subst this
    show p ∈ [begun] ↔ _
    constructor
    · intro h; exact ⟨[], List.Perm.refl _, by simpa using h⟩
    · rintro ⟨q, hq, rfl⟩; rw [List.perm_nil.1 hq]; simp
  | k + 1, begun, left, p, hk => by
    show p ∈ allS (allR k) begun [] left ↔ _
    rw [allS_mem]
    constructor
    · rintro ⟨C, x, D, h1, h2, h3⟩
      have hl : ([] ++ C ++ D).length = k := by rw [h1] at hk; simp at hk ⊢; omega
      obtain ⟨q, hq, rfl⟩ := (allR_mem k _ _ _ hl).1 h3
      refine ⟨x :: q, ?_, by simp⟩
      rw [h1]
      exact (hq.cons x).trans List.perm_middle.symm
    · rintro ⟨q, hq, rfl⟩
      cases q with
      | nil => have := hq.length_eq; simp at this; omega
      | cons x q =>
        obtain ⟨C, D, e, hx⟩ := mem_first (hq.mem_iff.1 (List.mem_cons_self ..))
        have hl : ([] ++ C ++ D).length = k := by rw [e] at hk; simp at hk ⊢; omega
        exact ⟨C, x, D, e, by simpa using hx, (allR_mem k _ _ _ hl).2 ⟨q, perm_split (e ▸ hq), by simp⟩⟩
theorem allR_asc : ∀ (k : Nat) (begun left : List Int), left.length = k → left.Pairwise (· ≤ ·) → (allR k begun left).Pairwise lle
  | 0, _, _, _, _ => List.pairwise_singleton _ _
  | k + 1, begun, left, hk, hs => by
    have key : ∀ (rest pre : List Int), left = pre ++ rest → (allS (allR k) begun pre rest).Pairwise lle := by
      intro rest
      induction rest with
      | nil => intro pre _; exact List.Pairwise.nil
      | cons x rest ih =>
        intro pre he
        have hl : (pre ++ rest).length = k := by rw [he] at hk; simp at hk ⊢; omega
        show ((if x ∈ pre then [] else allR k (begun ++ [x]) (pre ++ rest)) ++ allS (allR k) begun (pre ++ [x]) rest).Pairwise lle
        rw [List.pairwise_append]
        refine ⟨?_, ih (pre ++ [x]) (by simpa using he), ?_⟩
        · split
          · exact List.Pairwise.nil
          · exact allR_asc k _ _ hl (sorted_rm hs he)
        · intro a ha b hb
          split at ha
          · cases ha
          · obtain ⟨q, _, rfl⟩ := (allR_mem k _ _ _ hl).1 ha
            obtain ⟨C, y, D, h1, h2, h3⟩ := (allS_mem rest (pre ++ [x])).1 hb
            have hl2 : (pre ++ [x] ++ C ++ D).length = k := by rw [he, h1] at hk; simp at hk ⊢; omega
            obtain ⟨q2, _, rfl⟩ := (allR_mem k _ _ _ hl2).1 h3
            have hxy : x ≤ y := sorted_le (C := pre) (D := rest) (C' := pre ++ x :: C) (D' := D) hs he (by rw [he, h1]; simp) (by simp)
            have hne : x ≠ y := fun e => h2 (by rw [e]; simp)
            rw [List.append_assoc, List.append_assoc]
            exact lle_app_lt begun (by omega)
    exact key left [] rfl
theorem allS_len {rc : List Int → List Int → List (List Int)} {begun : List Int} {B K : Nat} (h : ∀ a b, b.length = K → (rc a b).length ≤ B) : ∀ (rest pre : List Int), (pre ++ rest).length = K + 1 → (allS rc begun pre rest).length ≤ rest.length * B
  | [], _, _ => Nat.zero_le _
  | x :: rest, pre, hk => by
    show ((if x ∈ pre then [] else rc (begun ++ [x]) (pre ++ rest)) ++ allS rc begun (pre ++ [x]) rest).length ≤ _
    have h1 := allS_len (begun := begun) h rest (pre ++ [x]) (by simp at hk ⊢; omega)
    have h2 : (if x ∈ pre then [] else rc (begun ++ [x]) (pre ++ rest)).length ≤ B := by
      split
      · exact Nat.zero_le _
      · exact h _ _ (by simp at hk ⊢; omega)
    rw [List.length_append, List.length_cons, Nat.succ_mul]
    omega
def fac : Nat → Nat
  | 0 => 1
  | k + 1 => (k + 1) * fac k
theorem allR_len : ∀ (k : Nat) (begun left : List Int), left.length = k → (allR k begun left).length ≤ fac k
  | 0, _, _, _ => Nat.le_refl _
  | k + 1, begun, left, hk => by
    have := allS_len (begun := begun) (B := fac k) (K := k) (fun a b hb => allR_len k a b hb) left [] (by simpa using hk)
    rw [hk] at this
    exact this
theorem allR_best {cost : List Int → Int} {s R : List Int} (hR : R ∈ allR s.length [] s) (h : ∀ p ∈ allR s.length [] s, cost R ≤ cost p ∧ (cost p = cost R → lle R p)) : Best cost s R := by
  obtain ⟨q, hq, e⟩ := (allR_mem s.length [] s R rfl).1 hR
  rw [List.nil_append] at e
  subst e
  exact ⟨hq, fun p hp => h p ((allR_mem s.length [] s p rfl).2 ⟨p, hp, rfl⟩)⟩
/-- The first of the least, going through a list. -/
def firstL (cost : List Int → Int) : List Int → List (List Int) → List Int
  | b, [] => b
  | b, x :: l => firstL cost (if cost x < cost b then x else b) l
theorem firstL_ok {cost : List Int → Int} : ∀ (l done : List (List Int)) (b : List Int), (done ++ l).Pairwise lle → b ∈ done → (∀ p ∈ done, cost b ≤ cost p ∧ (cost p = cost b → lle b p)) →
    firstL cost b l ∈ done ++ l ∧ ∀ p ∈ done ++ l, cost (firstL cost b l) ≤ cost p ∧ (cost p = cost (firstL cost b l) → lle (firstL cost b l) p)
  | [], done, b, _, h2, h3 => by rw [List.append_nil]; exact ⟨h2, h3⟩
  | x :: l, done, b, h1, h2, h3 => by
    have e : done ++ x :: l = (done ++ [x]) ++ l := by simp
    rw [e] at h1 ⊢
    refine firstL_ok l (done ++ [x]) _ h1 ?_ ?_
    · split
      · simp
      · exact List.mem_append_left _ h2
    · intro p hp
      have hbx : lle b x := (List.pairwise_append.1 (List.pairwise_append.1 h1).1).2.2 b h2 x (by simp)
      rcases List.mem_append.1 hp with hp | hp
      · have := h3 p hp
        split
        · rename_i hlt
          exact ⟨by omega, fun he => by omega⟩
        · exact this
      · have hpx : p = x := by simpa using hp
        subst hpx
        split
        · exact ⟨Int.le_refl _, fun _ => lle_refl _⟩
        · rename_i hlt
          exact ⟨by omega, fun _ => hbx⟩
theorem first_best {cost : List Int → Int} {s b : List Int} {l : List (List Int)} (hs : s.Pairwise (· ≤ ·)) (he : allR s.length [] s = b :: l) : Best cost s (firstL cost b l) := by
  have ha := allR_asc s.length [] s rfl hs
  have h := firstL_ok (cost := cost) l [b] b (by rw [he] at ha; simpa using ha) (by simp) (fun p hp => by
    have : p = b := by simpa using hp
    subst this
    exact ⟨Int.le_refl _, fun _ => lle_refl _⟩)
  refine allR_best (by rw [he]; simpa using h.1) ?_
  rw [he]
  simpa using h.2
/-- Smaller, of lists as long as each other. -/
def sm : List Int → List Int → Bool
  | x :: a, y :: b => if x = y then sm a b else decide (x < y)
  | _, _ => false
theorem sm_t : ∀ {a b : List Int}, sm a b = true → lle a b ∧ a ≠ b
  | [], [], h => by cases h
  | [], _ :: _, h => by cases h
  | _ :: _, [], h => by cases h
  | x :: a, y :: b, h => by
    unfold sm at h
    split at h
    · rename_i e
      subst e
      obtain ⟨h1, h2⟩ := sm_t h
      exact ⟨.inr ⟨rfl, h1⟩, fun e => h2 (List.cons.inj e).2⟩
    · have h : x < y := of_decide_eq_true h
      exact ⟨.inl h, fun e => by have := (List.cons.inj e).1; omega⟩
theorem sm_f : ∀ {a b : List Int}, a.length = b.length → sm a b = false → lle b a
  | [], [], _, h => trivial
  | [], _ :: _, hl, h => by cases hl
  | _ :: _, [], hl, h => by cases hl
  | x :: a, y :: b, hl, h => by
    unfold sm at h
    split at h
    · rename_i e
      subst e
      exact .inr ⟨rfl, sm_f (Nat.succ.inj hl) h⟩
    · have h : ¬ x < y := of_decide_eq_false h
      exact .inl (by omega)
/-- .. as the reference picks it. -/
def refL (cost : List Int → Int) : List Int → List (List Int) → List Int
  | b, [] => b
  | b, x :: l => refL cost (if (decide (cost x < cost b) || (decide (cost x = cost b) && sm x b)) = true then x else b) l
theorem refL_ok {cost : List Int → Int} {n : Nat} : ∀ (l done : List (List Int)) (b : List Int), (∀ p ∈ done ++ l, p.length = n) → b ∈ done → (∀ p ∈ done, cost b ≤ cost p ∧ (cost p = cost b → lle b p)) →
    refL cost b l ∈ done ++ l ∧ ∀ p ∈ done ++ l, cost (refL cost b l) ≤ cost p ∧ (cost p = cost (refL cost b l) → lle (refL cost b l) p)
  | [], done, b, _, h2, h3 => by rw [List.append_nil]; exact ⟨h2, h3⟩
  | x :: l, done, b, h1, h2, h3 => by
    have e : done ++ x :: l = (done ++ [x]) ++ l := by simp
    have hbl := h1 b (List.mem_append_left _ h2)
    have hxl := h1 x (by simp)
    rw [e] at h1 ⊢
    refine refL_ok l (done ++ [x]) _ h1 ?_ ?_
    · split
      · simp
      · exact List.mem_append_left _ h2
    · intro p hp
      split
      · rename_i hc
        rw [Bool.or_eq_true, Bool.and_eq_true, decide_eq_true_eq, decide_eq_true_eq] at hc
        rcases List.mem_append.1 hp with hp | hp
        · have := h3 p hp
          rcases hc with hc | ⟨hc, hsm⟩
          · exact ⟨by omega, fun he => by omega⟩
          · exact ⟨by omega, fun he => lle_trans (sm_t hsm).1 (this.2 (by omega))⟩
        · have hpx : p = x := by simpa using hp
          subst hpx
          exact ⟨Int.le_refl _, fun _ => lle_refl _⟩
      · rename_i hc
        rcases List.mem_append.1 hp with hp | hp
        · exact h3 p hp
        · have hpx : p = x := by simpa using hp
          subst hpx
          by_cases hlt : cost p < cost b
          · exact absurd (by simp [hlt]) hc
          · refine ⟨by omega, fun he => ?_⟩
            cases hs : sm p b with
            | true => exact absurd (by simp [he, hs]) hc
            | false => exact sm_f (hxl.trans hbl.symm) hs
theorem ref_best {cost : List Int → Int} {s b : List Int} {l : List (List Int)} (he : allR s.length [] s = b :: l) : Best cost s (refL cost b l) := by
  have hlen : ∀ p ∈ [b] ++ l, p.length = s.length := by
    intro p hp
    have : p ∈ allR s.length [] s := by rw [he]; exact hp
    obtain ⟨q, hq, e⟩ := (allR_mem s.length [] s p rfl).1 this
    rw [e, List.nil_append]; exact hq.length_eq
  have h := refL_ok (cost := cost) l [b] b hlen (by simp) (fun p hp => by
    have : p = b := by simpa using hp
    subst this
    exact ⟨Int.le_refl _, fun _ => lle_refl _⟩)
  refine allR_best (by rw [he]; simpa using h.1) ?_
  rw [he]
  simpa using h.2
theorem allR_ne (s : List Int) : ∃ b l, allR s.length [] s = b :: l := by
  have h : s ∈ allR s.length [] s := (allR_mem s.length [] s s rfl).2 ⟨s, List.Perm.refl _, rfl⟩
  cases he : allR s.length [] s with
  | nil => rw [he] at h; cases h
  | cons b l => exact ⟨b, l, rfl⟩
end Go.Vit
