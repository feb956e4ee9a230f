/- Plain: what becomes of all lists of wishes, by the bays' names. -/
import Derived.Test.YtnmmjbclidbdbaaDoorD0
import Derived.Test.YtnmmjbclidbdbaaDoorW10
import Derived.Test.YtnmmjbclidbdbaaDoorW11
import Derived.Test.YtnmmjbclidbdbaaDoorW12
import Derived.Test.YtnmmjbclidbdbaaDoorW14
import Derived.Test.YtnmmjbclidbdbaaDoorCoreD
set_option linter.unusedSimpArgs false
set_option linter.unusedVariables false
set_option maxRecDepth 20000
namespace Go.Vit
open Go
abbrev Ways := List (List Nat × Nat)
/-- A list's letters. -/
def nameL (k : List Nat) : List UInt8 := k.map fun x => UInt8.ofNat (97 + x)
def nameS (k : List Nat) : ByteArray := ⟨(nameL k).toArray⟩
def Low (k : List Nat) : Prop := ∀ x ∈ k, x < 8
theorem nameL_inj : ∀ {k k' : List Nat}, Low k → Low k' → nameL k = nameL k' → k = k'
  | [], [], _, _, _ => rfl
  | x :: k, y :: k', h, h', e => by
    simp only [nameL, List.map_cons, List.cons.injEq] at e
    have hx := h x (List.mem_cons_self ..)
    have hy := h' y (List.mem_cons_self ..)
    have e1 := congrArg UInt8.toNat e.1
    simp only [UInt8.toNat_ofNat'] at e1
    have hxy : x = y := by omega
    rw [hxy, nameL_inj (fun z hz => h z (List.mem_cons_of_mem _ hz)) (fun z hz => h' z (List.mem_cons_of_mem _ hz)) e.2]
  | [], _ :: _, _, _, e => by simp [nameL] at e
  | _ :: _, [], _, _, e => by simp [nameL] at e
theorem nameS_toList (k : List Nat) : (nameS k).toList = nameL k := ByteArray.toList_mk _
theorem nameS_snoc (k : List Nat) (x : Nat) : nameS k ++ ⟨#[UInt8.ofNat (97 + x)]⟩ = nameS (k ++ [x]) := by
  have h : (nameS k ++ (⟨#[UInt8.ofNat (97 + x)]⟩ : ByteArray)).data = (nameS (k ++ [x])).data := by
    rw [ByteArray.data_append]
    show (nameL k).toArray ++ #[UInt8.ofNat (97 + x)] = (nameL (k ++ [x])).toArray
    unfold nameL
    rw [List.map_append]
    simp
  exact congrArg ByteArray.mk h
theorem enc_low {x : Nat} (h : x < 8) : Utf8.encode (97 + (x : Int)) = ⟨#[UInt8.ofNat (97 + x)]⟩ := by
  match x, h with
  | 0, _ => rfl
  | 1, _ => rfl
  | 2, _ => rfl
  | 3, _ => rfl
  | 4, _ => rfl
  | 5, _ => rfl
  | 6, _ => rfl
  | 7, _ => rfl
/-- Where a list stands, and how often it was met. -/
def findW (k : List Nat) : Ways → Nat → Option (Nat × Nat)
  | [], _ => none
  | q :: E, i => if k = q.1 then some (i, q.2) else findW k E (i + 1)
def bumpW (k : List Nat) (E : Ways) : Ways := match findW k E 0 with
  | some (j, c) => E.set j (k, c + 1)
  | none => E ++ [(k, 1)]
def valW (k : List Nat) (E : Ways) : Nat := match findW k E 0 with
  | some (_, c) => c
  | none => 0
def visitW (N : Nat) (l : List Nat) (E : Ways) : Ways := if (-1 : Int) ∈ parkL N l then E else bumpW (nnl (parkL N l)) E
def goW (N : Nat) : Nat → List Nat → Ways → Option Ways
  | 0, _, _ => none
  | f + 1, l, E => match nxtL N l with
    | some l' => goW N f l' (visitW N l E)
    | none => some (visitW N l E)
def finW (N p : Nat) : Ways := (goW N (N ^ p) (List.replicate p 0) []).getD []
def listsN (N : Nat) : Nat → List (List Nat)
  | 0 => [[]]
  | p + 1 => (List.range N).flatMap fun x => (listsN N p).map fun l => x :: l
theorem mem_lists {N : Nat} : ∀ {l : List Nat}, (∀ x ∈ l, x < N) → l ∈ listsN N l.length
  | [], _ => List.mem_singleton.2 rfl
  | x :: l, h => by
    show x :: l ∈ (List.range N).flatMap fun x => (listsN N l.length).map fun l => x :: l
    rw [List.mem_flatMap]
    exact ⟨x, List.mem_range.2 (h x (List.mem_cons_self ..)), List.mem_map.2 ⟨l, mem_lists fun y hy => h y (List.mem_cons_of_mem _ hy), rfl⟩⟩
def sumW (E : Ways) : Nat := (E.map (·.2)).sum
def goodW (N p : Nat) : Bool := (goW N (N ^ p) (List.replicate p 0) []).isSome && ((listsN N p).all (fun w => !decide w.Nodup || Nat.beq (valW w (finW N p)) (prodW w p)) && Nat.beq (sumW (finW N p)) (cntW N p 0))
theorem goodW_all : ([(1, 0), (1, 1), (2, 0), (2, 1), (2, 2), (3, 0), (3, 1), (3, 2), (3, 3), (4, 0), (4, 1), (4, 2), (4, 3), (4, 4)].all fun q => goodW q.1 q.2) = true := by decide +kernel
theorem goodW_of {N p : Nat} (h1 : 1 ≤ N) (h4 : N ≤ 4) (hp : p ≤ N) : goodW N p = true := by
  have h := List.all_eq_true.1 goodW_all (N, p) (by
    match N, p, h1, h4, hp with
    | 1, 0, _, _, _ => simp
    | 1, 1, _, _, _ => simp
    | 2, 0, _, _, _ => simp
    | 2, 1, _, _, _ => simp
    | 2, 2, _, _, _ => simp
    | 3, 0, _, _, _ => simp
    | 3, 1, _, _, _ => simp
    | 3, 2, _, _, _ => simp
    | 3, 3, _, _, _ => simp
    | 4, 0, _, _, _ => simp
    | 4, 1, _, _, _ => simp
    | 4, 2, _, _, _ => simp
    | 4, 3, _, _, _ => simp
    | 4, 4, _, _, _ => simp)
  exact h
theorem fin_go {N p : Nat} (h1 : 1 ≤ N) (h4 : N ≤ 4) (hp : p ≤ N) : goW N (N ^ p) (List.replicate p 0) [] = some (finW N p) := by
  have h := goodW_of h1 h4 hp
  unfold goodW at h
  rw [Bool.and_eq_true] at h
  have h := h.1
  unfold finW
  cases hg : goW N (N ^ p) (List.replicate p 0) [] with
  | some F => rfl
  | none => rw [hg] at h; cases h
theorem fin_val {N p : Nat} (h1 : 1 ≤ N) (h4 : N ≤ 4) (hp : p ≤ N) {w : List Nat} (hw : ∀ x ∈ w, x < N) (hl : w.length = p) (hn : w.Nodup) : valW w (finW N p) = prodW w p := by
  have h := goodW_of h1 h4 hp
  unfold goodW at h
  rw [Bool.and_eq_true, Bool.and_eq_true] at h
  have hm := mem_lists hw
  rw [hl] at hm
  have h2 := List.all_eq_true.1 h.2.1 w hm
  rw [decide_eq_true hn] at h2
  exact Nat.eq_of_beq_eq_true h2
theorem fin_sum {N p : Nat} (h1 : 1 ≤ N) (h4 : N ≤ 4) (hp : p ≤ N) : sumW (finW N p) = cntW N p 0 := by
  have h := goodW_of h1 h4 hp
  unfold goodW at h
  rw [Bool.and_eq_true, Bool.and_eq_true] at h
  exact Nat.eq_of_beq_eq_true h.2.2
/-- The map's entries. -/
def entW (E : Ways) : List (Value × Value) := E.map fun q => (.string (nameS q.1), .int .i64 (q.2 : Int))
def LowE (f : Nat) (E : Ways) : Prop := ∀ q ∈ E, Low q.1 ∧ q.2 + f ≤ 256
theorem keyEq_name {P : Program} {kt : TypeId} (hu : P.underlying kt = some .string) {k k' : List Nat} (h : Low k) (h' : Low k') : keyEq P kt (.string (nameS k)) (.string (nameS k')) = some (decide (k = k')) := by
  simp only [keyEq, hu, nameS_toList]
  congr 1
  by_cases e : k = k'
  · subst e; simp
  · rw [decide_eq_false e]
    rw [beq_eq_false_iff_ne]
    exact fun hh => e (nameL_inj h h' hh)
theorem mapFind_name {P : Program} {kt : TypeId} (hu : P.underlying kt = some .string) {k : List Nat} (h : Low k) : ∀ (E : Ways) (i : Nat), (∀ q ∈ E, Low q.1) →
    mapFind P kt (.string (nameS k)) (entW E) i = some ((findW k E i).map fun r => (r.1, .int .i64 (r.2 : Int)))
  | [], _, _ => rfl
  | q :: E, i, hE => by
    simp only [entW, List.map_cons, mapFind, keyEq_name hu h (hE q (List.mem_cons_self ..)), findW]
    by_cases e : k = q.1
    · rw [decide_eq_true e, if_pos e]; rfl
    · rw [decide_eq_false e, if_neg e]
      exact mapFind_name hu h E (i + 1) fun r hr => hE r (List.mem_cons_of_mem _ hr)
theorem findW_mem {k : List Nat} : ∀ {E : Ways} {i j c : Nat}, findW k E i = some (j, c) → i ≤ j ∧ E[j - i]? = some (k, c)
  | q :: E, i, j, c, h => by
    simp only [findW] at h
    split at h
    · rename_i e
      cases h
      refine ⟨Nat.le_refl _, ?_⟩
      rw [Nat.sub_self, e]; rfl
    · obtain ⟨h1, h2⟩ := findW_mem h
      refine ⟨by omega, ?_⟩
      rw [show j - i = (j - (i + 1)) + 1 by omega]
      exact h2
theorem lookW {P : Program} {t kt e L : Nat} {m : Mem} {b : Nat} {E : Ways} {k : List Nat} (ht : P.underlying t = some (.map kt e)) (hu : P.underlying kt = some .string) (hz : tzero P e = some (.int .i64 0)) (hb : m.rd b = some ⟨0, [], some (entW E)⟩) (h : Low k) (hE : ∀ q ∈ E, Low q.1) :
    alookup P m t (.map (some b)) (.string (nameS k)) false = some (.int .i64 (valW k E : Int)) := by
  have hk : keyEq P kt (.string (nameS k)) (.string (nameS k)) = some true := by rw [keyEq_name hu h h, decide_eq_true rfl]
  have hf := mapFind_name hu h E 0 hE
  unfold valW
  cases hw : findW k E 0 with
  | some r => rw [hw] at hf; exact alookup_hit ht hk hb hf
  | none => rw [hw] at hf; exact alookup_miss ht hk hb hf hz (by rfl)
theorem bumpE {P : Program} {t kt e L : Nat} {m : Mem} {b : Nat} {E : Ways} {k : List Nat} (ht : P.underlying t = some (.map kt e)) (hu : P.underlying kt = some .string) (hL : L ≤ b) (hb : m.rd b = some ⟨0, [], some (entW E)⟩) (h : Low k) (hE : ∀ q ∈ E, Low q.1) :
    amapUpdate P L m t (.map (some b)) (.string (nameS k)) (.int .i64 (((valW k E + 1 : Nat)) : Int)) = some (Go.undef, m.put b (some ⟨0, [], some (entW (bumpW k E))⟩)) := by
  have hk : keyEq P kt (.string (nameS k)) (.string (nameS k)) = some true := by rw [keyEq_name hu h h, decide_eq_true rfl]
  have hf := mapFind_name hu h E 0 hE
  refine amapUpdate_e ht hk hL hb ?_
  unfold valW bumpW
  cases hw : findW k E 0 with
  | some r =>
    rw [hw] at hf
    rw [mapPut_old hf]
    show some ((entW E).set r.1 _) = some (entW (E.set r.1 (k, r.2 + 1)))
    unfold entW
    rw [List.map_set]
  | none =>
    rw [hw] at hf
    rw [mapPut_new hf]
    show some (entW E ++ _) = some (entW (E ++ [(k, 1)]))
    unfold entW
    rw [List.map_append]; rfl
theorem valW_le {f : Nat} {k : List Nat} {E : Ways} (hE : LowE f E) (hf : f ≤ 256) : valW k E + f ≤ 256 := by
  unfold valW
  cases hw : findW k E 0 with
  | some r => obtain ⟨_, h2⟩ := findW_mem hw; exact (hE _ (List.mem_of_getElem? h2)).2
  | none => show 0 + f ≤ 256; omega
theorem LowE.bump {f : Nat} {k : List Nat} {E : Ways} (hE : LowE (f + 1) E) (hf : f + 1 ≤ 256) (h : Low k) : LowE f (bumpW k E) := by
  unfold bumpW
  cases hw : findW k E 0 with
  | some r =>
    obtain ⟨_, h2⟩ := findW_mem hw
    have := (hE _ (List.mem_of_getElem? h2)).2
    intro q hq
    rcases List.mem_or_eq_of_mem_set hq with hq | rfl
    · have := hE q hq; exact ⟨this.1, by omega⟩
    · exact ⟨h, by show r.2 + 1 + f ≤ 256; omega⟩
  | none =>
    intro q hq
    rcases List.mem_append.1 hq with hq | hq
    · have := hE q hq; exact ⟨this.1, by omega⟩
    · rw [List.mem_singleton.1 hq]; exact ⟨h, by show 1 + f ≤ 256; omega⟩
theorem LowE.less {f g : Nat} {E : Ways} (h : LowE f E) (hg : g ≤ f) : LowE g E := fun q hq => ⟨(h q hq).1, by have := (h q hq).2; omega⟩
theorem sumV_ent : ∀ E : Ways, sumV (entW E) = some ((sumW E : Nat) : Int)
  | [] => rfl
  | q :: E => by
    have ih := sumV_ent E
    unfold entW at ih ⊢
    simp only [List.map_cons, sumV, ih]
    rw [decide_eq_true (show (0 : Int) ≤ (q.2 : Int) by omega)]
    show some ((q.2 : Int) + (sumW E : Int)) = some ((q.2 + sumW E : Nat) : Int)
    congr 1
/-- Lists without a number twice. -/
def ddL (l : List Nat) : List Nat := l.foldl (fun acc x => if x ∈ acc then acc else acc ++ [x]) []
theorem ddL_snoc (l : List Nat) (x : Nat) : ddL (l ++ [x]) = if x ∈ ddL l then ddL l else ddL l ++ [x] := by
  unfold ddL; rw [List.foldl_append]; rfl
theorem ddA_ok : ∀ (l acc : List Nat), acc.Nodup → (l.foldl (fun acc x => if x ∈ acc then acc else acc ++ [x]) acc).Nodup ∧ (∀ x ∈ l.foldl (fun acc x => if x ∈ acc then acc else acc ++ [x]) acc, x ∈ acc ∨ x ∈ l) ∧ (l.foldl (fun acc x => if x ∈ acc then acc else acc ++ [x]) acc).length ≤ acc.length + l.length
  | [], acc, h => ⟨h, fun x hx => .inl hx, Nat.le_refl _⟩
  | y :: l, acc, h => by
    simp only [List.foldl_cons]
    by_cases hy : y ∈ acc
    · rw [if_pos hy]
      obtain ⟨g1, g2, g3⟩ := ddA_ok l acc h
      exact ⟨g1, fun x hx => (g2 x hx).imp (fun h => h) (fun h => List.mem_cons_of_mem _ h), by simp only [List.length_cons]; omega⟩
    · rw [if_neg hy]
      have hn : (acc ++ [y]).Nodup := by
        rw [List.nodup_append]
        refine ⟨h, by simp, fun a ha b hb => ?_⟩
        rw [List.mem_singleton.1 hb]
        exact fun e => hy (e ▸ ha)
      obtain ⟨g1, g2, g3⟩ := ddA_ok l (acc ++ [y]) hn
      refine ⟨g1, fun x hx => ?_, by simp only [List.length_append, List.length_cons, List.length_nil] at g3 ⊢; omega⟩
      rcases g2 x hx with h | h
      · rcases List.mem_append.1 h with h | h
        · exact .inl h
        · rw [List.mem_singleton.1 h]; exact .inr (List.mem_cons_self ..)
      · exact .inr (List.mem_cons_of_mem _ h)
theorem ddL_ok (l : List Nat) : (ddL l).Nodup ∧ (∀ x ∈ ddL l, x ∈ l) ∧ (ddL l).length ≤ l.length := by
  obtain ⟨h1, h2, h3⟩ := ddA_ok l [] List.nodup_nil
  exact ⟨h1, fun x hx => (h2 x hx).resolve_left (by simp), by have h4 := h3; rw [List.length_nil, Nat.zero_add] at h4; exact h4⟩
/-- Bays without a bay twice are fine; with one of them once more, they are not. -/
theorem dif_no {N : Nat} : ∀ (w : List Nat) (acc : List Int), (∀ x ∈ w, x < N) → w.Nodup → (∀ x ∈ w, (x : Int) ∉ acc) → difL (N : Int) acc (ci w) = 0
  | [], _, _, _, _ => rfl
  | x :: w, acc, h, hn, ha => by
    have hx := h x (List.mem_cons_self ..)
    have hnd := List.nodup_cons.1 hn
    show (if inI (x : Int) 0 ((N : Int) - 1) then (if (x : Int) ∈ acc then 6 else difL (N : Int) (acc ++ [(x : Int)]) (ci w)) else 2) = 0
    rw [if_pos ⟨by omega, by omega⟩, if_neg (ha x (List.mem_cons_self ..))]
    refine dif_no w _ (fun y hy => h y (List.mem_cons_of_mem _ hy)) hnd.2 fun y hy => ?_
    rw [List.mem_append, not_or]
    refine ⟨ha y (List.mem_cons_of_mem _ hy), fun e => ?_⟩
    have : y = x := by have := List.mem_singleton.1 e; omega
    exact hnd.1 (this ▸ hy)
theorem dif_again {N : Nat} : ∀ (w : List Nat) (acc : List Int) (z : Nat), (∀ x ∈ w, x < N) → w.Nodup → (∀ x ∈ w, (x : Int) ∉ acc) → z < N → (z ∈ w ∨ (z : Int) ∈ acc) → difL (N : Int) acc (ci (w ++ [z])) = 6
  | [], acc, z, _, _, _, hz, hm => by
    have hm : (z : Int) ∈ acc := hm.resolve_left (by simp)
    show (if inI (z : Int) 0 ((N : Int) - 1) then (if (z : Int) ∈ acc then 6 else difL (N : Int) (acc ++ [(z : Int)]) []) else 2) = 6
    rw [if_pos ⟨by omega, by omega⟩, if_pos hm]
  | x :: w, acc, z, h, hn, ha, hz, hm => by
    have hx := h x (List.mem_cons_self ..)
    have hnd := List.nodup_cons.1 hn
    show (if inI (x : Int) 0 ((N : Int) - 1) then (if (x : Int) ∈ acc then 6 else difL (N : Int) (acc ++ [(x : Int)]) (ci (w ++ [z]))) else 2) = 6
    rw [if_pos ⟨by omega, by omega⟩, if_neg (ha x (List.mem_cons_self ..))]
    refine dif_again w _ z (fun y hy => h y (List.mem_cons_of_mem _ hy)) hnd.2 (fun y hy => ?_) hz ?_
    · rw [List.mem_append, not_or]
      refine ⟨ha y (List.mem_cons_of_mem _ hy), fun e => ?_⟩
      have : y = x := by have := List.mem_singleton.1 e; omega
      exact hnd.1 (this ▸ hy)
    · rcases hm with hm | hm
      · rcases List.mem_cons.1 hm with rfl | hm
        · exact .inr (List.mem_append.2 (.inr (List.mem_singleton.2 rfl)))
        · exact .inl hm
      · exact .inr (List.mem_append.2 (.inl hm))
/-- The count of ways is right. -/
theorem ways_yes {N : Nat} {w : List Nat} (h1 : 1 ≤ N) (h8 : N ≤ 8) (hw : ∀ x ∈ w, x < N) (hn : w.Nodup) (hl : w.length ≤ N) : waE (N : Int) (ci w) = 0 ∧ waV (N : Int) (ci w) = (prodW w w.length : Int) := by
  have hE : waE (N : Int) (ci w) = 0 := by
    unfold waE difX
    rw [if_pos ⟨by omega, by omega⟩, if_neg (by rw [ci_length]; omega), if_pos ⟨by omega, by omega⟩]
    exact dif_no w [] hw hn (by simp)
  refine ⟨hE, ?_⟩
  unfold waV
  rw [if_pos hE, nnl_ci, ci_length]
theorem ways_twice {N : Nat} {w : List Nat} {z : Nat} (h1 : 1 ≤ N) (h8 : N ≤ 8) (hw : ∀ x ∈ w, x < N) (hn : w.Nodup) (hl : w.length < N) (hz : z ∈ w) : waE (N : Int) (ci (w ++ [z])) = 6 := by
  unfold waE difX
  rw [if_pos ⟨by omega, by omega⟩, if_neg (by rw [ci_length, List.length_append, List.length_singleton]; omega), if_pos ⟨by omega, by omega⟩]
  exact dif_again w [] z hw hn (by simp) (hw z hz) (.inl hz)
end Go.Vit
