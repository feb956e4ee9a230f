/- Walks: made calls a function with all lists of parts. -/
import Derived.Test.YtcaoifacidnhcaaDoorW10
import Derived.Test.YtcaoifacidnhcaaDoorVitAB
set_option linter.unusedSimpArgs false
set_option linter.unusedVariables false
set_option maxRecDepth 20000
namespace Go.Vit
open Go Go.Proofs
attribute [local irreducible] runT loopS
/-- Old blocks are kept, but one. -/
structure GtB (xb : Nat) (m m' : Mem) : Prop where
  next : m.next ≤ m'.next
  kept : ∀ c, c < m.next → c ≠ xb → m'.rd c = m.rd c
theorem GtB.of {xb : Nat} {m m' : Mem} (e : Gt m m') : GtB xb m m' := ⟨e.next, fun c hc _ => e.kept c hc⟩
theorem GtB.trans {xb : Nat} {a b c : Mem} (h : GtB xb a b) (h' : GtB xb b c) : GtB xb a c := ⟨Nat.le_trans h.next h'.next, fun x hx hn => (h'.kept x (Nat.lt_of_lt_of_le hx h.next) hn).trans (h.kept x hx hn)⟩
theorem GtB.put {xb : Nat} {a b : Mem} (h : GtB xb a b) (k : Option Blk) : GtB xb a (b.put xb k) := ⟨h.next, fun x hx hn => (Mem.rd_put _ _ _ _ (Ne.symm hn)).trans (h.kept x hx hn)⟩
theorem GtB.gt {xb : Nat} {a b c : Mem} (e : Gt a b) (h : GtB xb b c) (hx : a.next ≤ xb) : Gt a c := ⟨Nat.le_trans e.next h.next, fun x hx' => (h.kept x (Nat.lt_of_lt_of_le hx' e.next) (by omega)).trans (e.kept x hx')⟩
theorem At.monoB {xb : Nat} {m m' : Mem} {b : Nat} {cs : List Value} (h : At m b cs) (e : GtB xb m m') (hb : b ≠ xb) : At m' b cs := (e.kept b h.lt hb).trans h
theorem GN.monoB {xb L0 : Nat} {m m' : Mem} {v : Value} {l : List Nat} (h : GN L0 m v l) (e : GtB xb m m') (hb : bid v ≠ some xb) : GN L0 m' v l := by
  rcases h with h | ⟨b, h1, h2, h3, h4⟩
  · exact .inl h
  · exact .inr ⟨b, h1, h2, (e.kept b (Mem.rd_lt h3) (fun e => hb (by rw [h2, e]; rfl))).trans h3, h4⟩
theorem sl_ex {b n : Nat} (hn : 0 < n) : sl Tryd.prog 30 (.slice (some ⟨b, 0, none⟩) n n) none (some (.int .i64 (n : Int))) (some (.int .i64 (n : Int))) = some (.slice (some ⟨b, 0, some 0⟩) n n) := by
  unfold sl aslice
  rw [u30]
  simp only [ts3, Option.map_some, Option.map_none]
  have g1 : abound (tri none (some (.int .i64 (n : Int))) (some (.int .i64 (n : Int)))) (some (.tmp 1)) n = some n := by
    show anat (.int .i64 (Int.ofNat n)) = _
    simp only [anat, natK_eq]
  have g2 : abound (tri none (some (.int .i64 (n : Int))) (some (.int .i64 (n : Int)))) (some (.tmp 2)) n = some n := by
    show anat (.int .i64 (Int.ofNat n)) = _
    simp only [anat, natK_eq]
  have g3 : abounds (tri none (some (.int .i64 (n : Int))) (some (.int .i64 (n : Int)))) n n none (some (.tmp 1)) (some (.tmp 2)) = some (0, n, n) := by
    unfold abounds
    simp only [abound_none, g1, g2, ble_t (Nat.le_refl n), ble_t (Nat.zero_le n), Bool.and_self]
  simp only [g3, beq_f (show n ≠ 0 by omega)]
  simp
theorem sl_exn : sl Tryd.prog 30 (.slice none 0 0) none (some (.int .i64 0)) (some (.int .i64 0)) = some (.slice none 0 0) := by kernel_rfl
theorem amax_e (a b : Nat) : abuiltin Tryd.prog .max #[3, 3] [.int .i64 (a : Int), .int .i64 (b : Int)] = some (.int .i64 ((max a b : Nat) : Int)) := by
  show aleast false .i64 (a : Int) [.int .i64 (b : Int)] = _
  simp only [aleast, ilt_e]
  by_cases h : (a : Int) < (b : Int)
  · rw [decide_eq_true h]
    simp only []
    rw [mkI_e, Nat.max_eq_right (by omega)]
  · rw [decide_eq_false h]
    simp only []
    rw [mkI_e, Nat.max_eq_left (by omega)]
/-- A slice that was clipped. -/
def Clp (v u : Value) : Prop := (v = .slice none 0 0 ∧ u = .slice none 0 0) ∨ ∃ b n, v = .slice (some ⟨b, 0, none⟩) n n ∧ u = .slice (some ⟨b, 0, some 0⟩) n n
theorem clip_app {L : Nat} {m : Mem} {v u : Value} {l : List Nat} {x : Nat} (hc : Clp v u) (hv : GN 0 m v l) (hl : l.length < 1000) :
    ∃ w m', aappend Tryd.prog L (m.push ⟨1, [.int .i64 (x : Int)], none⟩) 30 u (slTo 1 m.next) = some (w, m') ∧ GN m.next m' w (l ++ [x]) ∧ Gt m m' := by
  rcases hc with ⟨rfl, rfl⟩ | ⟨b, n, rfl, rfl⟩
  · have h0 : l = [] := by
      rcases hv.isNil with ⟨_, h⟩ | ⟨_, _, _, h, _⟩
      · exact h
      · cases h
    subst h0
    obtain ⟨w, m', h1, h2, h3, _⟩ := GN.snoc (P := Tryd.prog) (t := 30) (L := L) (m0 := m) (L0 := max L m.next) (v := .slice none 0 0) (l := []) x ael30 (by omega) (GN.nil _ _) (by simp) (by omega) (Gt.refl m) (by omega)
    exact ⟨w, m', h1, h2, h3⟩
  · rcases hv with ⟨h, _⟩ | ⟨c, _, h2, h3, h4, h5⟩
    · cases h
    · cases h2
      rw [ci_length] at h4 h5 ⊢
      have gp := Mem.gt_push m ⟨1, [.int .i64 (x : Int)], none⟩
      have h3' := (gp.kept b (Mem.rd_lt h3)).trans h3
      have hx3 : asrc (m.push ⟨1, [.int .i64 (x : Int)], none⟩) 1 (slTo 1 m.next) = some (0 + 1, [.int .i64 (x : Int)]) :=
        (Gs.sl (L := m.next) (n := 1) (.inr ⟨m.next, Nat.le_refl _, rfl, Mem.rd_push _ _, rfl, by omega⟩)).1
      have hr := roomy_of (n := l.length + 1) (y := 8) (by omega) (by omega)
      have hble : Nat.ble (l.length + 1) l.length = false := by
        cases hb : Nat.ble (l.length + 1) l.length with
        | false => rfl
        | true => have := Nat.le_of_ble_eq_true hb; omega
      have h2 : rdc (m.push ⟨1, [.int .i64 (x : Int)], none⟩) b 0 (Nat.mul l.length 1) = some ((ci l).map (Value.int .i64)) := by
        rw [show Nat.mul l.length 1 = l.length from Nat.mul_one _, rdc_e h3' (by rw [h4]; omega), List.drop_zero, List.take_of_length_le (by rw [h4]; omega)]
      refine ⟨slTo (l.length + 1) (m.push ⟨1, [.int .i64 (x : Int)], none⟩).next, (m.push ⟨1, [.int .i64 (x : Int)], none⟩).push ⟨1, (ci l).map (Value.int .i64) ++ [.int .i64 (x : Int)], none⟩, ?_, .inr ⟨_, ?_, ?_, by rw [← show (ci l).map (Value.int .i64) ++ [.int .i64 (x : Int)] = (ci (l ++ [x])).map (Value.int .i64) by simp [ci]]; exact Mem.rd_push _ _, ?_, ?_⟩, gp.trans (Mem.gt_push _ _)⟩
      · unfold aappend
        rw [ael30]
        simp only [hx3, ble_t (Nat.le_refl _), natK_eq, show Nat.add l.length (Nat.succ 0) = l.length + 1 from rfl, hble, hr, h2, anew_eq, Nat.zero_add]
      · rw [Mem.push_next]; omega
      · rw [ci_length, List.length_append]; rfl
      · simp [ci]
      · rw [ci_length]; simp
theorem clp_bid {v u : Value} (h : Clp v u) : bid u = bid v := by
  rcases h with ⟨rfl, rfl⟩ | ⟨b, n, rfl, rfl⟩ <;> rfl
section
variable {lf L : Nat}
theorem clip_sp {n : Nat} {m : Mem} {L' : Nat} {k : Value → Mem → Option Unit} {v : Value} {l : List Nat} (hv : GN 0 m v l) (hk : ∀ u, Clp v u → k u m = some ()) : runT (tab lf) (n + 1) 76 [v] L' m k = some () := by
  rw [r76]; dsimp only [S76, iofNat, inegSucc]
  rcases hv with ⟨rfl, _, _⟩ | ⟨b, _, rfl, _, _, h5⟩
  · try simp (disch := first | omega | with_unfolding_all exact id rfl | with_unfolding_all exact Nat.le_of_ble_eq_true rfl | (simp only [Mem.push_next, Mem.put_next, List.length_cons, List.length_nil, Nat.zero_add, Nat.reduceAdd, allOne, oneCell, Bool.and_self, Bool.and_true]; first | done | omega)) only [ln_e, sl_exn, ↓uc_e, ↓un0_e, ↓join_e, oOpt_e, oRes_e, oIf_t, oIf_f, oGT_t, oGT_f, oGT_u, oGF_t, oGF_f, oGF_u, oPick_t, oPick_f, oInt_eql, oInt_neq, oInt_lss, oInt_leq, oInt_gtr, oInt_geq, aun_not, aextract_e, fa_e, abox_e, ptrTo, oCallV_e, decide_true, decide_false, Bool.not_true, Bool.not_false, List.getElem?_cons_zero, List.getElem?_cons_succ, List.cons_append, List.nil_append, cells_agg, cells_int, cells_slice, cells_bool, cells_ptr, ld1_u, ldN_u, st1_u, rdo_e, rdn_e, stw_e, anew_eq, Mem.push_next, Mem.put_next, Mem.rd_push, Mem.rd_push_eq, Mem.rd_push_lt, Mem.rd_put_eq, Mem.rd_put, List.take_zero, List.drop_zero, List.take_succ_cons, List.drop_succ_cons, List.drop_nil, List.take_nil, List.append_nil, List.length_cons, List.length_nil, Nat.zero_add, Nat.reduceAdd]
    exact hk _ (.inl ⟨rfl, rfl⟩)
  · try simp (disch := first | omega | with_unfolding_all exact id rfl | with_unfolding_all exact Nat.le_of_ble_eq_true rfl | (simp only [Mem.push_next, Mem.put_next, List.length_cons, List.length_nil, Nat.zero_add, Nat.reduceAdd, allOne, oneCell, Bool.and_self, Bool.and_true]; first | done | omega)) only [ln_e, sl_ex h5, ↓uc_e, ↓un0_e, ↓join_e, oOpt_e, oRes_e, oIf_t, oIf_f, oGT_t, oGT_f, oGT_u, oGF_t, oGF_f, oGF_u, oPick_t, oPick_f, oInt_eql, oInt_neq, oInt_lss, oInt_leq, oInt_gtr, oInt_geq, aun_not, aextract_e, fa_e, abox_e, ptrTo, oCallV_e, decide_true, decide_false, Bool.not_true, Bool.not_false, List.getElem?_cons_zero, List.getElem?_cons_succ, List.cons_append, List.nil_append, cells_agg, cells_int, cells_slice, cells_bool, cells_ptr, ld1_u, ldN_u, st1_u, rdo_e, rdn_e, stw_e, anew_eq, Mem.push_next, Mem.put_next, Mem.rd_push, Mem.rd_push_eq, Mem.rd_push_lt, Mem.rd_put_eq, Mem.rd_put, List.take_zero, List.drop_zero, List.take_succ_cons, List.drop_succ_cons, List.drop_nil, List.take_nil, List.append_nil, List.length_cons, List.length_nil, Nat.zero_add, Nat.reduceAdd]
    exact hk _ (.inr ⟨b, _, rfl, rfl⟩)
/-- From where on the next part may be. -/
def frN (l : List Nat) : Nat := if l = [] then 2 else l.getD (l.length - 1) 0 + 1
theorem frN_snoc (l : List Nat) (p : Nat) : frN (l ++ [p]) = p + 1 := by
  unfold frN
  rw [if_neg (by simp)]
  simp [List.getD]
/-- What a call with one list does: a list more was seen, and it goes on (c) or not. -/
def Yields (lf L g xb : Nat) (c : Bool) (J : List (List Nat) → Mem → Prop) : Prop :=
  ∀ {n : Nat} {m : Mem} {k : Value → Mem → Option Unit} {u : Value} {w : List Nat} {seen : List (List Nat)}, L ≤ xb → seen.length < 1000000000 → J seen m → GN 0 m u w → bid u ≠ some xb →
    (∀ m', GtB xb m m' → J (seen ++ [w]) m' → k (.bool c) m' = some ()) → runT (tab lf) (n + 1) g [u, .pointer (some ⟨xb, 0, none⟩)] L m k = some ()
theorem fr_join {m : Mem} {v : Value} {parts : List Nat} {jb : List Value → Mem → Option Unit} (hv : GN 0 m v parts) (hpl : parts.length ≤ 5) (hp2 : ∀ p ∈ parts, p ≤ 2000) (h : jb [.int .i64 (frN parts : Int)] m = some ()) :
    join jb (fun j14 => oIf (.bool (decide ((0 : Int) < (parts.length : Int)))) (oInt .sub .i64 (.int .i64 (parts.length : Int)) (.int .i64 1) fun t103 =>
      oOpt (ia 1 v t103) fun t104 =>
      oOpt (ld1 m t104) fun t105 =>
      oInt .add .i64 t105 (.int .i64 1) fun t106 =>
      j14 [t106] m) (j14 [.int .i64 2] m)) = some () := by
  rw [join_e]
  refine oIf_dec (fun h1 => ?_) (fun h1 => ?_)
  · have hpos : parts.length - 1 < parts.length := by omega
    have hr := hp2 _ (List.getElem_mem hpos)
    rw [oInt_sub ⟨by omega, by omega⟩, show (parts.length : Int) - 1 = ((parts.length - 1 : Nat) : Int) by omega, hv.inn.ia hpos, oOpt_e, hv.inn.ld hpos, oOpt_e, oInt_add ⟨by omega, by omega⟩]
    have hf : frN parts = parts[parts.length - 1] + 1 := by
      unfold frN
      rw [if_neg (fun e => by rw [e] at hpos; simp at hpos)]
      simp [List.getD, List.getElem?_eq_getElem hpos]
    rw [hf] at h
    exact h
  · have : parts = [] := List.length_eq_zero_iff.1 (by omega)
    subst this
    exact h
theorem made_sp {g xb : Nat} {c : Bool} {J : List (List Nat) → Mem → Prop} (hlf : 1000000 ≤ lf) (hLx : L ≤ xb) (hJ : ∀ seen m m', J seen m → Gt m m' → J seen m') (hy : Yields lf L g xb c J) :
    ∀ (n : Nat) {a b : Nat} {N : Nat} {m : Mem} {k : Value → Mem → Option Unit} {v : Value} {parts : List Nat} {seen : List (List Nat)}, n ≤ 2 → 0 < a → a ≤ b → b * 2001 ^ n ≤ 200000000 → parts.length + n ≤ 5 → (∀ p ∈ parts, p ≤ 2000) →
      GN 0 m v parts → bid v ≠ some xb → xb < m.next → J seen m → seen.length + (ways n a b (frN parts)).length ≤ 1000000000 →
      (∀ m', GtB xb m m' → J (seen ++ takenW c ((ways n a b (frN parts)).map (parts ++ ·))) m' → k (.bool (c || (ways n a b (frN parts)).isEmpty)) m' = some ()) →
      runT (tab lf) (N + n + 3) 61 [.agg ⟨[.int .i64 (a : Int), .int .i64 (b : Int)]⟩, v, .int .i64 ((n + 1 : Nat) : Int), .func (.func g) #[] ⟨[.pointer (some ⟨xb, 0, none⟩)]⟩] L m k = some () := by
  intro n
  induction n with
  | zero =>
    intro a b N m k v parts seen hn ha hab hb hpl hp2 hv hvb hxb hj hsl hk
    rw [r61]; dsimp only [S61, iofNat, inegSucc]
    have g1 := Mem.gt_push m ⟨1, [.int .i64 (a : Int), .int .i64 (b : Int)], none⟩
    have hA : At (m.push ⟨1, [.int .i64 (a : Int), .int .i64 (b : Int)], none⟩) m.next [.int .i64 (a : Int), .int .i64 (b : Int)] := At.push m _
    rw [uc_e, uc_e, uc_e, uc_e, un0_e, abox_e, oRes_e, cells_agg]
    generalize m.push ⟨1, [.int .i64 (a : Int), .int .i64 (b : Int)], none⟩ = m1 at g1 hA ⊢
    unfold ptrTo
    have g1n := g1.next
    have hv1 := hv.mono g1
    have hj1 := hJ _ _ _ hj g1
    rw [hv1.ln, oOpt_e, oInt_gtr]
    refine fr_join hv1 (by omega) hp2 ?_
    have hb' : b ≤ 200000000 := by simpa using hb
    have q1 : ∀ K : Value → Option Unit, oInt .rem .i64 (.int .i64 (b : Int)) (.int .i64 (a : Int)) K = K (.int .i64 ((b % a : Nat) : Int)) := fun K => oInt_remN ha K
    have q2 : ∀ K : Value → Option Unit, oInt .quo .i64 (.int .i64 (b : Int)) (.int .i64 (a : Int)) K = K (.int .i64 ((b / a : Nat) : Int)) := fun K => oInt_quoN ha (by omega) K
    have hd1 : decide (((0 + 1 : Nat) : Int) = 1) = true := by decide
    have hnone : ways 0 a b (frN parts) = [] → k (.bool true) m1 = some () := fun h0 => by
      have := hk m1 (GtB.of g1)
      rw [h0] at this
      simp only [List.map_nil, List.isEmpty_nil, Bool.or_true] at this
      refine this ?_
      have : takenW c ([] : List (List Nat)) = [] := by cases c <;> rfl
      rw [this, List.append_nil]
      exact hj1
    by_cases c1 : b % a = 0
    · have d1 : decide (((b % a : Nat) : Int) = 0) = true := decide_eq_true (by omega)
      try simp (disch := first | omega | with_unfolding_all exact id rfl | with_unfolding_all exact Nat.le_of_ble_eq_true rfl | (simp only [Mem.push_next, Mem.put_next, List.length_cons, List.length_nil, Nat.zero_add, Nat.reduceAdd, allOne, oneCell, Bool.and_self, Bool.and_true]; first | done | omega)) only [hA.rd, q1, q2, d1, hd1, ↓uc_e, ↓un0_e, oOpt_e, oRes_e, oIf_t, oIf_f, oGT_t, oGT_f, oGT_u, oGF_t, oGF_f, oGF_u, oPick_t, oPick_f, oInt_eql, oInt_neq, oInt_lss, oInt_leq, oInt_gtr, oInt_geq, aun_not, aextract_e, fa_e, abox_e, ptrTo, oCallV_e, decide_true, decide_false, Bool.not_true, Bool.not_false, List.getElem?_cons_zero, List.getElem?_cons_succ, List.cons_append, List.nil_append, cells_agg, cells_int, cells_slice, cells_bool, cells_ptr, ld1_u, ldN_u, st1_u, rdo_e, rdn_e, stw_e, anew_eq, Mem.push_next, Mem.put_next, Mem.rd_push, Mem.rd_push_eq, Mem.rd_push_lt, Mem.rd_put_eq, Mem.rd_put, List.take_zero, List.drop_zero, List.take_succ_cons, List.drop_succ_cons, List.drop_nil, List.take_nil, List.append_nil, List.length_cons, List.length_nil, Nat.zero_add, Nat.reduceAdd]
      repeat (rw [join_e]; try simp (disch := first | omega | with_unfolding_all exact id rfl | with_unfolding_all exact Nat.le_of_ble_eq_true rfl | (simp only [Mem.push_next, Mem.put_next, List.length_cons, List.length_nil, Nat.zero_add, Nat.reduceAdd, allOne, oneCell, Bool.and_self, Bool.and_true]; first | done | omega)) only [hA.rd, q1, q2, d1, hd1, ↓uc_e, ↓un0_e, oOpt_e, oRes_e, oIf_t, oIf_f, oGT_t, oGT_f, oGT_u, oGF_t, oGF_f, oGF_u, oPick_t, oPick_f, oInt_eql, oInt_neq, oInt_lss, oInt_leq, oInt_gtr, oInt_geq, aun_not, aextract_e, fa_e, abox_e, ptrTo, oCallV_e, decide_true, decide_false, Bool.not_true, Bool.not_false, List.getElem?_cons_zero, List.getElem?_cons_succ, List.cons_append, List.nil_append, cells_agg, cells_int, cells_slice, cells_bool, cells_ptr, ld1_u, ldN_u, st1_u, rdo_e, rdn_e, stw_e, anew_eq, Mem.push_next, Mem.put_next, Mem.rd_push, Mem.rd_push_eq, Mem.rd_push_lt, Mem.rd_put_eq, Mem.rd_put, List.take_zero, List.drop_zero, List.take_succ_cons, List.drop_succ_cons, List.drop_nil, List.take_nil, List.append_nil, List.length_cons, List.length_nil, Nat.zero_add, Nat.reduceAdd])
      refine within_sp ?_
      by_cases c2 : frN parts ≤ b / a ∧ b / a ≤ 2000
      · rw [decide_eq_true ⟨by omega, by omega⟩]
        try simp (disch := first | omega | with_unfolding_all exact id rfl | with_unfolding_all exact Nat.le_of_ble_eq_true rfl | (simp only [Mem.push_next, Mem.put_next, List.length_cons, List.length_nil, Nat.zero_add, Nat.reduceAdd, allOne, oneCell, Bool.and_self, Bool.and_true]; first | done | omega)) only [↓uc_e, ↓un0_e, oOpt_e, oRes_e, oIf_t, oIf_f, oGT_t, oGT_f, oGT_u, oGF_t, oGF_f, oGF_u, oPick_t, oPick_f, oInt_eql, oInt_neq, oInt_lss, oInt_leq, oInt_gtr, oInt_geq, aun_not, aextract_e, fa_e, abox_e, ptrTo, oCallV_e, decide_true, decide_false, Bool.not_true, Bool.not_false, List.getElem?_cons_zero, List.getElem?_cons_succ, List.cons_append, List.nil_append, cells_agg, cells_int, cells_slice, cells_bool, cells_ptr, ld1_u, ldN_u, st1_u, rdo_e, rdn_e, stw_e, anew_eq, Mem.push_next, Mem.put_next, Mem.rd_push, Mem.rd_push_eq, Mem.rd_push_lt, Mem.rd_put_eq, Mem.rd_put, List.take_zero, List.drop_zero, List.take_succ_cons, List.drop_succ_cons, List.drop_nil, List.take_nil, List.append_nil, List.length_cons, List.length_nil, Nat.zero_add, Nat.reduceAdd]
        repeat (rw [join_e]; try simp (disch := first | omega | with_unfolding_all exact id rfl | with_unfolding_all exact Nat.le_of_ble_eq_true rfl | (simp only [Mem.push_next, Mem.put_next, List.length_cons, List.length_nil, Nat.zero_add, Nat.reduceAdd, allOne, oneCell, Bool.and_self, Bool.and_true]; first | done | omega)) only [↓uc_e, ↓un0_e, oOpt_e, oRes_e, oIf_t, oIf_f, oGT_t, oGT_f, oGT_u, oGF_t, oGF_f, oGF_u, oPick_t, oPick_f, oInt_eql, oInt_neq, oInt_lss, oInt_leq, oInt_gtr, oInt_geq, aun_not, aextract_e, fa_e, abox_e, ptrTo, oCallV_e, decide_true, decide_false, Bool.not_true, Bool.not_false, List.getElem?_cons_zero, List.getElem?_cons_succ, List.cons_append, List.nil_append, cells_agg, cells_int, cells_slice, cells_bool, cells_ptr, ld1_u, ldN_u, st1_u, rdo_e, rdn_e, stw_e, anew_eq, Mem.push_next, Mem.put_next, Mem.rd_push, Mem.rd_push_eq, Mem.rd_push_lt, Mem.rd_put_eq, Mem.rd_put, List.take_zero, List.drop_zero, List.take_succ_cons, List.drop_succ_cons, List.drop_nil, List.take_nil, List.append_nil, List.length_cons, List.length_nil, Nat.zero_add, Nat.reduceAdd])
        refine clip_sp hv1 fun u hu => ?_
        obtain ⟨w, m3, h1, h2, h3⟩ := clip_app (L := L) (x := b / a) hu hv1 (by omega)
        have hb30 := bs30 m1 ((b / a : Nat) : Int)
        try simp (disch := first | omega | with_unfolding_all exact id rfl | with_unfolding_all exact Nat.le_of_ble_eq_true rfl | (simp only [Mem.push_next, Mem.put_next, List.length_cons, List.length_nil, Nat.zero_add, Nat.reduceAdd, allOne, oneCell, Bool.and_self, Bool.and_true]; first | done | omega)) only [hA.rd, q2, hb30, h1, ↓uc_e, ↓un0_e, oOpt_e, oRes_e, oIf_t, oIf_f, oGT_t, oGT_f, oGT_u, oGF_t, oGF_f, oGF_u, oPick_t, oPick_f, oInt_eql, oInt_neq, oInt_lss, oInt_leq, oInt_gtr, oInt_geq, aun_not, aextract_e, fa_e, abox_e, ptrTo, oCallV_e, decide_true, decide_false, Bool.not_true, Bool.not_false, List.getElem?_cons_zero, List.getElem?_cons_succ, List.cons_append, List.nil_append, cells_agg, cells_int, cells_slice, cells_bool, cells_ptr, ld1_u, ldN_u, st1_u, rdo_e, rdn_e, stw_e, anew_eq, Mem.push_next, Mem.put_next, Mem.rd_push, Mem.rd_push_eq, Mem.rd_push_lt, Mem.rd_put_eq, Mem.rd_put, List.take_zero, List.drop_zero, List.take_succ_cons, List.drop_succ_cons, List.drop_nil, List.take_nil, List.append_nil, List.length_cons, List.length_nil, Nat.zero_add, Nat.reduceAdd]
        have hw0 : ways 0 a b (frN parts) = [[b / a]] := if_pos ⟨c1, c2⟩
        rw [hw0] at hk hsl
        refine hy hLx (by simp only [List.length_cons, List.length_nil] at hsl; omega) (hJ _ _ _ hj1 h3) (h2.le (Nat.zero_le _)) (fun e => by have := h2.fr xb e; omega) fun m4 e4 hj4 => ?_
        have := hk m4 ((GtB.of (g1.trans h3)).trans e4)
        simp only [List.map_cons, List.map_nil, List.isEmpty_cons, Bool.or_false] at this
        refine this ?_
        have h9 : takenW c [parts ++ [b / a]] = [parts ++ [b / a]] := by cases c <;> rfl
        rw [h9]
        exact hj4
      · rw [decide_eq_false (by omega)]
        try simp (disch := first | omega | with_unfolding_all exact id rfl | with_unfolding_all exact Nat.le_of_ble_eq_true rfl | (simp only [Mem.push_next, Mem.put_next, List.length_cons, List.length_nil, Nat.zero_add, Nat.reduceAdd, allOne, oneCell, Bool.and_self, Bool.and_true]; first | done | omega)) only [↓uc_e, ↓un0_e, oOpt_e, oRes_e, oIf_t, oIf_f, oGT_t, oGT_f, oGT_u, oGF_t, oGF_f, oGF_u, oPick_t, oPick_f, oInt_eql, oInt_neq, oInt_lss, oInt_leq, oInt_gtr, oInt_geq, aun_not, aextract_e, fa_e, abox_e, ptrTo, oCallV_e, decide_true, decide_false, Bool.not_true, Bool.not_false, List.getElem?_cons_zero, List.getElem?_cons_succ, List.cons_append, List.nil_append, cells_agg, cells_int, cells_slice, cells_bool, cells_ptr, ld1_u, ldN_u, st1_u, rdo_e, rdn_e, stw_e, anew_eq, Mem.push_next, Mem.put_next, Mem.rd_push, Mem.rd_push_eq, Mem.rd_push_lt, Mem.rd_put_eq, Mem.rd_put, List.take_zero, List.drop_zero, List.take_succ_cons, List.drop_succ_cons, List.drop_nil, List.take_nil, List.append_nil, List.length_cons, List.length_nil, Nat.zero_add, Nat.reduceAdd]
        repeat (rw [join_e]; try simp (disch := first | omega | with_unfolding_all exact id rfl | with_unfolding_all exact Nat.le_of_ble_eq_true rfl | (simp only [Mem.push_next, Mem.put_next, List.length_cons, List.length_nil, Nat.zero_add, Nat.reduceAdd, allOne, oneCell, Bool.and_self, Bool.and_true]; first | done | omega)) only [↓uc_e, ↓un0_e, oOpt_e, oRes_e, oIf_t, oIf_f, oGT_t, oGT_f, oGT_u, oGF_t, oGF_f, oGF_u, oPick_t, oPick_f, oInt_eql, oInt_neq, oInt_lss, oInt_leq, oInt_gtr, oInt_geq, aun_not, aextract_e, fa_e, abox_e, ptrTo, oCallV_e, decide_true, decide_false, Bool.not_true, Bool.not_false, List.getElem?_cons_zero, List.getElem?_cons_succ, List.cons_append, List.nil_append, cells_agg, cells_int, cells_slice, cells_bool, cells_ptr, ld1_u, ldN_u, st1_u, rdo_e, rdn_e, stw_e, anew_eq, Mem.push_next, Mem.put_next, Mem.rd_push, Mem.rd_push_eq, Mem.rd_push_lt, Mem.rd_put_eq, Mem.rd_put, List.take_zero, List.drop_zero, List.take_succ_cons, List.drop_succ_cons, List.drop_nil, List.take_nil, List.append_nil, List.length_cons, List.length_nil, Nat.zero_add, Nat.reduceAdd])
        exact hnone (if_neg fun h => c2 h.2)
    · have d1 : decide (((b % a : Nat) : Int) = 0) = false := decide_eq_false (by omega)
      try simp (disch := first | omega | with_unfolding_all exact id rfl | with_unfolding_all exact Nat.le_of_ble_eq_true rfl | (simp only [Mem.push_next, Mem.put_next, List.length_cons, List.length_nil, Nat.zero_add, Nat.reduceAdd, allOne, oneCell, Bool.and_self, Bool.and_true]; first | done | omega)) only [hA.rd, q1, q2, d1, hd1, ↓uc_e, ↓un0_e, oOpt_e, oRes_e, oIf_t, oIf_f, oGT_t, oGT_f, oGT_u, oGF_t, oGF_f, oGF_u, oPick_t, oPick_f, oInt_eql, oInt_neq, oInt_lss, oInt_leq, oInt_gtr, oInt_geq, aun_not, aextract_e, fa_e, abox_e, ptrTo, oCallV_e, decide_true, decide_false, Bool.not_true, Bool.not_false, List.getElem?_cons_zero, List.getElem?_cons_succ, List.cons_append, List.nil_append, cells_agg, cells_int, cells_slice, cells_bool, cells_ptr, ld1_u, ldN_u, st1_u, rdo_e, rdn_e, stw_e, anew_eq, Mem.push_next, Mem.put_next, Mem.rd_push, Mem.rd_push_eq, Mem.rd_push_lt, Mem.rd_put_eq, Mem.rd_put, List.take_zero, List.drop_zero, List.take_succ_cons, List.drop_succ_cons, List.drop_nil, List.take_nil, List.append_nil, List.length_cons, List.length_nil, Nat.zero_add, Nat.reduceAdd]
      repeat (rw [join_e]; try simp (disch := first | omega | with_unfolding_all exact id rfl | with_unfolding_all exact Nat.le_of_ble_eq_true rfl | (simp only [Mem.push_next, Mem.put_next, List.length_cons, List.length_nil, Nat.zero_add, Nat.reduceAdd, allOne, oneCell, Bool.and_self, Bool.and_true]; first | done | omega)) only [hA.rd, q1, q2, d1, hd1, ↓uc_e, ↓un0_e, oOpt_e, oRes_e, oIf_t, oIf_f, oGT_t, oGT_f, oGT_u, oGF_t, oGF_f, oGF_u, oPick_t, oPick_f, oInt_eql, oInt_neq, oInt_lss, oInt_leq, oInt_gtr, oInt_geq, aun_not, aextract_e, fa_e, abox_e, ptrTo, oCallV_e, decide_true, decide_false, Bool.not_true, Bool.not_false, List.getElem?_cons_zero, List.getElem?_cons_succ, List.cons_append, List.nil_append, cells_agg, cells_int, cells_slice, cells_bool, cells_ptr, ld1_u, ldN_u, st1_u, rdo_e, rdn_e, stw_e, anew_eq, Mem.push_next, Mem.put_next, Mem.rd_push, Mem.rd_push_eq, Mem.rd_push_lt, Mem.rd_put_eq, Mem.rd_put, List.take_zero, List.drop_zero, List.take_succ_cons, List.drop_succ_cons, List.drop_nil, List.take_nil, List.append_nil, List.length_cons, List.length_nil, Nat.zero_add, Nat.reduceAdd])
      exact hnone (if_neg fun h => c1 h.1)
  | succ n ih =>
    intro a b N m k v parts seen hn ha hab hb hpl hp2 hv hvb hxb hj hsl hk
    rw [show N + (n + 1) + 3 = (N + n + 3) + 1 by omega, r61]; dsimp only [S61, iofNat, inegSucc]
    have g1 := Mem.gt_push m ⟨1, [.int .i64 (a : Int), .int .i64 (b : Int)], none⟩
    have hA : At (m.push ⟨1, [.int .i64 (a : Int), .int .i64 (b : Int)], none⟩) m.next [.int .i64 (a : Int), .int .i64 (b : Int)] := At.push m _
    rw [uc_e, uc_e, uc_e, uc_e, un0_e, abox_e, oRes_e, cells_agg]
    generalize m.push ⟨1, [.int .i64 (a : Int), .int .i64 (b : Int)], none⟩ = m1 at g1 hA ⊢
    unfold ptrTo
    have g1n := g1.next
    have hv1 := hv.mono g1
    have hj1 := hJ _ _ _ hj g1
    rw [hv1.ln, oOpt_e, oInt_gtr]
    refine fr_join hv1 (by omega) hp2 ?_
    have hb' : b ≤ 100000 := by
      have h1 : b * 2001 ≤ b * 2001 ^ (n + 1) := Nat.mul_le_mul_left _ (by rw [Nat.pow_succ]; have := Nat.pow_pos (n := n) (show 0 < 2001 by omega); omega)
      omega
    have q2 : ∀ K : Value → Option Unit, oInt .quo .i64 (.int .i64 (b : Int)) (.int .i64 (a : Int)) K = K (.int .i64 ((b / a : Nat) : Int)) := fun K => oInt_quoN ha (by omega) K
    have hq : b / a ≤ b := Nat.div_le_self _ _
    have hws := ways_succ n a b (frN parts)
    have hdl : ∀ p, b / a + 1 ≤ p → b < p * a := fun p h => (Nat.div_lt_iff_lt_mul ha).1 h
    generalize b / a = Q at hq hdl hws q2
    have q3 : ∀ K : Value → Option Unit, oInt .add .i64 (.int .i64 (Q : Int)) (.int .i64 1) K = K (.int .i64 ((Q + 1 : Nat) : Int)) := fun K => by rw [oInt_add ⟨by omega, by omega⟩]; rfl
    have hd1 : decide (((n + 1 + 1 : Nat) : Int) = 1) = false := decide_eq_false (by omega)
    have hmx := amax_e (frN parts) (Q + 1)
    try simp (disch := first | omega | with_unfolding_all exact id rfl | with_unfolding_all exact Nat.le_of_ble_eq_true rfl | (simp only [Mem.push_next, Mem.put_next, List.length_cons, List.length_nil, Nat.zero_add, Nat.reduceAdd, allOne, oneCell, Bool.and_self, Bool.and_true]; first | done | omega)) only [hA.rd, q2, q3, hd1, hmx, ↓uc_e, ↓un0_e, oOpt_e, oRes_e, oIf_t, oIf_f, oGT_t, oGT_f, oGT_u, oGF_t, oGF_f, oGF_u, oPick_t, oPick_f, oInt_eql, oInt_neq, oInt_lss, oInt_leq, oInt_gtr, oInt_geq, aun_not, aextract_e, fa_e, abox_e, ptrTo, oCallV_e, decide_true, decide_false, Bool.not_true, Bool.not_false, List.getElem?_cons_zero, List.getElem?_cons_succ, List.cons_append, List.nil_append, cells_agg, cells_int, cells_slice, cells_bool, cells_ptr, ld1_u, ldN_u, st1_u, rdo_e, rdn_e, stw_e, anew_eq, Mem.push_next, Mem.put_next, Mem.rd_push, Mem.rd_push_eq, Mem.rd_push_lt, Mem.rd_put_eq, Mem.rd_put, List.take_zero, List.drop_zero, List.take_succ_cons, List.drop_succ_cons, List.drop_nil, List.take_nil, List.append_nil, List.length_cons, List.length_nil, Nat.zero_add, Nat.reduceAdd]
    repeat (rw [join_e]; try simp (disch := first | omega | with_unfolding_all exact id rfl | with_unfolding_all exact Nat.le_of_ble_eq_true rfl | (simp only [Mem.push_next, Mem.put_next, List.length_cons, List.length_nil, Nat.zero_add, Nat.reduceAdd, allOne, oneCell, Bool.and_self, Bool.and_true]; first | done | omega)) only [hA.rd, q2, q3, hd1, hmx, ↓uc_e, ↓un0_e, oOpt_e, oRes_e, oIf_t, oIf_f, oGT_t, oGT_f, oGT_u, oGF_t, oGF_f, oGF_u, oPick_t, oPick_f, oInt_eql, oInt_neq, oInt_lss, oInt_leq, oInt_gtr, oInt_geq, aun_not, aextract_e, fa_e, abox_e, ptrTo, oCallV_e, decide_true, decide_false, Bool.not_true, Bool.not_false, List.getElem?_cons_zero, List.getElem?_cons_succ, List.cons_append, List.nil_append, cells_agg, cells_int, cells_slice, cells_bool, cells_ptr, ld1_u, ldN_u, st1_u, rdo_e, rdn_e, stw_e, anew_eq, Mem.push_next, Mem.put_next, Mem.rd_push, Mem.rd_push_eq, Mem.rd_push_lt, Mem.rd_put_eq, Mem.rd_put, List.take_zero, List.drop_zero, List.take_succ_cons, List.drop_succ_cons, List.drop_nil, List.take_nil, List.append_nil, List.length_cons, List.length_nil, Nat.zero_add, Nat.reduceAdd])
    have hge : Q + 1 ≤ max (frN parts) (Q + 1) := Nat.le_max_right _ _
    generalize ways (n + 1) a b (frN parts) = W at hk hws hsl
    generalize max (frN parts) (Q + 1) = p0 at hws hge ⊢
    refine loop_of (fun q vs m' => ∃ (p : Nat) (X : List (List Nat)), vs = [.int .i64 (p : Int)] ∧ q = 2001 - p ∧ Q + 1 ≤ p ∧ GtB xb m m' ∧ At m' m.next [.int .i64 (a : Int), .int .i64 (b : Int)] ∧ GN 0 m' v parts ∧ J (seen ++ X.map (parts ++ ·)) m' ∧ (c = false → X = []) ∧ W = X ++ tlW n a b p)
      ?_ (n := 2001 - p0) ⟨p0, [], rfl, rfl, hge, GtB.of g1, hA, hv1, by simpa using hj1, fun _ => rfl, hws⟩ (by omega)
    rintro q vs m2 ⟨p, X, rfl, rfl, hp1, e2, hA2, hv2, hj2, hX, hW⟩ self hself
    have e2n := e2.next
    have hlt := hA2.lt
    have hstop : ¬ (p ≤ 2000 ∧ p * a < (n + 2) * b) → k (.bool true) m2 = some () := fun hs => by
      rw [tlW_stop hs, List.append_nil] at hW
      subst hW
      have := hk m2 e2
      cases c with
      | true => exact this hj2
      | false =>
        have := hX rfl
        subst this
        exact hk m2 e2 hj2
    rw [uc_e, oInt_leq]
    by_cases h1 : p ≤ 2000
    · have d1 : decide ((p : Int) ≤ 2000) = true := decide_eq_true (by omega)
      have hpa : p * a ≤ 2000 * 100000 := Nat.mul_le_mul h1 (by omega)
      have hpb : b * p ≤ 100000 * 2000 := Nat.mul_le_mul hb' h1
      have hnb : (n + 1 + 1) * b ≤ 4 * 100000 := Nat.mul_le_mul (by omega) hb'
      have hltp : b < p * a := hdl p hp1
      have hnn : (n + 1 + 1) * b = (n + 2) * b := rfl
      have hcm : a * p = p * a := Nat.mul_comm _ _
      have q4 : ∀ K : Value → Option Unit, oInt .mul .i64 (.int .i64 (p : Int)) (.int .i64 (a : Int)) K = K (.int .i64 ((p * a : Nat) : Int)) := fun K => oInt_mulN (by omega) K
      have q5 : ∀ K : Value → Option Unit, oInt .mul .i64 (.int .i64 ((n + 1 + 1 : Nat) : Int)) (.int .i64 (b : Int)) K = K (.int .i64 (((n + 1 + 1) * b : Nat) : Int)) := fun K => oInt_mulN (by omega) K
      by_cases h2 : p * a < (n + 2) * b
      · have d2 : decide (((p * a : Nat) : Int) < (((n + 1 + 1) * b : Nat) : Int)) = true := decide_eq_true (by omega)
        have q6 : ∀ K : Value → Option Unit, oInt .mul .i64 (.int .i64 (a : Int)) (.int .i64 (p : Int)) K = K (.int .i64 ((a * p : Nat) : Int)) := fun K => oInt_mulN (by omega) K
        have q7 : ∀ K : Value → Option Unit, oInt .sub .i64 (.int .i64 ((a * p : Nat) : Int)) (.int .i64 (b : Int)) K = K (.int .i64 ((a * p - b : Nat) : Int)) := fun K => by rw [oInt_sub ⟨by omega, by omega⟩, show ((a * p : Nat) : Int) - (b : Int) = ((a * p - b : Nat) : Int) by omega]
        have q8 : ∀ K : Value → Option Unit, oInt .mul .i64 (.int .i64 (b : Int)) (.int .i64 (p : Int)) K = K (.int .i64 ((b * p : Nat) : Int)) := fun K => oInt_mulN (by omega) K
        have q9 : ∀ K : Value → Option Unit, oInt .sub .i64 (.int .i64 ((n + 1 + 1 : Nat) : Int)) (.int .i64 1) K = K (.int .i64 ((n + 1 : Nat) : Int)) := fun K => by rw [oInt_sub ⟨by omega, by omega⟩, show ((n + 1 + 1 : Nat) : Int) - 1 = ((n + 1 : Nat) : Int) by omega]
        try simp (disch := first | omega | with_unfolding_all exact id rfl | with_unfolding_all exact Nat.le_of_ble_eq_true rfl | (simp only [Mem.push_next, Mem.put_next, List.length_cons, List.length_nil, Nat.zero_add, Nat.reduceAdd, allOne, oneCell, Bool.and_self, Bool.and_true]; first | done | omega)) only [hA2.rd, q4, q5, q6, q7, q8, d1, d2, bu23, ↓uc_e, ↓un0_e, oOpt_e, oRes_e, oIf_t, oIf_f, oGT_t, oGT_f, oGT_u, oGF_t, oGF_f, oGF_u, oPick_t, oPick_f, oInt_eql, oInt_neq, oInt_lss, oInt_leq, oInt_gtr, oInt_geq, aun_not, aextract_e, fa_e, abox_e, ptrTo, oCallV_e, decide_true, decide_false, Bool.not_true, Bool.not_false, List.getElem?_cons_zero, List.getElem?_cons_succ, List.cons_append, List.nil_append, cells_agg, cells_int, cells_slice, cells_bool, cells_ptr, ld1_u, ldN_u, st1_u, rdo_e, rdn_e, stw_e, anew_eq, Mem.push_next, Mem.put_next, Mem.rd_push, Mem.rd_push_eq, Mem.rd_push_lt, Mem.rd_put_eq, Mem.rd_put, List.take_zero, List.drop_zero, List.take_succ_cons, List.drop_succ_cons, List.drop_nil, List.take_nil, List.append_nil, List.length_cons, List.length_nil, Nat.zero_add, Nat.reduceAdd]
        repeat (rw [join_e]; try simp (disch := first | omega | with_unfolding_all exact id rfl | with_unfolding_all exact Nat.le_of_ble_eq_true rfl | (simp only [Mem.push_next, Mem.put_next, List.length_cons, List.length_nil, Nat.zero_add, Nat.reduceAdd, allOne, oneCell, Bool.and_self, Bool.and_true]; first | done | omega)) only [hA2.rd, q4, q5, q6, q7, q8, d1, d2, bu23, ↓uc_e, ↓un0_e, oOpt_e, oRes_e, oIf_t, oIf_f, oGT_t, oGT_f, oGT_u, oGF_t, oGF_f, oGF_u, oPick_t, oPick_f, oInt_eql, oInt_neq, oInt_lss, oInt_leq, oInt_gtr, oInt_geq, aun_not, aextract_e, fa_e, abox_e, ptrTo, oCallV_e, decide_true, decide_false, Bool.not_true, Bool.not_false, List.getElem?_cons_zero, List.getElem?_cons_succ, List.cons_append, List.nil_append, cells_agg, cells_int, cells_slice, cells_bool, cells_ptr, ld1_u, ldN_u, st1_u, rdo_e, rdn_e, stw_e, anew_eq, Mem.push_next, Mem.put_next, Mem.rd_push, Mem.rd_push_eq, Mem.rd_push_lt, Mem.rd_put_eq, Mem.rd_put, List.take_zero, List.drop_zero, List.take_succ_cons, List.drop_succ_cons, List.drop_nil, List.take_nil, List.append_nil, List.length_cons, List.length_nil, Nat.zero_add, Nat.reduceAdd])
        have hG : Gt m2 ((m2.push ⟨1, [.int .i64 0, .int .i64 0], none⟩).put m2.next (some ⟨1, [.int .i64 ((a * p - b : Nat) : Int), .int .i64 ((b * p : Nat) : Int)], none⟩)) := Mem.put_gt (Mem.gt_push _ _) _ (Nat.le_refl _)
        generalize (m2.push ⟨1, [.int .i64 0, .int .i64 0], none⟩).put m2.next (some ⟨1, [.int .i64 ((a * p - b : Nat) : Int), .int .i64 ((b * p : Nat) : Int)], none⟩) = m3 at hG ⊢
        have hv3 := hv2.mono hG
        refine clip_sp hv3 fun u hu => ?_
        obtain ⟨w, m4, f1, f2, f3⟩ := clip_app (L := (m3.push ⟨1, [.int .i64 (p : Int)], none⟩).next) (x := p) hu hv3 (by omega)
        have hb30 := bs30 m3 (p : Int)
        rw [hb30, oRes_e, f1, oRes_e, q9]
        have E4 := hG.trans f3
        have e4n := E4.next
        have hW4 : bodyW n a b p = (ways n (a * p - b) (b * p) (p + 1)).map (p :: ·) := if_pos h2
        have hab2 : a * p ≤ b * p := Nat.mul_le_mul_right _ hab
        have hsl2 : (seen ++ X.map (parts ++ ·)).length + (ways n (a * p - b) (b * p) (p + 1)).length ≤ 1000000000 := by
          have h8 := congrArg List.length hW
          rw [tlW_step h1, hW4, List.length_append, List.length_append, List.length_map] at h8
          rw [List.length_append, List.length_map]
          omega
        refine ih (a := a * p - b) (b := b * p) (by omega) (by omega) (by omega) ?_ (by rw [List.length_append]; simp; omega) ?_ (f2.le (Nat.zero_le _)) (fun e => by have h8 := f2.fr xb e; have := hG.next; omega) (by omega) (hJ _ _ _ hj2 E4) (by rw [frN_snoc]; exact hsl2) fun m5 e5 hj5 => ?_
        · rw [Nat.pow_succ] at hb
          have h8 : b * p * 2001 ^ n ≤ b * 2001 * 2001 ^ n := Nat.mul_le_mul_right _ (Nat.mul_le_mul_left _ (by omega))
          have h9 : b * 2001 * 2001 ^ n = b * (2001 ^ n * 2001) := by rw [Nat.mul_assoc, Nat.mul_comm 2001]
          omega
        · intro x hx
          rcases List.mem_append.1 hx with hx | hx
          · exact hp2 x hx
          · simp at hx; omega
        · rw [frN_snoc] at hj5 ⊢
          have E5 : GtB xb m2 m5 := (GtB.of E4).trans e5
          generalize ways n (a * p - b) (b * p) (p + 1) = V at hj5 hW4 ⊢
          rw [tlW_step h1, hW4, ← List.append_assoc] at hW
          have hmap : V.map ((parts ++ [p]) ++ ·) = (V.map (p :: ·)).map (parts ++ ·) := by
            rw [List.map_map]
            refine List.map_congr_left fun x _ => ?_
            simp
          rw [hmap] at hj5
          have hstep : (c = true ∨ V = []) → self [.int .i64 ((p + 1 : Nat) : Int)] m5 = some () := fun hc => by
            refine hself (2001 - (p + 1)) _ _ (by omega) ⟨p + 1, X ++ V.map (p :: ·), rfl, rfl, by omega, e2.trans E5, hA2.monoB E5 (by omega), hv2.monoB E5 hvb, ?_, fun hcf => ?_, hW⟩
            · rcases hc with rfl | rfl
              · rw [List.map_append, ← List.append_assoc]; exact hj5
              · have : takenW c (([] : List (List Nat)).map (p :: ·) |>.map (parts ++ ·)) = [] := by cases c <;> rfl
                rw [this, List.append_nil] at hj5
                simpa using hj5
            · rcases hc with rfl | rfl
              · cases hcf
              · rw [hX hcf]; rfl
          have hadd : ∀ K : Value → Option Unit, oInt .add .i64 (.int .i64 (p : Int)) (.int .i64 1) K = K (.int .i64 ((p + 1 : Nat) : Int)) := fun K => by rw [oInt_add ⟨by omega, by omega⟩]; rfl
          cases c with
          | true =>
            rw [Bool.true_or]
            try simp (disch := first | omega | with_unfolding_all exact id rfl | with_unfolding_all exact Nat.le_of_ble_eq_true rfl | (simp only [Mem.push_next, Mem.put_next, List.length_cons, List.length_nil, Nat.zero_add, Nat.reduceAdd, allOne, oneCell, Bool.and_self, Bool.and_true]; first | done | omega)) only [hadd, ↓uc_e, ↓un0_e, oOpt_e, oRes_e, oIf_t, oIf_f, oGT_t, oGT_f, oGT_u, oGF_t, oGF_f, oGF_u, oPick_t, oPick_f, oInt_eql, oInt_neq, oInt_lss, oInt_leq, oInt_gtr, oInt_geq, aun_not, aextract_e, fa_e, abox_e, ptrTo, oCallV_e, decide_true, decide_false, Bool.not_true, Bool.not_false, List.getElem?_cons_zero, List.getElem?_cons_succ, List.cons_append, List.nil_append, cells_agg, cells_int, cells_slice, cells_bool, cells_ptr, ld1_u, ldN_u, st1_u, rdo_e, rdn_e, stw_e, anew_eq, Mem.push_next, Mem.put_next, Mem.rd_push, Mem.rd_push_eq, Mem.rd_push_lt, Mem.rd_put_eq, Mem.rd_put, List.take_zero, List.drop_zero, List.take_succ_cons, List.drop_succ_cons, List.drop_nil, List.take_nil, List.append_nil, List.length_cons, List.length_nil, Nat.zero_add, Nat.reduceAdd]
            exact hstep (.inl rfl)
          | false =>
            cases V with
            | nil =>
              rw [show (false || ([] : List (List Nat)).isEmpty) = true from rfl]
              try simp (disch := first | omega | with_unfolding_all exact id rfl | with_unfolding_all exact Nat.le_of_ble_eq_true rfl | (simp only [Mem.push_next, Mem.put_next, List.length_cons, List.length_nil, Nat.zero_add, Nat.reduceAdd, allOne, oneCell, Bool.and_self, Bool.and_true]; first | done | omega)) only [hadd, ↓uc_e, ↓un0_e, oOpt_e, oRes_e, oIf_t, oIf_f, oGT_t, oGT_f, oGT_u, oGF_t, oGF_f, oGF_u, oPick_t, oPick_f, oInt_eql, oInt_neq, oInt_lss, oInt_leq, oInt_gtr, oInt_geq, aun_not, aextract_e, fa_e, abox_e, ptrTo, oCallV_e, decide_true, decide_false, Bool.not_true, Bool.not_false, List.getElem?_cons_zero, List.getElem?_cons_succ, List.cons_append, List.nil_append, cells_agg, cells_int, cells_slice, cells_bool, cells_ptr, ld1_u, ldN_u, st1_u, rdo_e, rdn_e, stw_e, anew_eq, Mem.push_next, Mem.put_next, Mem.rd_push, Mem.rd_push_eq, Mem.rd_push_lt, Mem.rd_put_eq, Mem.rd_put, List.take_zero, List.drop_zero, List.take_succ_cons, List.drop_succ_cons, List.drop_nil, List.take_nil, List.append_nil, List.length_cons, List.length_nil, Nat.zero_add, Nat.reduceAdd]
              exact hstep (.inr rfl)
            | cons w0 V =>
              rw [show (false || (w0 :: V).isEmpty) = false from rfl]
              try simp (disch := first | omega | with_unfolding_all exact id rfl | with_unfolding_all exact Nat.le_of_ble_eq_true rfl | (simp only [Mem.push_next, Mem.put_next, List.length_cons, List.length_nil, Nat.zero_add, Nat.reduceAdd, allOne, oneCell, Bool.and_self, Bool.and_true]; first | done | omega)) only [↓uc_e, ↓un0_e, oOpt_e, oRes_e, oIf_t, oIf_f, oGT_t, oGT_f, oGT_u, oGF_t, oGF_f, oGF_u, oPick_t, oPick_f, oInt_eql, oInt_neq, oInt_lss, oInt_leq, oInt_gtr, oInt_geq, aun_not, aextract_e, fa_e, abox_e, ptrTo, oCallV_e, decide_true, decide_false, Bool.not_true, Bool.not_false, List.getElem?_cons_zero, List.getElem?_cons_succ, List.cons_append, List.nil_append, cells_agg, cells_int, cells_slice, cells_bool, cells_ptr, ld1_u, ldN_u, st1_u, rdo_e, rdn_e, stw_e, anew_eq, Mem.push_next, Mem.put_next, Mem.rd_push, Mem.rd_push_eq, Mem.rd_push_lt, Mem.rd_put_eq, Mem.rd_put, List.take_zero, List.drop_zero, List.take_succ_cons, List.drop_succ_cons, List.drop_nil, List.take_nil, List.append_nil, List.length_cons, List.length_nil, Nat.zero_add, Nat.reduceAdd]
              have hX0 := hX rfl
              subst hX0
              subst hW
              have := hk m5 (e2.trans E5)
              refine this ?_
              simpa [takenW] using hj5
      · have d2 : decide (((p * a : Nat) : Int) < (((n + 1 + 1) * b : Nat) : Int)) = false := decide_eq_false (by omega)
        try simp (disch := first | omega | with_unfolding_all exact id rfl | with_unfolding_all exact Nat.le_of_ble_eq_true rfl | (simp only [Mem.push_next, Mem.put_next, List.length_cons, List.length_nil, Nat.zero_add, Nat.reduceAdd, allOne, oneCell, Bool.and_self, Bool.and_true]; first | done | omega)) only [hA2.rd, q4, q5, d1, d2, ↓uc_e, ↓un0_e, oOpt_e, oRes_e, oIf_t, oIf_f, oGT_t, oGT_f, oGT_u, oGF_t, oGF_f, oGF_u, oPick_t, oPick_f, oInt_eql, oInt_neq, oInt_lss, oInt_leq, oInt_gtr, oInt_geq, aun_not, aextract_e, fa_e, abox_e, ptrTo, oCallV_e, decide_true, decide_false, Bool.not_true, Bool.not_false, List.getElem?_cons_zero, List.getElem?_cons_succ, List.cons_append, List.nil_append, cells_agg, cells_int, cells_slice, cells_bool, cells_ptr, ld1_u, ldN_u, st1_u, rdo_e, rdn_e, stw_e, anew_eq, Mem.push_next, Mem.put_next, Mem.rd_push, Mem.rd_push_eq, Mem.rd_push_lt, Mem.rd_put_eq, Mem.rd_put, List.take_zero, List.drop_zero, List.take_succ_cons, List.drop_succ_cons, List.drop_nil, List.take_nil, List.append_nil, List.length_cons, List.length_nil, Nat.zero_add, Nat.reduceAdd]
        repeat (rw [join_e]; try simp (disch := first | omega | with_unfolding_all exact id rfl | with_unfolding_all exact Nat.le_of_ble_eq_true rfl | (simp only [Mem.push_next, Mem.put_next, List.length_cons, List.length_nil, Nat.zero_add, Nat.reduceAdd, allOne, oneCell, Bool.and_self, Bool.and_true]; first | done | omega)) only [hA2.rd, q4, q5, d1, d2, ↓uc_e, ↓un0_e, oOpt_e, oRes_e, oIf_t, oIf_f, oGT_t, oGT_f, oGT_u, oGF_t, oGF_f, oGF_u, oPick_t, oPick_f, oInt_eql, oInt_neq, oInt_lss, oInt_leq, oInt_gtr, oInt_geq, aun_not, aextract_e, fa_e, abox_e, ptrTo, oCallV_e, decide_true, decide_false, Bool.not_true, Bool.not_false, List.getElem?_cons_zero, List.getElem?_cons_succ, List.cons_append, List.nil_append, cells_agg, cells_int, cells_slice, cells_bool, cells_ptr, ld1_u, ldN_u, st1_u, rdo_e, rdn_e, stw_e, anew_eq, Mem.push_next, Mem.put_next, Mem.rd_push, Mem.rd_push_eq, Mem.rd_push_lt, Mem.rd_put_eq, Mem.rd_put, List.take_zero, List.drop_zero, List.take_succ_cons, List.drop_succ_cons, List.drop_nil, List.take_nil, List.append_nil, List.length_cons, List.length_nil, Nat.zero_add, Nat.reduceAdd])
        exact hstop fun h => h2 h.2
    · have d1 : decide ((p : Int) ≤ 2000) = false := decide_eq_false (by omega)
      try simp (disch := first | omega | with_unfolding_all exact id rfl | with_unfolding_all exact Nat.le_of_ble_eq_true rfl | (simp only [Mem.push_next, Mem.put_next, List.length_cons, List.length_nil, Nat.zero_add, Nat.reduceAdd, allOne, oneCell, Bool.and_self, Bool.and_true]; first | done | omega)) only [d1, ↓uc_e, ↓un0_e, oOpt_e, oRes_e, oIf_t, oIf_f, oGT_t, oGT_f, oGT_u, oGF_t, oGF_f, oGF_u, oPick_t, oPick_f, oInt_eql, oInt_neq, oInt_lss, oInt_leq, oInt_gtr, oInt_geq, aun_not, aextract_e, fa_e, abox_e, ptrTo, oCallV_e, decide_true, decide_false, Bool.not_true, Bool.not_false, List.getElem?_cons_zero, List.getElem?_cons_succ, List.cons_append, List.nil_append, cells_agg, cells_int, cells_slice, cells_bool, cells_ptr, ld1_u, ldN_u, st1_u, rdo_e, rdn_e, stw_e, anew_eq, Mem.push_next, Mem.put_next, Mem.rd_push, Mem.rd_push_eq, Mem.rd_push_lt, Mem.rd_put_eq, Mem.rd_put, List.take_zero, List.drop_zero, List.take_succ_cons, List.drop_succ_cons, List.drop_nil, List.take_nil, List.append_nil, List.length_cons, List.length_nil, Nat.zero_add, Nat.reduceAdd]
      repeat (rw [join_e]; try simp (disch := first | omega | with_unfolding_all exact id rfl | with_unfolding_all exact Nat.le_of_ble_eq_true rfl | (simp only [Mem.push_next, Mem.put_next, List.length_cons, List.length_nil, Nat.zero_add, Nat.reduceAdd, allOne, oneCell, Bool.and_self, Bool.and_true]; first | done | omega)) only [d1, ↓uc_e, ↓un0_e, oOpt_e, oRes_e, oIf_t, oIf_f, oGT_t, oGT_f, oGT_u, oGF_t, oGF_f, oGF_u, oPick_t, oPick_f, oInt_eql, oInt_neq, oInt_lss, oInt_leq, oInt_gtr, oInt_geq, aun_not, aextract_e, fa_e, abox_e, ptrTo, oCallV_e, decide_true, decide_false, Bool.not_true, Bool.not_false, List.getElem?_cons_zero, List.getElem?_cons_succ, List.cons_append, List.nil_append, cells_agg, cells_int, cells_slice, cells_bool, cells_ptr, ld1_u, ldN_u, st1_u, rdo_e, rdn_e, stw_e, anew_eq, Mem.push_next, Mem.put_next, Mem.rd_push, Mem.rd_push_eq, Mem.rd_push_lt, Mem.rd_put_eq, Mem.rd_put, List.take_zero, List.drop_zero, List.take_succ_cons, List.drop_succ_cons, List.drop_nil, List.take_nil, List.append_nil, List.length_cons, List.length_nil, Nat.zero_add, Nat.reduceAdd])
      exact hstop fun h => h1 h.1
end
end Go.Vit
