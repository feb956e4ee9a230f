/- Walks: the reference's lists. -/
import Derived.Test.YtcaoifacidnhcaaDoorW11
set_option linter.unusedSimpArgs false
set_option linter.unusedVariables false
set_option maxRecDepth 20000
namespace Go.Vit
open Go Go.Proofs
attribute [local irreducible] runT loopS
theorem ael88 : aelem Tryd.prog 88 = some (1, 24) := by kernel_rfl
theorem bs88 (m : Mem) (p : Option Addr) (n c : Nat) : bs Tryd.prog m 88 1 [(0, .slice p n c)] = some (slTo 1 m.next, m.push ⟨1, [.slice p n c], none⟩) :=
  (show _ = anew m 1 [.slice p n c] (slTo 1) by kernel_rfl).trans (anew_eq ..)
theorem Sl.keep {sz : Nat} {m m' : Mem} {v : Value} {n : Nat} {cs : List Value} (h : Sl sz m v n cs) (hk : ∀ c, bid v = some c → m'.rd c = m.rd c) : Sl sz m' v n cs := by
  refine ⟨?_, h.2⟩
  have h1 := h.1
  unfold asrc at h1 ⊢
  split at h1
  · exact h1
  · split at h1
    · exact h1
    · split at h1
      · rename_i cs' hr
        unfold rdc at hr ⊢
        rw [hk _ rfl]
        rw [hr]
        exact h1
      · cases h1
  · cases h1
theorem IN.keep {m m' : Mem} {v : Value} {l : List Nat} (h : IN m v l) (hk : ∀ c, bid v = some c → m'.rd c = m.rd c) : IN m' v l := Sl.keep h hk
/-- A grown slice of slices. -/
def LG (lo : Nat) (m : Mem) (u : Value) (ll : List (List Nat)) : Prop :=
  ∃ L1 cs, lo ≤ L1 ∧ L1 ≤ m.next ∧ Gs 1 L1 m u ll.length cs ∧ ∀ i (h : i < ll.length), ∃ v, cs[i]? = some v ∧ IN m v ll[i] ∧ ∀ c, bid v = some c → lo ≤ c ∧ c < L1
theorem LG.mono {lo : Nat} {m m' : Mem} {u : Value} {ll : List (List Nat)} (h : LG lo m u ll) (e : Gt m m') : LG lo m' u ll := by
  obtain ⟨L1, cs, h1, h2, h3, h4⟩ := h
  have := e.next
  refine ⟨L1, cs, h1, by omega, h3.mono e, fun i hi => ?_⟩
  obtain ⟨v, g1, g2, g3⟩ := h4 i hi
  exact ⟨v, g1, g2.mono e, g3⟩
theorem LG.le {lo lo' : Nat} {m : Mem} {u : Value} {ll : List (List Nat)} (h : LG lo m u ll) (hl : lo' ≤ lo) : LG lo' m u ll := by
  obtain ⟨L1, cs, h1, h2, h3, h4⟩ := h
  refine ⟨L1, cs, by omega, h2, h3, fun i hi => ?_⟩
  obtain ⟨v, g1, g2, g3⟩ := h4 i hi
  exact ⟨v, g1, g2, fun c hc => ⟨by have := (g3 c hc).1; omega, (g3 c hc).2⟩⟩
theorem LG.nil {lo : Nat} {m : Mem} (h : lo ≤ m.next) : LG lo m (.slice none 0 0) [] := ⟨lo, [], Nat.le_refl _, h, Gs.nil _ _ _, fun i hi => by cases hi⟩
theorem LG.ln {lo : Nat} {m : Mem} {u : Value} {ll : List (List Nat)} (h : LG lo m u ll) : Vit.ln u = some (.int .i64 (ll.length : Int)) := by
  obtain ⟨L1, cs, h1, h2, h3, h4⟩ := h
  exact Sl.ln h3.sl
theorem LG.fr {lo : Nat} {m : Mem} {u : Value} {ll : List (List Nat)} (h : LG lo m u ll) : Fsh lo u := by
  obtain ⟨L1, cs, h1, h2, h3, h4⟩ := h
  exact h3.fr.le h1
theorem LG.snoc {lo L : Nat} {m0 m : Mem} {u v : Value} {ll : List (List Nat)} {w : List Nat} (h : LG lo m u ll) (hw : IN m v w) (hvb : ∀ c, bid v = some c → lo ≤ c ∧ c < m.next) (hne : ∀ c, bid v = some c → bid u ≠ some c) (hl : ll.length < 1000000) (hL : L ≤ lo) (e : Gt m0 m) (hm : m0.next ≤ lo) :
    ∃ x m', aappend Tryd.prog L (m.push ⟨1, [v], none⟩) 88 u (slTo 1 m.next) = some (x, m') ∧ LG lo m' x (ll ++ [w]) ∧ Gt m0 m' ∧ (∀ c, bid x = some c → m.next ≤ c) ∧ m.next ≤ m'.next ∧ ∀ c, c < m.next → bid u ≠ some c → m'.rd c = m.rd c := by
  obtain ⟨L1, cs, h1, h2, h3, h4⟩ := h
  have gp := Mem.gt_push m ⟨1, [v], none⟩
  have hx : Sl 1 (m.push ⟨1, [v], none⟩) (slTo 1 m.next) 1 [v] := Gs.sl (L := m.next) (.inr ⟨m.next, Nat.le_refl _, rfl, Mem.rd_push _ _, rfl, by omega⟩)
  have ho : allOne [v] = true := by
    obtain ⟨p, c, rfl⟩ := hw.ex
    rfl
  have hnx : (m.push ⟨1, [v], none⟩).next = m.next + 1 := Mem.push_next _ _
  obtain ⟨x, m', g1, g2, g3, g4, g5⟩ := Gs.append2 (P := Tryd.prog) (L := L) (m0 := m0) ael88 (h3.mono gp) hx (by omega) ho (roomy_of (by omega) (by omega)) rfl (by omega) (e.trans gp) (by omega)
  have hkeep : ∀ c, c < m.next → bid u ≠ some c → m'.rd c = m.rd c := fun c hc hb => (g5 c (by omega) hb).trans (gp.kept c hc)
  have hub : ∀ c, c < L1 → bid u ≠ some c := fun c hc hb => by have := h3.fr c hb; omega
  have hcl : cs.length = ll.length := by
    rcases h3 with ⟨_, a2, a3⟩ | ⟨_, _, _, _, a5, _⟩
    · rw [a2, a3]; rfl
    · omega
  refine ⟨x, m', g1, ⟨m.next + 1, cs ++ [v], by omega, by omega, ?_, fun i hi => ?_⟩, g3, fun c hc => ?_, by omega, hkeep⟩
  · rw [List.length_append]
    exact g2.le (by omega)
  · rw [List.length_append] at hi
    by_cases hil : i < ll.length
    · obtain ⟨y, k1, k2, k3⟩ := h4 i hil
      refine ⟨y, ?_, ?_, fun c hc => by have := k3 c hc; omega⟩
      · rw [List.getElem?_append_left (by omega)]; exact k1
      · rw [List.getElem_append_left hil]
        exact k2.keep fun c hc => hkeep c (by have := k3 c hc; omega) (hub c (k3 c hc).2)
    · have hie : i = ll.length := by simp at hi; omega
      subst hie
      refine ⟨v, ?_, ?_, fun c hc => by have := hvb c hc; omega⟩
      · rw [List.getElem?_append_right (by omega), hcl, Nat.sub_self]; rfl
      · rw [List.getElem_append_right (by omega)]
        simp only [Nat.sub_self, List.getElem_cons_zero]
        exact hw.keep fun c hc => hkeep c (hvb c hc).2 (hne c hc)
  · have := g2.fr c hc; omega
theorem take_snocL {α : Type} {l : List α} {i : Nat} (h : i < l.length) : l.take (i + 1) = l.take i ++ [l[i]] := by
  rw [List.take_add_one, List.getElem?_eq_getElem h]; rfl
/-- .. read by others. -/
def LR (m : Mem) (u : Value) (ll : List (List Nat)) (lo hi : Nat) : Prop :=
  ∃ cs, Sl 1 m u ll.length cs ∧ (∀ c, bid u = some c → lo ≤ c ∧ c < hi) ∧ ∀ i (h : i < ll.length), ∃ v, cs[i]? = some v ∧ IN m v ll[i] ∧ ∀ c, bid v = some c → lo ≤ c ∧ c < hi
theorem LR.keep {m m' : Mem} {u : Value} {ll : List (List Nat)} {lo hi : Nat} (h : LR m u ll lo hi) (hk : ∀ c, lo ≤ c → c < hi → m'.rd c = m.rd c) : LR m' u ll lo hi := by
  obtain ⟨cs, h1, h2, h3⟩ := h
  refine ⟨cs, h1.keep fun c hc => hk c (h2 c hc).1 (h2 c hc).2, h2, fun i hi' => ?_⟩
  obtain ⟨v, g1, g2, g3⟩ := h3 i hi'
  exact ⟨v, g1, g2.keep fun c hc => hk c (g3 c hc).1 (g3 c hc).2, g3⟩
theorem LG.lr {lo : Nat} {m : Mem} {u : Value} {ll : List (List Nat)} (h : LG lo m u ll) : LR m u ll lo m.next := by
  obtain ⟨L1, cs, h1, h2, h3, h4⟩ := h
  refine ⟨cs, h3.sl, fun c hc => ⟨by have := h3.fr c hc; omega, ?_⟩, fun i hi => ?_⟩
  · rcases h3 with ⟨rfl, _⟩ | ⟨b, _, rfl, hr, _⟩
    · cases hc
    · cases hc; exact Mem.rd_lt hr
  · obtain ⟨v, g1, g2, g3⟩ := h4 i hi
    exact ⟨v, g1, g2, fun c hc => by have := g3 c hc; omega⟩
theorem LR.ln {m : Mem} {u : Value} {ll : List (List Nat)} {lo hi : Nat} (h : LR m u ll lo hi) : Vit.ln u = some (.int .i64 (ll.length : Int)) := Sl.ln h.choose_spec.1
theorem LR.ia {m : Mem} {u : Value} {ll : List (List Nat)} {lo hi i : Nat} (h : LR m u ll lo hi) (hi' : i < ll.length) : Vit.ia 1 u (.int .i64 (i : Int)) = some (ep 1 u i) := Sl.ia h.choose_spec.1 hi'
theorem LR.ld {m : Mem} {u : Value} {ll : List (List Nat)} {lo hi i : Nat} (h : LR m u ll lo hi) (hi' : i < ll.length) : ∃ v, ld1 m (ep 1 u i) = some v ∧ IN m v ll[i] ∧ ∀ c, bid v = some c → lo ≤ c ∧ c < hi := by
  obtain ⟨cs, h1, h2, h3⟩ := h
  obtain ⟨v, g1, g2, g3⟩ := h3 i hi'
  exact ⟨v, Sl.ld h1 hi' g1, g2, g3⟩
theorem cons_app {L x : Nat} {m : Mem} {w : Value} {l : List Nat} (hL : L ≤ m.next) (hw : IN (m.push ⟨1, [.int .i64 (x : Int)], none⟩) w l) (hl0 : 0 < l.length) (hl : l.length < 1000) :
    ∃ u m', aappend Tryd.prog L (m.push ⟨1, [.int .i64 (x : Int)], none⟩) 30 (slTo 1 m.next) w = some (u, m') ∧ GN m.next m' u (x :: l) ∧ Gt m m' := by
  have gp := Mem.gt_push m ⟨1, [.int .i64 (x : Int)], none⟩
  have hx : Sl 1 (m.push ⟨1, [.int .i64 (x : Int)], none⟩) w l.length ((ci l).map (Value.int .i64)) := by
    have := hw
    unfold IN IL at this
    rwa [ci_length] at this
  obtain ⟨u, m', h1, h2, h3, h4⟩ := Gs.append (P := Tryd.prog) (L := L) (L0 := m.next) (m0 := m) (n := 1) (j := l.length) ael30 (.inr ⟨m.next, Nat.le_refl _, rfl, Mem.rd_push _ _, rfl, by omega⟩ : Gs 1 m.next (m.push ⟨1, [.int .i64 (x : Int)], none⟩) (slTo 1 m.next) 1 [.int .i64 (x : Int)]) hx hl0 (allOne_map _) (roomy_of (by omega) (by omega)) (by rw [List.length_map, ci_length, Nat.mul_one]) hL gp (Nat.le_refl _)
  refine ⟨u, m', h1, ?_, h3⟩
  have h5 : (ci (x :: l)).length = 1 + l.length := by rw [ci_length, List.length_cons]; omega
  unfold GN GL
  rw [h5]
  exact h2.le (by have := gp.next; omega)
section
variable {lf L : Nat}
theorem less_sp {a b p n : Nat} {m : Mem} {k : Value → Mem → Option Unit} (hlf : 1000000 ≤ lf) (hL : L ≤ m.next) (hab : b < a * p) (h1 : a * p < 2 ^ 60) (h2 : b * p < 2 ^ 60) (h3 : 0 < b * p)
    (hk : ∀ m', Gt m m' → k (.agg ⟨[.int .i64 (((a * p - b) / Nat.gcd (a * p - b) (b * p) : Nat) : Int), .int .i64 ((b * p / Nat.gcd (a * p - b) (b * p) : Nat) : Int)]⟩) m' = some ()) :
    runT (tab lf) (n + 3) 54 [.agg ⟨[.int .i64 (a : Int), .int .i64 (b : Int)]⟩, .int .i64 (p : Int)] L m k = some () := by
  rw [r54]; dsimp only [S54, iofNat, inegSucc]
  have h60 : (2 : Nat) ^ 60 = 1152921504606846976 := by decide
  have q6 : ∀ K : Value → Option Unit, oInt .mul .i64 (.int .i64 (a : Int)) (.int .i64 (p : Int)) K = K (.int .i64 ((a * p : Nat) : Int)) := fun K => oInt_mulN (by omega) K
  have q7 : ∀ K : Value → Option Unit, oInt .sub .i64 (.int .i64 ((a * p : Nat) : Int)) (.int .i64 (b : Int)) K = K (.int .i64 ((a * p - b : Nat) : Int)) := fun K => by rw [oInt_sub ⟨by omega, by omega⟩, show ((a * p : Nat) : Int) - (b : Int) = ((a * p - b : Nat) : Int) by omega]
  have q8 : ∀ K : Value → Option Unit, oInt .mul .i64 (.int .i64 (b : Int)) (.int .i64 (p : Int)) K = K (.int .i64 ((b * p : Nat) : Int)) := fun K => oInt_mulN (by omega) K
  try simp (disch := first | omega | with_unfolding_all exact id rfl | with_unfolding_all exact Nat.le_of_ble_eq_true rfl | (simp only [Mem.push_next, Mem.put_next, List.length_cons, List.length_nil, Nat.zero_add, Nat.reduceAdd, allOne, oneCell, Bool.and_self, Bool.and_true]; first | done | omega)) only [q6, q7, q8, bu24, ↓uc_e, ↓un0_e, oOpt_e, oRes_e, oIf_t, oIf_f, oGT_t, oGT_f, oGT_u, oGF_t, oGF_f, oGF_u, oPick_t, oPick_f, oInt_eql, oInt_neq, oInt_lss, oInt_leq, oInt_gtr, oInt_geq, aun_not, aextract_e, fa_e, abox_e, ptrTo, oCallV_e, decide_true, decide_false, Bool.not_true, Bool.not_false, List.getElem?_cons_zero, List.getElem?_cons_succ, List.cons_append, List.nil_append, cells_agg, cells_int, cells_slice, cells_bool, cells_ptr, ld1_u, ldN_u, st1_u, rdo_e, rdn_e, stw_e, anew_eq, Mem.push_next, Mem.put_next, Mem.rd_push, Mem.rd_push_eq, Mem.rd_push_lt, Mem.rd_put_eq, Mem.rd_put, List.take_zero, List.drop_zero, List.take_succ_cons, List.drop_succ_cons, List.drop_nil, List.take_nil, List.append_nil, List.length_cons, List.length_nil, Nat.zero_add, Nat.reduceAdd]
  have G : Gt m ((m.push ⟨1, [.int .i64 (a : Int), .int .i64 (b : Int)], none⟩).push ⟨1, [.int .i64 0, .int .i64 0], none⟩) := (Mem.gt_push _ _).trans (Mem.gt_push _ _)
  have hB : At ((m.push ⟨1, [.int .i64 (a : Int), .int .i64 (b : Int)], none⟩).push ⟨1, [.int .i64 0, .int .i64 0], none⟩) (m.next + 1) [.int .i64 0, .int .i64 0] := At.push _ _
  generalize (m.push ⟨1, [.int .i64 (a : Int), .int .i64 (b : Int)], none⟩).push ⟨1, [.int .i64 0, .int .i64 0], none⟩ = m1 at G hB ⊢
  have Gn := G.next
  refine reduced_sp hlf (by omega) (by omega) (by omega) h3 fun m2 e2 => ?_
  have hB2 := hB.mono e2
  have e2n := e2.next
  have hlt := hB2.lt
  try simp (disch := first | omega | with_unfolding_all exact id rfl | with_unfolding_all exact Nat.le_of_ble_eq_true rfl | (simp only [Mem.push_next, Mem.put_next, List.length_cons, List.length_nil, Nat.zero_add, Nat.reduceAdd, allOne, oneCell, Bool.and_self, Bool.and_true]; first | done | omega)) only [hB2.rd, ↓uc_e, ↓un0_e, oOpt_e, oRes_e, oIf_t, oIf_f, oGT_t, oGT_f, oGT_u, oGF_t, oGF_f, oGF_u, oPick_t, oPick_f, oInt_eql, oInt_neq, oInt_lss, oInt_leq, oInt_gtr, oInt_geq, aun_not, aextract_e, fa_e, abox_e, ptrTo, oCallV_e, decide_true, decide_false, Bool.not_true, Bool.not_false, List.getElem?_cons_zero, List.getElem?_cons_succ, List.cons_append, List.nil_append, cells_agg, cells_int, cells_slice, cells_bool, cells_ptr, ld1_u, ldN_u, st1_u, rdo_e, rdn_e, stw_e, anew_eq, Mem.push_next, Mem.put_next, Mem.rd_push, Mem.rd_push_eq, Mem.rd_push_lt, Mem.rd_put_eq, Mem.rd_put, List.take_zero, List.drop_zero, List.take_succ_cons, List.drop_succ_cons, List.drop_nil, List.take_nil, List.append_nil, List.length_cons, List.length_nil, Nat.zero_add, Nat.reduceAdd]
  exact hk _ (Mem.put_gt (G.trans e2) _ (by omega))
theorem tlW_mono {n a b p q : Nat} (hpq : p ≤ q) (h : ¬ (p ≤ 2000 ∧ p * a < (n + 2) * b)) : tlW n a b q = [] :=
  tlW_stop fun hq => h ⟨by omega, Nat.lt_of_le_of_lt (Nat.mul_le_mul_right a hpq) hq.2⟩
theorem lists_sp (hlf : 1000000 ≤ lf) : ∀ (n : Nat) {a b last N : Nat} {m : Mem} {k : Value → Mem → Option Unit}, L ≤ m.next → n ≤ 2 → 0 < a → a ≤ b → Nat.gcd a b = 1 → b * 2001 ^ n ≤ 200000000 → last ≤ 2000 → (ways n a b (last + 1)).length < 1000000 →
      (∀ u m', Gt m m' → LG m.next m' u (ways n a b (last + 1)) → k u m' = some ()) →
      runT (tab lf) (N + n + 5) 58 [.agg ⟨[.int .i64 (a : Int), .int .i64 (b : Int)]⟩, .int .i64 (last : Int), .int .i64 ((n + 1 : Nat) : Int)] L m k = some () := by
  intro n
  induction n with
  | zero =>
    intro a b last N m k hL hn ha hab hg hb hla hlen hk
    rw [r58]; dsimp only [S58, iofNat, inegSucc]
    have g1 := Mem.gt_push m ⟨1, [.int .i64 (a : Int), .int .i64 (b : Int)], none⟩
    have hA : At (m.push ⟨1, [.int .i64 (a : Int), .int .i64 (b : Int)], none⟩) m.next [.int .i64 (a : Int), .int .i64 (b : Int)] := At.push m _
    rw [uc_e, uc_e, uc_e, un0_e, abox_e, oRes_e, cells_agg]
    generalize m.push ⟨1, [.int .i64 (a : Int), .int .i64 (b : Int)], none⟩ = m1 at g1 hA ⊢
    unfold ptrTo
    have g1n := g1.next
    have hb' : b ≤ 200000000 := by simpa using hb
    have hd1 : decide (((0 + 1 : Nat) : Int) = 1) = true := by decide
    have hadd : ∀ K : Value → Option Unit, oInt .add .i64 (.int .i64 (last : Int)) (.int .i64 1) K = K (.int .i64 ((last + 1 : Nat) : Int)) := fun K => by rw [oInt_add ⟨by omega, by omega⟩]; rfl
    have hnone : ways 0 a b (last + 1) = [] → k (.slice none 0 0) m1 = some () := fun h0 => by
      have := hk (.slice none 0 0) m1 g1
      rw [h0] at this
      exact this (LG.nil g1n)
    by_cases c1 : a = 1
    · subst c1
      have d1 : decide (((1 : Nat) : Int) = 1) = true := by decide
      try simp (disch := first | omega | with_unfolding_all exact id rfl | with_unfolding_all exact Nat.le_of_ble_eq_true rfl | (simp only [Mem.push_next, Mem.put_next, List.length_cons, List.length_nil, Nat.zero_add, Nat.reduceAdd, allOne, oneCell, Bool.and_self, Bool.and_true]; first | done | omega)) only [hA.rd, d1, hd1, hadd, ↓uc_e, ↓un0_e, oOpt_e, oRes_e, oIf_t, oIf_f, oGT_t, oGT_f, oGT_u, oGF_t, oGF_f, oGF_u, oPick_t, oPick_f, oInt_eql, oInt_neq, oInt_lss, oInt_leq, oInt_gtr, oInt_geq, aun_not, aextract_e, fa_e, abox_e, ptrTo, oCallV_e, decide_true, decide_false, Bool.not_true, Bool.not_false, List.getElem?_cons_zero, List.getElem?_cons_succ, List.cons_append, List.nil_append, cells_agg, cells_int, cells_slice, cells_bool, cells_ptr, ld1_u, ldN_u, st1_u, rdo_e, rdn_e, stw_e, anew_eq, Mem.push_next, Mem.put_next, Mem.rd_push, Mem.rd_push_eq, Mem.rd_push_lt, Mem.rd_put_eq, Mem.rd_put, List.take_zero, List.drop_zero, List.take_succ_cons, List.drop_succ_cons, List.drop_nil, List.take_nil, List.append_nil, List.length_cons, List.length_nil, Nat.zero_add, Nat.reduceAdd]
      repeat (rw [join_e]; try simp (disch := first | omega | with_unfolding_all exact id rfl | with_unfolding_all exact Nat.le_of_ble_eq_true rfl | (simp only [Mem.push_next, Mem.put_next, List.length_cons, List.length_nil, Nat.zero_add, Nat.reduceAdd, allOne, oneCell, Bool.and_self, Bool.and_true]; first | done | omega)) only [hA.rd, d1, hd1, hadd, ↓uc_e, ↓un0_e, oOpt_e, oRes_e, oIf_t, oIf_f, oGT_t, oGT_f, oGT_u, oGF_t, oGF_f, oGF_u, oPick_t, oPick_f, oInt_eql, oInt_neq, oInt_lss, oInt_leq, oInt_gtr, oInt_geq, aun_not, aextract_e, fa_e, abox_e, ptrTo, oCallV_e, decide_true, decide_false, Bool.not_true, Bool.not_false, List.getElem?_cons_zero, List.getElem?_cons_succ, List.cons_append, List.nil_append, cells_agg, cells_int, cells_slice, cells_bool, cells_ptr, ld1_u, ldN_u, st1_u, rdo_e, rdn_e, stw_e, anew_eq, Mem.push_next, Mem.put_next, Mem.rd_push, Mem.rd_push_eq, Mem.rd_push_lt, Mem.rd_put_eq, Mem.rd_put, List.take_zero, List.drop_zero, List.take_succ_cons, List.drop_succ_cons, List.drop_nil, List.take_nil, List.append_nil, List.length_cons, List.length_nil, Nat.zero_add, Nat.reduceAdd])
      refine in_sp ?_
      by_cases c2 : last + 1 ≤ b ∧ b ≤ 2000
      · rw [decide_eq_true ⟨by omega, by omega⟩]
        have hw0 : ways 0 1 b (last + 1) = [[b]] := by
          unfold ways
          rw [Nat.mod_one, Nat.div_one]
          exact if_pos ⟨rfl, c2⟩
        rw [hw0] at hk
        have hb30 := bs30 m1 (b : Int)
        have gp := Mem.gt_push m1 ⟨1, [.int .i64 (b : Int)], none⟩
        have hIN : IN (m1.push ⟨1, [.int .i64 (b : Int)], none⟩) (slTo 1 m1.next) [b] := Gs.sl (L := m1.next) (.inr ⟨m1.next, Nat.le_refl _, rfl, Mem.rd_push _ _, rfl, by simp [ci]⟩)
        have hnx : (m1.push ⟨1, [.int .i64 (b : Int)], none⟩).next = m1.next + 1 := Mem.push_next _ _
        try simp (disch := first | omega | with_unfolding_all exact id rfl | with_unfolding_all exact Nat.le_of_ble_eq_true rfl | (simp only [Mem.push_next, Mem.put_next, List.length_cons, List.length_nil, Nat.zero_add, Nat.reduceAdd, allOne, oneCell, Bool.and_self, Bool.and_true]; first | done | omega)) only [hA.rd, hb30, ↓uc_e, ↓un0_e, oOpt_e, oRes_e, oIf_t, oIf_f, oGT_t, oGT_f, oGT_u, oGF_t, oGF_f, oGF_u, oPick_t, oPick_f, oInt_eql, oInt_neq, oInt_lss, oInt_leq, oInt_gtr, oInt_geq, aun_not, aextract_e, fa_e, abox_e, ptrTo, oCallV_e, decide_true, decide_false, Bool.not_true, Bool.not_false, List.getElem?_cons_zero, List.getElem?_cons_succ, List.cons_append, List.nil_append, cells_agg, cells_int, cells_slice, cells_bool, cells_ptr, ld1_u, ldN_u, st1_u, rdo_e, rdn_e, stw_e, anew_eq, Mem.push_next, Mem.put_next, Mem.rd_push, Mem.rd_push_eq, Mem.rd_push_lt, Mem.rd_put_eq, Mem.rd_put, List.take_zero, List.drop_zero, List.take_succ_cons, List.drop_succ_cons, List.drop_nil, List.take_nil, List.append_nil, List.length_cons, List.length_nil, Nat.zero_add, Nat.reduceAdd]
        repeat (rw [join_e]; try simp (disch := first | omega | with_unfolding_all exact id rfl | with_unfolding_all exact Nat.le_of_ble_eq_true rfl | (simp only [Mem.push_next, Mem.put_next, List.length_cons, List.length_nil, Nat.zero_add, Nat.reduceAdd, allOne, oneCell, Bool.and_self, Bool.and_true]; first | done | omega)) only [hA.rd, hb30, ↓uc_e, ↓un0_e, oOpt_e, oRes_e, oIf_t, oIf_f, oGT_t, oGT_f, oGT_u, oGF_t, oGF_f, oGF_u, oPick_t, oPick_f, oInt_eql, oInt_neq, oInt_lss, oInt_leq, oInt_gtr, oInt_geq, aun_not, aextract_e, fa_e, abox_e, ptrTo, oCallV_e, decide_true, decide_false, Bool.not_true, Bool.not_false, List.getElem?_cons_zero, List.getElem?_cons_succ, List.cons_append, List.nil_append, cells_agg, cells_int, cells_slice, cells_bool, cells_ptr, ld1_u, ldN_u, st1_u, rdo_e, rdn_e, stw_e, anew_eq, Mem.push_next, Mem.put_next, Mem.rd_push, Mem.rd_push_eq, Mem.rd_push_lt, Mem.rd_put_eq, Mem.rd_put, List.take_zero, List.drop_zero, List.take_succ_cons, List.drop_succ_cons, List.drop_nil, List.take_nil, List.append_nil, List.length_cons, List.length_nil, Nat.zero_add, Nat.reduceAdd])
        generalize m1.push ⟨1, [.int .i64 (b : Int)], none⟩ = m2 at gp hIN hnx ⊢
        have hb88 : bs Tryd.prog m2 88 1 [(0, slTo 1 m1.next)] = some (slTo 1 m2.next, m2.push ⟨1, [slTo 1 m1.next], none⟩) := bs88 m2 _ _ _
        obtain ⟨x, m', h1, h2, h3, _⟩ := LG.snoc (lo := m.next) (L := L) (m0 := m) (LG.nil (show m.next ≤ m2.next by omega)) hIN (fun c hc => by cases hc; omega) (fun c _ hu => by cases hu) (by decide) hL (g1.trans gp) (Nat.le_refl _)
        try simp (disch := first | omega | with_unfolding_all exact id rfl | with_unfolding_all exact Nat.le_of_ble_eq_true rfl | (simp only [Mem.push_next, Mem.put_next, List.length_cons, List.length_nil, Nat.zero_add, Nat.reduceAdd, allOne, oneCell, Bool.and_self, Bool.and_true]; first | done | omega)) only [hb88, h1, ↓uc_e, ↓un0_e, oOpt_e, oRes_e, oIf_t, oIf_f, oGT_t, oGT_f, oGT_u, oGF_t, oGF_f, oGF_u, oPick_t, oPick_f, oInt_eql, oInt_neq, oInt_lss, oInt_leq, oInt_gtr, oInt_geq, aun_not, aextract_e, fa_e, abox_e, ptrTo, oCallV_e, decide_true, decide_false, Bool.not_true, Bool.not_false, List.getElem?_cons_zero, List.getElem?_cons_succ, List.cons_append, List.nil_append, cells_agg, cells_int, cells_slice, cells_bool, cells_ptr, ld1_u, ldN_u, st1_u, rdo_e, rdn_e, stw_e, anew_eq, Mem.push_next, Mem.put_next, Mem.rd_push, Mem.rd_push_eq, Mem.rd_push_lt, Mem.rd_put_eq, Mem.rd_put, List.take_zero, List.drop_zero, List.take_succ_cons, List.drop_succ_cons, List.drop_nil, List.take_nil, List.append_nil, List.length_cons, List.length_nil, Nat.zero_add, Nat.reduceAdd]
        exact hk x m' h3 h2
      · rw [decide_eq_false (by omega)]
        try simp (disch := first | omega | with_unfolding_all exact id rfl | with_unfolding_all exact Nat.le_of_ble_eq_true rfl | (simp only [Mem.push_next, Mem.put_next, List.length_cons, List.length_nil, Nat.zero_add, Nat.reduceAdd, allOne, oneCell, Bool.and_self, Bool.and_true]; first | done | omega)) only [↓uc_e, ↓un0_e, oOpt_e, oRes_e, oIf_t, oIf_f, oGT_t, oGT_f, oGT_u, oGF_t, oGF_f, oGF_u, oPick_t, oPick_f, oInt_eql, oInt_neq, oInt_lss, oInt_leq, oInt_gtr, oInt_geq, aun_not, aextract_e, fa_e, abox_e, ptrTo, oCallV_e, decide_true, decide_false, Bool.not_true, Bool.not_false, List.getElem?_cons_zero, List.getElem?_cons_succ, List.cons_append, List.nil_append, cells_agg, cells_int, cells_slice, cells_bool, cells_ptr, ld1_u, ldN_u, st1_u, rdo_e, rdn_e, stw_e, anew_eq, Mem.push_next, Mem.put_next, Mem.rd_push, Mem.rd_push_eq, Mem.rd_push_lt, Mem.rd_put_eq, Mem.rd_put, List.take_zero, List.drop_zero, List.take_succ_cons, List.drop_succ_cons, List.drop_nil, List.take_nil, List.append_nil, List.length_cons, List.length_nil, Nat.zero_add, Nat.reduceAdd]
        repeat (rw [join_e]; try simp (disch := first | omega | with_unfolding_all exact id rfl | with_unfolding_all exact Nat.le_of_ble_eq_true rfl | (simp only [Mem.push_next, Mem.put_next, List.length_cons, List.length_nil, Nat.zero_add, Nat.reduceAdd, allOne, oneCell, Bool.and_self, Bool.and_true]; first | done | omega)) only [↓uc_e, ↓un0_e, oOpt_e, oRes_e, oIf_t, oIf_f, oGT_t, oGT_f, oGT_u, oGF_t, oGF_f, oGF_u, oPick_t, oPick_f, oInt_eql, oInt_neq, oInt_lss, oInt_leq, oInt_gtr, oInt_geq, aun_not, aextract_e, fa_e, abox_e, ptrTo, oCallV_e, decide_true, decide_false, Bool.not_true, Bool.not_false, List.getElem?_cons_zero, List.getElem?_cons_succ, List.cons_append, List.nil_append, cells_agg, cells_int, cells_slice, cells_bool, cells_ptr, ld1_u, ldN_u, st1_u, rdo_e, rdn_e, stw_e, anew_eq, Mem.push_next, Mem.put_next, Mem.rd_push, Mem.rd_push_eq, Mem.rd_push_lt, Mem.rd_put_eq, Mem.rd_put, List.take_zero, List.drop_zero, List.take_succ_cons, List.drop_succ_cons, List.drop_nil, List.take_nil, List.append_nil, List.length_cons, List.length_nil, Nat.zero_add, Nat.reduceAdd])
        refine hnone ?_
        unfold ways
        rw [Nat.mod_one, Nat.div_one]
        exact if_neg fun h => c2 h.2
    · have d1 : decide ((a : Int) = 1) = false := decide_eq_false (by omega)
      try simp (disch := first | omega | with_unfolding_all exact id rfl | with_unfolding_all exact Nat.le_of_ble_eq_true rfl | (simp only [Mem.push_next, Mem.put_next, List.length_cons, List.length_nil, Nat.zero_add, Nat.reduceAdd, allOne, oneCell, Bool.and_self, Bool.and_true]; first | done | omega)) only [hA.rd, d1, hd1, hadd, ↓uc_e, ↓un0_e, oOpt_e, oRes_e, oIf_t, oIf_f, oGT_t, oGT_f, oGT_u, oGF_t, oGF_f, oGF_u, oPick_t, oPick_f, oInt_eql, oInt_neq, oInt_lss, oInt_leq, oInt_gtr, oInt_geq, aun_not, aextract_e, fa_e, abox_e, ptrTo, oCallV_e, decide_true, decide_false, Bool.not_true, Bool.not_false, List.getElem?_cons_zero, List.getElem?_cons_succ, List.cons_append, List.nil_append, cells_agg, cells_int, cells_slice, cells_bool, cells_ptr, ld1_u, ldN_u, st1_u, rdo_e, rdn_e, stw_e, anew_eq, Mem.push_next, Mem.put_next, Mem.rd_push, Mem.rd_push_eq, Mem.rd_push_lt, Mem.rd_put_eq, Mem.rd_put, List.take_zero, List.drop_zero, List.take_succ_cons, List.drop_succ_cons, List.drop_nil, List.take_nil, List.append_nil, List.length_cons, List.length_nil, Nat.zero_add, Nat.reduceAdd]
      repeat (rw [join_e]; try simp (disch := first | omega | with_unfolding_all exact id rfl | with_unfolding_all exact Nat.le_of_ble_eq_true rfl | (simp only [Mem.push_next, Mem.put_next, List.length_cons, List.length_nil, Nat.zero_add, Nat.reduceAdd, allOne, oneCell, Bool.and_self, Bool.and_true]; first | done | omega)) only [hA.rd, d1, hd1, hadd, ↓uc_e, ↓un0_e, oOpt_e, oRes_e, oIf_t, oIf_f, oGT_t, oGT_f, oGT_u, oGF_t, oGF_f, oGF_u, oPick_t, oPick_f, oInt_eql, oInt_neq, oInt_lss, oInt_leq, oInt_gtr, oInt_geq, aun_not, aextract_e, fa_e, abox_e, ptrTo, oCallV_e, decide_true, decide_false, Bool.not_true, Bool.not_false, List.getElem?_cons_zero, List.getElem?_cons_succ, List.cons_append, List.nil_append, cells_agg, cells_int, cells_slice, cells_bool, cells_ptr, ld1_u, ldN_u, st1_u, rdo_e, rdn_e, stw_e, anew_eq, Mem.push_next, Mem.put_next, Mem.rd_push, Mem.rd_push_eq, Mem.rd_push_lt, Mem.rd_put_eq, Mem.rd_put, List.take_zero, List.drop_zero, List.take_succ_cons, List.drop_succ_cons, List.drop_nil, List.take_nil, List.append_nil, List.length_cons, List.length_nil, Nat.zero_add, Nat.reduceAdd])
      refine hnone (if_neg fun h => c1 ?_)
      have h1 : a ∣ Nat.gcd a b := Nat.dvd_gcd (Nat.dvd_refl a) (Nat.dvd_of_mod_eq_zero h.1)
      rw [hg] at h1
      exact Nat.dvd_one.1 h1
  | succ n ih =>
    intro a b last N m k hL hn ha hab hg hb hla hlen hk
    rw [show N + (n + 1) + 5 = (N + n + 5) + 1 by omega, r58]; dsimp only [S58, iofNat, inegSucc]
    have g1 := Mem.gt_push m ⟨1, [.int .i64 (a : Int), .int .i64 (b : Int)], none⟩
    have hA : At (m.push ⟨1, [.int .i64 (a : Int), .int .i64 (b : Int)], none⟩) m.next [.int .i64 (a : Int), .int .i64 (b : Int)] := At.push m _
    rw [uc_e, uc_e, uc_e, un0_e, abox_e, oRes_e, cells_agg]
    generalize m.push ⟨1, [.int .i64 (a : Int), .int .i64 (b : Int)], none⟩ = m1 at g1 hA ⊢
    unfold ptrTo
    have g1n := g1.next
    have hb' : b ≤ 100000 := by
      have h1 : b * 2001 ≤ b * 2001 ^ (n + 1) := Nat.mul_le_mul_left _ (by rw [Nat.pow_succ]; have := Nat.pow_pos (n := n) (show 0 < 2001 by omega); omega)
      omega
    have hd1 : decide (((n + 1 + 1 : Nat) : Int) = 1) = false := decide_eq_false (by omega)
    have hadd : ∀ K : Value → Option Unit, oInt .add .i64 (.int .i64 (last : Int)) (.int .i64 1) K = K (.int .i64 ((last + 1 : Nat) : Int)) := fun K => by rw [oInt_add ⟨by omega, by omega⟩]; rfl
    try simp (disch := first | omega | with_unfolding_all exact id rfl | with_unfolding_all exact Nat.le_of_ble_eq_true rfl | (simp only [Mem.push_next, Mem.put_next, List.length_cons, List.length_nil, Nat.zero_add, Nat.reduceAdd, allOne, oneCell, Bool.and_self, Bool.and_true]; first | done | omega)) only [hd1, hadd, ↓uc_e, ↓un0_e, oOpt_e, oRes_e, oIf_t, oIf_f, oGT_t, oGT_f, oGT_u, oGF_t, oGF_f, oGF_u, oPick_t, oPick_f, oInt_eql, oInt_neq, oInt_lss, oInt_leq, oInt_gtr, oInt_geq, aun_not, aextract_e, fa_e, abox_e, ptrTo, oCallV_e, decide_true, decide_false, Bool.not_true, Bool.not_false, List.getElem?_cons_zero, List.getElem?_cons_succ, List.cons_append, List.nil_append, cells_agg, cells_int, cells_slice, cells_bool, cells_ptr, ld1_u, ldN_u, st1_u, rdo_e, rdn_e, stw_e, anew_eq, Mem.push_next, Mem.put_next, Mem.rd_push, Mem.rd_push_eq, Mem.rd_push_lt, Mem.rd_put_eq, Mem.rd_put, List.take_zero, List.drop_zero, List.take_succ_cons, List.drop_succ_cons, List.drop_nil, List.take_nil, List.append_nil, List.length_cons, List.length_nil, Nat.zero_add, Nat.reduceAdd]
    have hws := ways_succ n a b (last + 1)
    have hdl : ∀ p, b / a + 1 ≤ p ↔ b < p * a := fun p => Nat.div_lt_iff_lt_mul ha
    have hdiv : b / a ≤ b := Nat.div_le_self _ _
    generalize b / a = Q at hws hdl hdiv
    generalize ways (n + 1) a b (last + 1) = W at hk hws hlen
    refine loop_of (fun q vs m' => ∃ (p : Nat) (u : Value) (X : List (List Nat)), vs = [u, .int .i64 (p : Int)] ∧ q = 2001 - p ∧ Gt m1 m' ∧ LG m1.next m' u X ∧ W = X ++ tlW n a b (max p (Q + 1)))
      ?_ (n := 2001 - (last + 1)) ⟨last + 1, _, [], rfl, rfl, Gt.refl _, LG.nil (Nat.le_refl _), hws⟩ (by omega)
    rintro q vs m2 ⟨p, u, X, rfl, rfl, e2, hu, hW⟩ self hself
    have e2n := e2.next
    have hA2 := hA.mono e2
    have hlt := hA.lt
    have hstop : ¬ (p ≤ 2000 ∧ p * a < (n + 2) * b) → k u m2 = some () := fun hs => by
      rw [tlW_mono (Nat.le_max_left p (Q + 1)) hs, List.append_nil] at hW
      subst hW
      exact hk u m2 (g1.trans e2) (hu.le g1n)
    rw [uc_e, uc_e, oInt_leq]
    by_cases h1 : p ≤ 2000
    · have d1 : decide ((p : Int) ≤ 2000) = true := decide_eq_true (by omega)
      have hpa : p * a ≤ 2000 * 100000 := Nat.mul_le_mul h1 (by omega)
      have hpb : b * p ≤ 100000 * 2000 := Nat.mul_le_mul hb' h1
      have hnb : (n + 1 + 1) * b ≤ 4 * 100000 := Nat.mul_le_mul (by omega) hb'
      have hcm : a * p = p * a := Nat.mul_comm _ _
      have hnn : (n + 1 + 1) * b = (n + 2) * b := rfl
      have q4 : ∀ K : Value → Option Unit, oInt .mul .i64 (.int .i64 (p : Int)) (.int .i64 (a : Int)) K = K (.int .i64 ((p * a : Nat) : Int)) := fun K => oInt_mulN (by omega) K
      have q5 : ∀ K : Value → Option Unit, oInt .mul .i64 (.int .i64 ((n + 1 + 1 : Nat) : Int)) (.int .i64 (b : Int)) K = K (.int .i64 (((n + 1 + 1) * b : Nat) : Int)) := fun K => oInt_mulN (by omega) K
      have hstep : ∀ K : Value → Option Unit, oInt .add .i64 (.int .i64 (p : Int)) (.int .i64 1) K = K (.int .i64 ((p + 1 : Nat) : Int)) := fun K => by rw [oInt_add ⟨by omega, by omega⟩]; rfl
      by_cases h2 : p * a < (n + 2) * b
      · have d2 : decide (((p * a : Nat) : Int) < (((n + 1 + 1) * b : Nat) : Int)) = true := decide_eq_true (by omega)
        by_cases h3 : p * a ≤ b
        · have d3 : decide (((p * a : Nat) : Int) ≤ (b : Int)) = true := decide_eq_true (by omega)
          try simp (disch := first | omega | with_unfolding_all exact id rfl | with_unfolding_all exact Nat.le_of_ble_eq_true rfl | (simp only [Mem.push_next, Mem.put_next, List.length_cons, List.length_nil, Nat.zero_add, Nat.reduceAdd, allOne, oneCell, Bool.and_self, Bool.and_true]; first | done | omega)) only [hA2.rd, q4, q5, d1, d2, d3, ↓uc_e, ↓un0_e, oOpt_e, oRes_e, oIf_t, oIf_f, oGT_t, oGT_f, oGT_u, oGF_t, oGF_f, oGF_u, oPick_t, oPick_f, oInt_eql, oInt_neq, oInt_lss, oInt_leq, oInt_gtr, oInt_geq, aun_not, aextract_e, fa_e, abox_e, ptrTo, oCallV_e, decide_true, decide_false, Bool.not_true, Bool.not_false, List.getElem?_cons_zero, List.getElem?_cons_succ, List.cons_append, List.nil_append, cells_agg, cells_int, cells_slice, cells_bool, cells_ptr, ld1_u, ldN_u, st1_u, rdo_e, rdn_e, stw_e, anew_eq, Mem.push_next, Mem.put_next, Mem.rd_push, Mem.rd_push_eq, Mem.rd_push_lt, Mem.rd_put_eq, Mem.rd_put, List.take_zero, List.drop_zero, List.take_succ_cons, List.drop_succ_cons, List.drop_nil, List.take_nil, List.append_nil, List.length_cons, List.length_nil, Nat.zero_add, Nat.reduceAdd]
          repeat (rw [join_e]; try simp (disch := first | omega | with_unfolding_all exact id rfl | with_unfolding_all exact Nat.le_of_ble_eq_true rfl | (simp only [Mem.push_next, Mem.put_next, List.length_cons, List.length_nil, Nat.zero_add, Nat.reduceAdd, allOne, oneCell, Bool.and_self, Bool.and_true]; first | done | omega)) only [hA2.rd, q4, q5, d1, d2, d3, hstep, ↓uc_e, ↓un0_e, oOpt_e, oRes_e, oIf_t, oIf_f, oGT_t, oGT_f, oGT_u, oGF_t, oGF_f, oGF_u, oPick_t, oPick_f, oInt_eql, oInt_neq, oInt_lss, oInt_leq, oInt_gtr, oInt_geq, aun_not, aextract_e, fa_e, abox_e, ptrTo, oCallV_e, decide_true, decide_false, Bool.not_true, Bool.not_false, List.getElem?_cons_zero, List.getElem?_cons_succ, List.cons_append, List.nil_append, cells_agg, cells_int, cells_slice, cells_bool, cells_ptr, ld1_u, ldN_u, st1_u, rdo_e, rdn_e, stw_e, anew_eq, Mem.push_next, Mem.put_next, Mem.rd_push, Mem.rd_push_eq, Mem.rd_push_lt, Mem.rd_put_eq, Mem.rd_put, List.take_zero, List.drop_zero, List.take_succ_cons, List.drop_succ_cons, List.drop_nil, List.take_nil, List.append_nil, List.length_cons, List.length_nil, Nat.zero_add, Nat.reduceAdd])
          refine hself (2001 - (p + 1)) _ _ (by omega) ⟨p + 1, u, X, rfl, rfl, e2, hu, ?_⟩
          have h4 : ¬ Q + 1 ≤ p := fun h => by have := (hdl p).1 h; omega
          rw [hW, show max p (Q + 1) = max (p + 1) (Q + 1) by omega]
        · have d3 : decide (((p * a : Nat) : Int) ≤ (b : Int)) = false := decide_eq_false (by omega)
          have q9 : ∀ K : Value → Option Unit, oInt .sub .i64 (.int .i64 ((n + 1 + 1 : Nat) : Int)) (.int .i64 1) K = K (.int .i64 ((n + 1 : Nat) : Int)) := fun K => by rw [oInt_sub ⟨by omega, by omega⟩, show ((n + 1 + 1 : Nat) : Int) - 1 = ((n + 1 : Nat) : Int) by omega]
          have hp0 : 0 < p := Nat.pos_of_ne_zero fun e => by subst e; simp at h3
          have hbp0 : 0 < b * p := Nat.mul_pos (by omega) hp0
          have h60 : (2 : Nat) ^ 60 = 1152921504606846976 := by decide
          try simp (disch := first | omega | with_unfolding_all exact id rfl | with_unfolding_all exact Nat.le_of_ble_eq_true rfl | (simp only [Mem.push_next, Mem.put_next, List.length_cons, List.length_nil, Nat.zero_add, Nat.reduceAdd, allOne, oneCell, Bool.and_self, Bool.and_true]; first | done | omega)) only [hA2.rd, q4, q5, d1, d2, d3, ↓uc_e, ↓un0_e, oOpt_e, oRes_e, oIf_t, oIf_f, oGT_t, oGT_f, oGT_u, oGF_t, oGF_f, oGF_u, oPick_t, oPick_f, oInt_eql, oInt_neq, oInt_lss, oInt_leq, oInt_gtr, oInt_geq, aun_not, aextract_e, fa_e, abox_e, ptrTo, oCallV_e, decide_true, decide_false, Bool.not_true, Bool.not_false, List.getElem?_cons_zero, List.getElem?_cons_succ, List.cons_append, List.nil_append, cells_agg, cells_int, cells_slice, cells_bool, cells_ptr, ld1_u, ldN_u, st1_u, rdo_e, rdn_e, stw_e, anew_eq, Mem.push_next, Mem.put_next, Mem.rd_push, Mem.rd_push_eq, Mem.rd_push_lt, Mem.rd_put_eq, Mem.rd_put, List.take_zero, List.drop_zero, List.take_succ_cons, List.drop_succ_cons, List.drop_nil, List.take_nil, List.append_nil, List.length_cons, List.length_nil, Nat.zero_add, Nat.reduceAdd]
          repeat (rw [join_e]; try simp (disch := first | omega | with_unfolding_all exact id rfl | with_unfolding_all exact Nat.le_of_ble_eq_true rfl | (simp only [Mem.push_next, Mem.put_next, List.length_cons, List.length_nil, Nat.zero_add, Nat.reduceAdd, allOne, oneCell, Bool.and_self, Bool.and_true]; first | done | omega)) only [hA2.rd, q4, q5, d1, d2, d3, ↓uc_e, ↓un0_e, oOpt_e, oRes_e, oIf_t, oIf_f, oGT_t, oGT_f, oGT_u, oGF_t, oGF_f, oGF_u, oPick_t, oPick_f, oInt_eql, oInt_neq, oInt_lss, oInt_leq, oInt_gtr, oInt_geq, aun_not, aextract_e, fa_e, abox_e, ptrTo, oCallV_e, decide_true, decide_false, Bool.not_true, Bool.not_false, List.getElem?_cons_zero, List.getElem?_cons_succ, List.cons_append, List.nil_append, cells_agg, cells_int, cells_slice, cells_bool, cells_ptr, ld1_u, ldN_u, st1_u, rdo_e, rdn_e, stw_e, anew_eq, Mem.push_next, Mem.put_next, Mem.rd_push, Mem.rd_push_eq, Mem.rd_push_lt, Mem.rd_put_eq, Mem.rd_put, List.take_zero, List.drop_zero, List.take_succ_cons, List.drop_succ_cons, List.drop_nil, List.take_nil, List.append_nil, List.length_cons, List.length_nil, Nat.zero_add, Nat.reduceAdd])
          refine less_sp hlf (by omega) (by omega) (by omega) (by omega) hbp0 fun m3 e3 => ?_
          have e3n := e3.next
          have hV := ways_red (a := a * p - b) (b := b * p) n (p + 1) hbp0
          have hgr := gcd_red (a := a * p - b) (b := b * p) hbp0
          have hgp : 0 < Nat.gcd (a * p - b) (b * p) := Nat.gcd_pos_of_pos_right _ hbp0
          have ha2 : 0 < (a * p - b) / Nat.gcd (a * p - b) (b * p) := Nat.div_pos (Nat.le_of_dvd (by omega) (Nat.gcd_dvd_left _ _)) hgp
          have hab2 : a * p ≤ b * p := Nat.mul_le_mul_right _ hab
          have hab3 : (a * p - b) / Nat.gcd (a * p - b) (b * p) ≤ b * p / Nat.gcd (a * p - b) (b * p) := Nat.div_le_div_right (by omega)
          have hb2 : b * p / Nat.gcd (a * p - b) (b * p) ≤ b * p := Nat.div_le_self _ _
          have hW4 : bodyW n a b p = (ways n (a * p - b) (b * p) (p + 1)).map (p :: ·) := if_pos h2
          have hbound : b * p / Nat.gcd (a * p - b) (b * p) * 2001 ^ n ≤ 200000000 := by
            rw [Nat.pow_succ] at hb
            have h8 : b * p / Nat.gcd (a * p - b) (b * p) * 2001 ^ n ≤ b * 2001 * 2001 ^ n := Nat.mul_le_mul_right _ (Nat.le_trans hb2 (Nat.mul_le_mul_left _ (by omega)))
            have h9 : b * 2001 * 2001 ^ n = b * (2001 ^ n * 2001) := by rw [Nat.mul_assoc, Nat.mul_comm 2001]
            omega
          have hwl : ∀ x ∈ ways n (a * p - b) (b * p) (p + 1), x.length = n + 1 := fun x hx => ways_len hx
          have hQp : Q + 1 ≤ p := (hdl p).2 (by omega)
          rw [show max p (Q + 1) = p by omega, tlW_step h1, hW4, ← List.append_assoc] at hW
          rw [← hV] at hW hwl
          generalize (a * p - b) / Nat.gcd (a * p - b) (b * p) = a2 at *
          generalize b * p / Nat.gcd (a * p - b) (b * p) = b2 at *
          have hVl : (ways n a2 b2 (p + 1)).length < 1000000 ∧ X.length + (ways n a2 b2 (p + 1)).length < 1000000 := by
            have := congrArg List.length hW
            rw [List.length_append, List.length_append, List.length_map] at this
            omega
          try simp (disch := first | omega | with_unfolding_all exact id rfl | with_unfolding_all exact Nat.le_of_ble_eq_true rfl | (simp only [Mem.push_next, Mem.put_next, List.length_cons, List.length_nil, Nat.zero_add, Nat.reduceAdd, allOne, oneCell, Bool.and_self, Bool.and_true]; first | done | omega)) only [q9, ↓uc_e, ↓un0_e, oOpt_e, oRes_e, oIf_t, oIf_f, oGT_t, oGT_f, oGT_u, oGF_t, oGF_f, oGF_u, oPick_t, oPick_f, oInt_eql, oInt_neq, oInt_lss, oInt_leq, oInt_gtr, oInt_geq, aun_not, aextract_e, fa_e, abox_e, ptrTo, oCallV_e, decide_true, decide_false, Bool.not_true, Bool.not_false, List.getElem?_cons_zero, List.getElem?_cons_succ, List.cons_append, List.nil_append, cells_agg, cells_int, cells_slice, cells_bool, cells_ptr, ld1_u, ldN_u, st1_u, rdo_e, rdn_e, stw_e, anew_eq, Mem.push_next, Mem.put_next, Mem.rd_push, Mem.rd_push_eq, Mem.rd_push_lt, Mem.rd_put_eq, Mem.rd_put, List.take_zero, List.drop_zero, List.take_succ_cons, List.drop_succ_cons, List.drop_nil, List.take_nil, List.append_nil, List.length_cons, List.length_nil, Nat.zero_add, Nat.reduceAdd]
          refine ih (m := m3) (by omega) (by omega) ha2 hab3 hgr hbound h1 hVl.1 fun w m4 e4 hw => ?_
          have e4n := e4.next
          generalize ways n a2 b2 (p + 1) = V at *
          have hul : ∀ c, bid u = some c → c < m2.next := fun c hc => (hu.lr.choose_spec.2.1 c hc).2
          try simp (disch := first | omega | with_unfolding_all exact id rfl | with_unfolding_all exact Nat.le_of_ble_eq_true rfl | (simp only [Mem.push_next, Mem.put_next, List.length_cons, List.length_nil, Nat.zero_add, Nat.reduceAdd, allOne, oneCell, Bool.and_self, Bool.and_true]; first | done | omega)) only [↓uc_e, ↓un0_e, oOpt_e, oRes_e, oIf_t, oIf_f, oGT_t, oGT_f, oGT_u, oGF_t, oGF_f, oGF_u, oPick_t, oPick_f, oInt_eql, oInt_neq, oInt_lss, oInt_leq, oInt_gtr, oInt_geq, aun_not, aextract_e, fa_e, abox_e, ptrTo, oCallV_e, decide_true, decide_false, Bool.not_true, Bool.not_false, List.getElem?_cons_zero, List.getElem?_cons_succ, List.cons_append, List.nil_append, cells_agg, cells_int, cells_slice, cells_bool, cells_ptr, ld1_u, ldN_u, st1_u, rdo_e, rdn_e, stw_e, anew_eq, Mem.push_next, Mem.put_next, Mem.rd_push, Mem.rd_push_eq, Mem.rd_push_lt, Mem.rd_put_eq, Mem.rd_put, List.take_zero, List.drop_zero, List.take_succ_cons, List.drop_succ_cons, List.drop_nil, List.take_nil, List.append_nil, List.length_cons, List.length_nil, Nat.zero_add, Nat.reduceAdd]
          refine loop_up V.length (fun i vs m' => ∃ out, vs = [out, .int .i64 (i : Int)] ∧ Gt m1 m' ∧ m4.next ≤ m'.next ∧ LG m1.next m' out (X ++ (V.take i).map (p :: ·)) ∧ LR m' w V m3.next m4.next ∧ (∀ c, bid out = some c → c < m3.next ∨ m4.next ≤ c))
            (by omega) ⟨u, rfl, (e2.trans e3).trans e4, Nat.le_refl _, by rw [List.take_zero, List.map_nil, List.append_nil]; exact (hu.mono e3).mono e4, hw.lr, fun c hc => .inl (by have := hul c hc; omega)⟩ ?_
          rintro i vs m5 hi ⟨out, rfl, e5, hn5, hout, hw5, hob⟩ self2 hself2
          have e5n := e5.next
          try simp (disch := first | omega | with_unfolding_all exact id rfl | with_unfolding_all exact Nat.le_of_ble_eq_true rfl | (simp only [Mem.push_next, Mem.put_next, List.length_cons, List.length_nil, Nat.zero_add, Nat.reduceAdd, allOne, oneCell, Bool.and_self, Bool.and_true]; first | done | omega)) only [hw5.ln, ↓uc_e, ↓un0_e, oOpt_e, oRes_e, oIf_t, oIf_f, oGT_t, oGT_f, oGT_u, oGF_t, oGF_f, oGF_u, oPick_t, oPick_f, oInt_eql, oInt_neq, oInt_lss, oInt_leq, oInt_gtr, oInt_geq, aun_not, aextract_e, fa_e, abox_e, ptrTo, oCallV_e, decide_true, decide_false, Bool.not_true, Bool.not_false, List.getElem?_cons_zero, List.getElem?_cons_succ, List.cons_append, List.nil_append, cells_agg, cells_int, cells_slice, cells_bool, cells_ptr, ld1_u, ldN_u, st1_u, rdo_e, rdn_e, stw_e, anew_eq, Mem.push_next, Mem.put_next, Mem.rd_push, Mem.rd_push_eq, Mem.rd_push_lt, Mem.rd_put_eq, Mem.rd_put, List.take_zero, List.drop_zero, List.take_succ_cons, List.drop_succ_cons, List.drop_nil, List.take_nil, List.append_nil, List.length_cons, List.length_nil, Nat.zero_add, Nat.reduceAdd]
          refine oIf_dec (fun hlt2 => ?_) (fun hlt2 => ?_)
          · have hil : i < V.length := by omega
            have hb30 := bs30 m5 (p : Int)
            have gp := Mem.gt_push m5 ⟨1, [.int .i64 (p : Int)], none⟩
            have hw6 : LR (m5.push ⟨1, [.int .i64 (p : Int)], none⟩) w V m3.next m4.next := hw5.keep fun c _ hc => gp.kept c (by omega)
            obtain ⟨v, k1, k2, k3⟩ := hw6.ld hil
            have hvl := hwl _ (List.getElem_mem hil)
            obtain ⟨x1, m7, f1, f2, f3⟩ := cons_app (L := L) (x := p) (by omega) k2 (by omega) (by omega)
            have f3n := f3.next
            have hbx : ∀ c, bid x1 = some c → m5.next ≤ c ∧ c < m7.next := fun c hc => ⟨f2.fr c hc, Sl.bid_lt f2.inn (by rw [ci_length, List.length_cons]; omega) c hc⟩
            have hol : ∀ c, bid out = some c → c < m5.next := fun c hc => (hout.lr.choose_spec.2.1 c hc).2
            have hXl : (X ++ (V.take i).map (p :: ·)).length < 1000000 := by
              rw [List.length_append, List.length_map, List.length_take]; omega
            obtain ⟨x2, m8, j1, j2, j3, j4, j5, j6⟩ := LG.snoc (L := L) (m0 := m1) (hout.mono f3) f2.inn (fun c hc => by have := hbx c hc; omega) (fun c hc hc2 => by have := hbx c hc; have := hol c hc2; omega) hXl (by omega) (e5.trans f3) (Nat.le_refl _)
            have hb88 : bs Tryd.prog m7 88 1 [(0, x1)] = some (slTo 1 m7.next, m7.push ⟨1, [x1], none⟩) := by
              obtain ⟨p', c', hx1⟩ := f2.ex
              rw [hx1]
              exact bs88 m7 _ _ _
            have hia := hw5.ia hil
            rw [hb30, oRes_e, hia, oOpt_e, k1, oOpt_e, f1, oRes_e, hb88, oRes_e, j1, oRes_e, oInt_add ⟨by omega, by omega⟩]
            refine hself2 hil _ _ ⟨x2, rfl, j3, by omega, ?_, hw5.keep fun c h8 h9 => ?_, fun c hc => .inr (by have := j4 c hc; omega)⟩
            · rw [take_snocL hil, List.map_append, ← List.append_assoc]
              exact j2
            · rw [j6 c (by omega) (fun hc2 => by have := hob c hc2; omega), f3.kept c (by omega)]
          · have hie : i = V.length := by omega
            subst hie
            rw [List.take_length] at hout
            try simp (disch := first | omega | with_unfolding_all exact id rfl | with_unfolding_all exact Nat.le_of_ble_eq_true rfl | (simp only [Mem.push_next, Mem.put_next, List.length_cons, List.length_nil, Nat.zero_add, Nat.reduceAdd, allOne, oneCell, Bool.and_self, Bool.and_true]; first | done | omega)) only [hstep, ↓uc_e, ↓un0_e, oOpt_e, oRes_e, oIf_t, oIf_f, oGT_t, oGT_f, oGT_u, oGF_t, oGF_f, oGF_u, oPick_t, oPick_f, oInt_eql, oInt_neq, oInt_lss, oInt_leq, oInt_gtr, oInt_geq, aun_not, aextract_e, fa_e, abox_e, ptrTo, oCallV_e, decide_true, decide_false, Bool.not_true, Bool.not_false, List.getElem?_cons_zero, List.getElem?_cons_succ, List.cons_append, List.nil_append, cells_agg, cells_int, cells_slice, cells_bool, cells_ptr, ld1_u, ldN_u, st1_u, rdo_e, rdn_e, stw_e, anew_eq, Mem.push_next, Mem.put_next, Mem.rd_push, Mem.rd_push_eq, Mem.rd_push_lt, Mem.rd_put_eq, Mem.rd_put, List.take_zero, List.drop_zero, List.take_succ_cons, List.drop_succ_cons, List.drop_nil, List.take_nil, List.append_nil, List.length_cons, List.length_nil, Nat.zero_add, Nat.reduceAdd]
            exact hself (2001 - (p + 1)) _ _ (by omega) ⟨p + 1, out, X ++ V.map (p :: ·), rfl, rfl, e5, hout, by rw [show max (p + 1) (Q + 1) = p + 1 by omega]; exact hW⟩
      · have d2 : decide (((p * a : Nat) : Int) < (((n + 1 + 1) * b : Nat) : Int)) = false := decide_eq_false (by omega)
        try simp (disch := first | omega | with_unfolding_all exact id rfl | with_unfolding_all exact Nat.le_of_ble_eq_true rfl | (simp only [Mem.push_next, Mem.put_next, List.length_cons, List.length_nil, Nat.zero_add, Nat.reduceAdd, allOne, oneCell, Bool.and_self, Bool.and_true]; first | done | omega)) only [hA2.rd, q4, q5, d1, d2, ↓uc_e, ↓un0_e, oOpt_e, oRes_e, oIf_t, oIf_f, oGT_t, oGT_f, oGT_u, oGF_t, oGF_f, oGF_u, oPick_t, oPick_f, oInt_eql, oInt_neq, oInt_lss, oInt_leq, oInt_gtr, oInt_geq, aun_not, aextract_e, fa_e, abox_e, ptrTo, oCallV_e, decide_true, decide_false, Bool.not_true, Bool.not_false, List.getElem?_cons_zero, List.getElem?_cons_succ, List.cons_append, List.nil_append, cells_agg, cells_int, cells_slice, cells_bool, cells_ptr, ld1_u, ldN_u, st1_u, rdo_e, rdn_e, stw_e, anew_eq, Mem.push_next, Mem.put_next, Mem.rd_push, Mem.rd_push_eq, Mem.rd_push_lt, Mem.rd_put_eq, Mem.rd_put, List.take_zero, List.drop_zero, List.take_succ_cons, List.drop_succ_cons, List.drop_nil, List.take_nil, List.append_nil, List.length_cons, List.length_nil, Nat.zero_add, Nat.reduceAdd]
        repeat (rw [join_e]; try simp (disch := first | omega | with_unfolding_all exact id rfl | with_unfolding_all exact Nat.le_of_ble_eq_true rfl | (simp only [Mem.push_next, Mem.put_next, List.length_cons, List.length_nil, Nat.zero_add, Nat.reduceAdd, allOne, oneCell, Bool.and_self, Bool.and_true]; first | done | omega)) only [hA2.rd, q4, q5, d1, d2, ↓uc_e, ↓un0_e, oOpt_e, oRes_e, oIf_t, oIf_f, oGT_t, oGT_f, oGT_u, oGF_t, oGF_f, oGF_u, oPick_t, oPick_f, oInt_eql, oInt_neq, oInt_lss, oInt_leq, oInt_gtr, oInt_geq, aun_not, aextract_e, fa_e, abox_e, ptrTo, oCallV_e, decide_true, decide_false, Bool.not_true, Bool.not_false, List.getElem?_cons_zero, List.getElem?_cons_succ, List.cons_append, List.nil_append, cells_agg, cells_int, cells_slice, cells_bool, cells_ptr, ld1_u, ldN_u, st1_u, rdo_e, rdn_e, stw_e, anew_eq, Mem.push_next, Mem.put_next, Mem.rd_push, Mem.rd_push_eq, Mem.rd_push_lt, Mem.rd_put_eq, Mem.rd_put, List.take_zero, List.drop_zero, List.take_succ_cons, List.drop_succ_cons, List.drop_nil, List.take_nil, List.append_nil, List.length_cons, List.length_nil, Nat.zero_add, Nat.reduceAdd])
        exact hstop fun h => h2 h.2
    · have d1 : decide ((p : Int) ≤ 2000) = false := decide_eq_false (by omega)
      try simp (disch := first | omega | with_unfolding_all exact id rfl | with_unfolding_all exact Nat.le_of_ble_eq_true rfl | (simp only [Mem.push_next, Mem.put_next, List.length_cons, List.length_nil, Nat.zero_add, Nat.reduceAdd, allOne, oneCell, Bool.and_self, Bool.and_true]; first | done | omega)) only [d1, ↓uc_e, ↓un0_e, oOpt_e, oRes_e, oIf_t, oIf_f, oGT_t, oGT_f, oGT_u, oGF_t, oGF_f, oGF_u, oPick_t, oPick_f, oInt_eql, oInt_neq, oInt_lss, oInt_leq, oInt_gtr, oInt_geq, aun_not, aextract_e, fa_e, abox_e, ptrTo, oCallV_e, decide_true, decide_false, Bool.not_true, Bool.not_false, List.getElem?_cons_zero, List.getElem?_cons_succ, List.cons_append, List.nil_append, cells_agg, cells_int, cells_slice, cells_bool, cells_ptr, ld1_u, ldN_u, st1_u, rdo_e, rdn_e, stw_e, anew_eq, Mem.push_next, Mem.put_next, Mem.rd_push, Mem.rd_push_eq, Mem.rd_push_lt, Mem.rd_put_eq, Mem.rd_put, List.take_zero, List.drop_zero, List.take_succ_cons, List.drop_succ_cons, List.drop_nil, List.take_nil, List.append_nil, List.length_cons, List.length_nil, Nat.zero_add, Nat.reduceAdd]
      repeat (rw [join_e]; try simp (disch := first | omega | with_unfolding_all exact id rfl | with_unfolding_all exact Nat.le_of_ble_eq_true rfl | (simp only [Mem.push_next, Mem.put_next, List.length_cons, List.length_nil, Nat.zero_add, Nat.reduceAdd, allOne, oneCell, Bool.and_self, Bool.and_true]; first | done | omega)) only [d1, ↓uc_e, ↓un0_e, oOpt_e, oRes_e, oIf_t, oIf_f, oGT_t, oGT_f, oGT_u, oGF_t, oGF_f, oGF_u, oPick_t, oPick_f, oInt_eql, oInt_neq, oInt_lss, oInt_leq, oInt_gtr, oInt_geq, aun_not, aextract_e, fa_e, abox_e, ptrTo, oCallV_e, decide_true, decide_false, Bool.not_true, Bool.not_false, List.getElem?_cons_zero, List.getElem?_cons_succ, List.cons_append, List.nil_append, cells_agg, cells_int, cells_slice, cells_bool, cells_ptr, ld1_u, ldN_u, st1_u, rdo_e, rdn_e, stw_e, anew_eq, Mem.push_next, Mem.put_next, Mem.rd_push, Mem.rd_push_eq, Mem.rd_push_lt, Mem.rd_put_eq, Mem.rd_put, List.take_zero, List.drop_zero, List.take_succ_cons, List.drop_succ_cons, List.drop_nil, List.take_nil, List.append_nil, List.length_cons, List.length_nil, Nat.zero_add, Nat.reduceAdd])
      exact hstop fun h => h1 h.1
end
end Go.Vit
