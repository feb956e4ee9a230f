/- The law DutyFew, walked. -/
import Derived.Test.YtcaoifacidnhcaaDoorDutyFewTail
import Derived.Test.YtcaoifacidnhcaaDoorVitAA
set_option linter.unusedSimpArgs false
set_option linter.unusedVariables false
set_option maxRecDepth 20000
namespace Go.Vit
open Go Go.Proofs
attribute [local irreducible] runT loopS
section
variable {lf n L : Nat} {m : Mem} {k : Value → Mem → Option Unit}
theorem found_any {cb fb cnt : Nat} {c : Bool} {es : List (Nat × Value)} {w : List Nat} {G : Nat → List (List Nat)} {jb : List Value → Mem → Option Unit}
    (hLc : L ≤ cb) (hLf : L ≤ fb) (hcf : cb ≠ fb) (hcn : cb < m.next) (hfn : fb < m.next) (hs : FSl cb fb m G)
    (hbs : c = true → bs Tryd.prog m 30 cnt es = some (slTo w.length m.next, m.push ⟨1, (ci w).map (Value.int .i64), none⟩)) (h1 : 1 ≤ w.length) (h3 : w.length ≤ 3) (hw : c = true → ∀ p ∈ w, p < 1000000000) (hG : (G w.length).length < 1000000)
    (hk : ∀ m', GtC cb fb m m' → FSl cb fb m' (if c then addG G w else G) → jb [] m' = some ()) :
    join jb (fun j => oIf (.bool c) (oRes (bs Tryd.prog m 30 cnt es) fun t98 m99 => oCallV (runT (tab lf) (n + 1)) (.func (.func 49) #[] ⟨[.pointer (some ⟨cb, 0, none⟩), .pointer (some ⟨fb, 0, none⟩)]⟩) [t98] L m99 fun t100 m101 => j [] m101) (j [] m)) = some () := by
  rw [join_e]
  cases c with
  | false =>
    rw [oIf_f]
    exact hk m (GtC.of (Gt.refl m)) hs
  | true =>
    have gp := Mem.gt_push m ⟨1, (ci w).map (Value.int .i64), none⟩
    have hv : GN m.next (m.push ⟨1, (ci w).map (Value.int .i64), none⟩) (slTo w.length m.next) w := by
      refine .inr ⟨m.next, Nat.le_refl _, ?_, Mem.rd_push _ _, ?_, ?_⟩
      · rw [ci_length]; rfl
      · rw [List.length_map, Nat.mul_one]
      · rw [ci_length]; omega
    rw [oIf_t, hbs rfl, oRes_e, oCallV_e]
    refine found_sp hLc hLf hcf (hv.le (Nat.zero_le _)) h1 h3 (fun e => by have := hv.fr _ e; omega) (fun e => by have := hv.fr _ e; omega) (hw rfl) (hs.mono gp) hG fun m' e' hs' => ?_
    exact hk m' ((GtC.of gp).trans e') hs'
theorem found_any2 {cb fb cnt : Nat} {c : Bool} {es : List (Nat × Value)} {w : List Nat} {G : Nat → List (List Nat)} {jb : List Value → Mem → Option Unit}
    (hLc : L ≤ cb) (hLf : L ≤ fb) (hcf : cb ≠ fb) (hcn : cb < m.next) (hfn : fb < m.next) (hs : FSl cb fb m G)
    (hbs : c = true → bs Tryd.prog m 30 cnt es = some (slTo w.length m.next, m.push ⟨1, (ci w).map (Value.int .i64), none⟩)) (h1 : 1 ≤ w.length) (h3 : w.length ≤ 3) (hw : c = true → ∀ p ∈ w, p < 1000000000) (hG : (G w.length).length < 1000000)
    (hk : ∀ m', GtC cb fb m m' → FSl cb fb m' (if c then addG G w else G) → jb [] m' = some ()) :
    join jb (fun j => oIf (.bool c) (oRes (bs Tryd.prog m 30 cnt es) fun t98 m99 => runT (tab lf) (n + 1) 49 [t98, .pointer (some ⟨cb, 0, none⟩), .pointer (some ⟨fb, 0, none⟩)] L m99 fun t100 m101 => j [] m101) (j [] m)) = some () :=
  found_any (n := n) hLc hLf hcf hcn hfn hs hbs h1 h3 hw hG hk
theorem found_join {cb fb cnt x : Nat} {y : Int} {c1 : Bool} {es : List (Nat × Value)} {w : List Nat} {G : Nat → List (List Nat)} {jb : List Value → Mem → Option Unit}
    (hLc : L ≤ cb) (hLf : L ≤ fb) (hcf : cb ≠ fb) (hcn : cb < m.next) (hfn : fb < m.next) (hs : FSl cb fb m G)
    (hbs : c1 = true → bs Tryd.prog m 30 cnt es = some (slTo w.length m.next, m.push ⟨1, (ci w).map (Value.int .i64), none⟩)) (h1 : 1 ≤ w.length) (h3 : w.length ≤ 3) (hw : c1 = true → ∀ p ∈ w, p < 1000000000) (hG : (G w.length).length < 1000000)
    (hk : ∀ m', GtC cb fb m m' → FSl cb fb m' (if c1 = true ∧ (x : Int) < y then addG G w else G) → jb [] m' = some ()) :
    join (fun l55 m56 => uc l55 fun t58 l59 => oPick (.bool c1) t58 (.bool false) fun t60 =>
      join jb fun j63 => oIf t60 (oRes (bs Tryd.prog m56 30 cnt es) fun t106 m107 => runT (tab lf) (n + 1) 49 [t106, .pointer (some ⟨cb, 0, none⟩), .pointer (some ⟨fb, 0, none⟩)] L m107 fun t108 m109 => j63 [] m109) (j63 [] m56))
      (fun j57 => oGT (.bool c1) (j57 [.bool (decide ((x : Int) < y))] m) (j57 [Go.undef] m)) = some () := by
  rw [join_e]
  cases c1 with
  | false =>
    rw [oGT_f]
    simp only [uc_e, oPick_f]
    exact found_any2 (n := n) (c := false) (cnt := cnt) (es := es) (w := w) hLc hLf hcf hcn hfn hs (fun h => by cases h) h1 h3 (fun h => by cases h) hG fun m' e' h' => hk m' e' (by simpa using h')
  | true =>
    rw [oGT_t]
    by_cases h : (x : Int) < y
    · rw [decide_eq_true h]
      simp only [uc_e, oPick_t]
      exact found_any2 (n := n) (c := true) (cnt := cnt) (es := es) (w := w) hLc hLf hcf hcn hfn hs (fun _ => hbs rfl) h1 h3 (fun _ => hw rfl) hG fun m' e' h' => hk m' e' (by simpa [h] using h')
    · rw [decide_eq_false h]
      simp only [uc_e, oPick_t]
      exact found_any2 (n := n) (c := false) (cnt := cnt) (es := es) (w := w) hLc hLf hcf hcn hfn hs (fun h => by cases h) h1 h3 (fun h => by cases h) hG fun m' e' h' => hk m' e' (by simpa [h] using h')
theorem ci1 (x : Nat) : (ci [x]).map (Value.int .i64) = [.int .i64 (x : Int)] := rfl
theorem ci2 (x y : Nat) : (ci [x, y]).map (Value.int .i64) = [.int .i64 (x : Int), .int .i64 (y : Int)] := rfl
theorem ci3 (x y z : Nat) : (ci [x, y, z]).map (Value.int .i64) = [.int .i64 (x : Int), .int .i64 (y : Int), .int .i64 (z : Int)] := rfl
theorem few_sp {p q : Nat} (hlf : 1000000 ≤ lf) (hT : TabOk mTab m) (hL : L ≤ m.next) (hp : p < 256) (hq : q < 256) (hk : ∀ m', k (.bool true) m' = some ()) :
    runT (tab lf) (n + 107) 10 [.agg ⟨[.int .u8 (p : Int), .int .u8 (q : Int)]⟩] L m k = some () := by
  rw [r10]; dsimp only [S10, iofNat, inegSucc]
  have g1 := Mem.gt_push m ⟨1, [.int .u8 (p : Int), .int .u8 (q : Int)], none⟩
  have hA : At (m.push ⟨1, [.int .u8 (p : Int), .int .u8 (q : Int)], none⟩) m.next [.int .u8 (p : Int), .int .u8 (q : Int)] := At.push m _
  rw [uc_e, un0_e, abox_e, oRes_e, cells_agg]
  generalize m.push ⟨1, [.int .u8 (p : Int), .int .u8 (q : Int)], none⟩ = m1 at g1 hA ⊢
  unfold ptrTo
  have g1n := g1.next
  rw [ldN_u, hA.rd, show rdn (some ⟨1, [.int .u8 (p : Int), .int .u8 (q : Int)], none⟩) 0 2 = some (.agg ⟨[.int .u8 (p : Int), .int .u8 (q : Int)]⟩) from rfl, oOpt_e]
  refine part_sp (by omega) hp hq fun A B m2 hf e2 => ?_
  have e2n := e2.next
  obtain ⟨f1, f2, f3⟩ := id hf
  have hA0 : 0 < A := by omega
  have hAB : A < B := by omega
  have hB30 : B ≤ 30 := by omega
  unfold frV
  rw [anew_eq, oRes_e]
  try dsimp only
  have g3 : Gt m2 ((m2.push ⟨1, [.int .i64 0, .int .i64 0], none⟩).put m2.next (some ⟨1, [.int .i64 (A : Int), .int .i64 (B : Int)], none⟩)) := Mem.put_gt (Mem.gt_push _ _) _ (Nat.le_refl _)
  have hB3 : At ((m2.push ⟨1, [.int .i64 0, .int .i64 0], none⟩).put m2.next (some ⟨1, [.int .i64 (A : Int), .int .i64 (B : Int)], none⟩)) m2.next [.int .i64 (A : Int), .int .i64 (B : Int)] := Mem.rd_put_eq _ _ (by rw [Mem.push_next]; omega)
  have hst : st1 2 L (m2.push ⟨1, [.int .i64 0, .int .i64 0], none⟩) (.pointer (some ⟨m2.next, 0, none⟩)) (.agg ⟨[.int .i64 (A : Int), .int .i64 (B : Int)]⟩) = some (Go.undef, (m2.push ⟨1, [.int .i64 0, .int .i64 0], none⟩).put m2.next (some ⟨1, [.int .i64 (A : Int), .int .i64 (B : Int)], none⟩)) := by
    try simp (disch := first | omega | with_unfolding_all exact id rfl | with_unfolding_all exact Nat.le_of_ble_eq_true rfl | (simp only [Mem.push_next, Mem.put_next, List.length_cons, List.length_nil, Nat.zero_add, Nat.reduceAdd, allOne, oneCell, Bool.and_self, Bool.and_true]; first | done | omega)) only [↓uc_e, ↓un0_e, ↓join_e, oOpt_e, oRes_e, oIf_t, oIf_f, oGT_t, oGT_f, oGT_u, oGF_t, oGF_f, oGF_u, oPick_t, oPick_f, oInt_eql, oInt_neq, oInt_lss, oInt_leq, oInt_gtr, oInt_geq, aun_not, aextract_e, fa_e, abox_e, ptrTo, oCallV_e, decide_true, decide_false, Bool.not_true, Bool.not_false, List.getElem?_cons_zero, List.getElem?_cons_succ, List.cons_append, List.nil_append, cells_agg, cells_int, cells_slice, cells_bool, cells_ptr, ld1_u, ldN_u, st1_u, rdo_e, rdn_e, stw_e, anew_eq, Mem.push_next, Mem.put_next, Mem.rd_push, Mem.rd_push_eq, Mem.rd_push_lt, Mem.rd_put_eq, Mem.rd_put, List.take_zero, List.drop_zero, List.take_succ_cons, List.drop_succ_cons, List.drop_nil, List.take_nil, List.append_nil, List.length_cons, List.length_nil, Nat.zero_add, Nat.reduceAdd]
  rw [hst, oRes_e]
  generalize (m2.push ⟨1, [.int .i64 0, .int .i64 0], none⟩).put m2.next (some ⟨1, [.int .i64 (A : Int), .int .i64 (B : Int)], none⟩) = m3 at g3 hB3 ⊢
  have hlt3 := hB3.lt
  rw [anew_eq, oRes_e]
  try dsimp only
  have g4 := Mem.gt_push m3 ⟨1, [.int .i64 0, .int .i64 0, .int .i64 0, .int .i64 0], none⟩
  have hC4 : At (m3.push ⟨1, [.int .i64 0, .int .i64 0, .int .i64 0, .int .i64 0], none⟩) m3.next [.int .i64 0, .int .i64 0, .int .i64 0, .int .i64 0] := At.push _ _
  generalize m3.push ⟨1, [.int .i64 0, .int .i64 0, .int .i64 0, .int .i64 0], none⟩ = m4 at g4 hC4 ⊢
  have hlt4 := hC4.lt
  rw [anew_eq, oRes_e]
  try dsimp only
  have g5 := Mem.gt_push m4 ⟨1, [.slice none 0 0, .slice none 0 0, .slice none 0 0, .slice none 0 0], none⟩
  have hF5 : At (m4.push ⟨1, [.slice none 0 0, .slice none 0 0, .slice none 0 0, .slice none 0 0], none⟩) m4.next [.slice none 0 0, .slice none 0 0, .slice none 0 0, .slice none 0 0] := At.push _ _
  generalize m4.push ⟨1, [.slice none 0 0, .slice none 0 0, .slice none 0 0, .slice none 0 0], none⟩ = m5 at g5 hF5 ⊢
  have hlt5 := hF5.lt
  have g4n := g4.next
  have g3n := g3.next
  have hB5 := (hB3.mono g4).mono g5
  have G5 := (((g1.trans e2).trans g3).trans g4).trans g5
  have hcf : m3.next ≠ m4.next := by omega
  have hs5 : FSl m3.next m4.next m5 (GG [] [] []) := ⟨fun _ => .slice none 0 0, hC4.mono g5, hF5, fun n _ => ⟨by
    have : (GG [] [] [] n).headD [] = [] := by
      unfold GG
      split
      · rfl
      · split
        · rfl
        · split <;> rfl
    rw [this]; exact GN.nil _ _, (fun e => by cases e), (fun e => by cases e)⟩⟩
  have hLc : L ≤ m3.next := by omega
  have hLf : L ≤ m4.next := by omega
  generalize hcb : m3.next = cb at *
  generalize hfb : m4.next = fb at *
  have hrd5 : m5.rd m2.next = some ⟨1, [.int .i64 (A : Int), .int .i64 (B : Int)], none⟩ := hB5.rd
  rw [fa_e, oOpt_e, ld1_u, hrd5, show rdo (some ⟨1, [.int .i64 (A : Int), .int .i64 (B : Int)], none⟩) (0 + 0) = some (.int .i64 (A : Int)) from rfl, oOpt_e, fa_e, oOpt_e, ld1_u, hrd5, show rdo (some ⟨1, [.int .i64 (A : Int), .int .i64 (B : Int)], none⟩) (0 + 1) = some (.int .i64 (B : Int)) from rfl, oOpt_e]
  refine one_sp hA0 (by omega) ?_
  rw [aextract_e, aextract_e]
  simp only [List.getElem?_cons_zero, List.getElem?_cons_succ, oOpt_e]
  refine found_any (w := [B / A]) hLc hLf hcf (by omega) (by omega) hs5 (fun hc => ?_) (by simp) (by simp) (fun _ p hp => ?_) (by simp [GG]) fun m6 e6 hs6 => ?_
  · have hc' : B % A = 0 := by simpa using hc
    rw [if_pos hc']
    exact bs30 m5 _
  · have := Nat.div_le_self B A
    simp at hp; omega
  have hG1 : (if decide (B % A = 0) = true then addG (GG [] [] []) [B / A] else GG [] [] []) = GG (ways 0 A B 2) [] [] := by
    by_cases hc : B % A = 0
    · rw [if_pos (by simpa using hc), addG1, way0_of (div_two hA0 hAB hc), if_pos hc]; rfl
    · rw [if_neg (by simpa using hc), way0_no fun h => hc h.1]
  rw [hG1] at hs6
  have hn6 := e6.next
  have hw1 := ways_succ 0 A B 2
  have hw2 := ways_succ 1 A B 2
  have hl1 := ways1_len A B 2
  have hl2 := ways2_len (fr := 2) hA0 hB30
  have hdl : ∀ x, B / A + 1 ≤ x ↔ B < x * A := fun x => Nat.div_lt_iff_lt_mul hA0
  generalize hW0 : ways 0 A B 2 = W0 at *
  generalize hW1 : ways (0 + 1) A B 2 = W1 at *
  generalize hW2 : ways (1 + 1) A B 2 = W2 at *
  have hBt : ∀ m', GtC cb fb m5 m' → At m' m2.next [.int .i64 (A : Int), .int .i64 (B : Int)] := fun m' e => e.at hB5 (by omega) (by omega)
  generalize hQ : B / A = Q at *
  refine loop_of (fun q vs m' => ∃ (x : Nat) (g2 g3 : List (List Nat)), vs = [.int .i64 (x : Int)] ∧ q = 91 - x ∧ 2 ≤ x ∧ x ≤ 91 ∧ GtC cb fb m5 m' ∧ FSl cb fb m' (GG W0 g2 g3) ∧ g2 ++ tlW 0 A B (max x (Q + 1)) = W1 ∧ g3 ++ tlW 1 A B (max x (Q + 1)) = W2)
    ?_ (n := 91 - 2) ⟨2, [], [], rfl, rfl, Nat.le_refl _, by omega, e6, hs6, hw1.symm, hw2.symm⟩ (by omega)
  rintro q' vs m7 ⟨x, g2, g3, rfl, rfl, hx2, hx91, e7, hs7, hg2, hg3⟩ self hself
  have hB7 := hBt m7 e7
  have e7n := e7.next
  have q1 : ∀ K : Value → Option Unit, oInt .mul .i64 (.int .i64 3) (.int .i64 (B : Int)) K = K (.int .i64 ((3 * B : Nat) : Int)) := fun K => oInt_mulN (a := 3) (by omega) K
  have hxA : x * A ≤ 91 * 30 := Nat.mul_le_mul (by omega) (by omega)
  have q2 : ∀ K : Value → Option Unit, oInt .mul .i64 (.int .i64 (x : Int)) (.int .i64 (A : Int)) K = K (.int .i64 ((x * A : Nat) : Int)) := fun K => oInt_mulN (by omega) K
  have hra : rdo (some ⟨1, [.int .i64 (A : Int), .int .i64 (B : Int)], none⟩) (0 + 0) = some (.int .i64 (A : Int)) := rfl
  have hrb : rdo (some ⟨1, [.int .i64 (A : Int), .int .i64 (B : Int)], none⟩) (0 + 1) = some (.int .i64 (B : Int)) := rfl
  rw [uc_e, ld1_u, hB7.rd, hra, oOpt_e, q2, ld1_u, hB7.rd, hrb, oOpt_e, q1, oInt_lss]
  refine oIf_dec (fun hlt' => ?_) (fun hlt' => ?_)
  · have hlt : x * A < 3 * B := by omega
    have hx90 : x < 90 := by
      have : x * 1 ≤ x * A := Nat.mul_le_mul_left _ hA0
      omega
    have hcm : A * x = x * A := Nat.mul_comm _ _
    have hbx : B * x ≤ 30 * 90 := Nat.mul_le_mul hB30 (by omega)
    have hstep : ∀ K : Value → Option Unit, oInt .add .i64 (.int .i64 (x : Int)) (.int .i64 1) K = K (.int .i64 ((x + 1 : Nat) : Int)) := fun K => by rw [oInt_add ⟨by omega, by omega⟩]; rfl
    try simp (disch := first | omega | with_unfolding_all exact id rfl | with_unfolding_all exact Nat.le_of_ble_eq_true rfl | (simp only [Mem.push_next, Mem.put_next, List.length_cons, List.length_nil, Nat.zero_add, Nat.reduceAdd, allOne, oneCell, Bool.and_self, Bool.and_true]; first | done | omega)) only [hB7.rd, ↓uc_e, ↓un0_e, oOpt_e, oRes_e, oIf_t, oIf_f, oGT_t, oGT_f, oGT_u, oGF_t, oGF_f, oGF_u, oPick_t, oPick_f, oInt_eql, oInt_neq, oInt_lss, oInt_leq, oInt_gtr, oInt_geq, aun_not, aextract_e, fa_e, abox_e, ptrTo, oCallV_e, decide_true, decide_false, Bool.not_true, Bool.not_false, List.getElem?_cons_zero, List.getElem?_cons_succ, List.cons_append, List.nil_append, cells_agg, cells_int, cells_slice, cells_bool, cells_ptr, ld1_u, ldN_u, st1_u, rdo_e, rdn_e, stw_e, anew_eq, Mem.push_next, Mem.put_next, Mem.rd_push, Mem.rd_push_eq, Mem.rd_push_lt, Mem.rd_put_eq, Mem.rd_put, List.take_zero, List.drop_zero, List.take_succ_cons, List.drop_succ_cons, List.drop_nil, List.take_nil, List.append_nil, List.length_cons, List.length_nil, Nat.zero_add, Nat.reduceAdd]
    repeat (rw [join_e]; try simp (disch := first | omega | with_unfolding_all exact id rfl | with_unfolding_all exact Nat.le_of_ble_eq_true rfl | (simp only [Mem.push_next, Mem.put_next, List.length_cons, List.length_nil, Nat.zero_add, Nat.reduceAdd, allOne, oneCell, Bool.and_self, Bool.and_true]; first | done | omega)) only [hB7.rd, ↓uc_e, ↓un0_e, oOpt_e, oRes_e, oIf_t, oIf_f, oGT_t, oGT_f, oGT_u, oGF_t, oGF_f, oGF_u, oPick_t, oPick_f, oInt_eql, oInt_neq, oInt_lss, oInt_leq, oInt_gtr, oInt_geq, aun_not, aextract_e, fa_e, abox_e, ptrTo, oCallV_e, decide_true, decide_false, Bool.not_true, Bool.not_false, List.getElem?_cons_zero, List.getElem?_cons_succ, List.cons_append, List.nil_append, cells_agg, cells_int, cells_slice, cells_bool, cells_ptr, ld1_u, ldN_u, st1_u, rdo_e, rdn_e, stw_e, anew_eq, Mem.push_next, Mem.put_next, Mem.rd_push, Mem.rd_push_eq, Mem.rd_push_lt, Mem.rd_put_eq, Mem.rd_put, List.take_zero, List.drop_zero, List.take_succ_cons, List.drop_succ_cons, List.drop_nil, List.take_nil, List.append_nil, List.length_cons, List.length_nil, Nat.zero_add, Nat.reduceAdd])
    refine rest_sp (by omega) (by omega) (by omega) ?_
    by_cases hxA2 : x * A ≤ B
    · have d2 : decide (((A * x : Nat) : Int) - (B : Int) ≤ 0) = true := decide_eq_true (by omega)
      try simp (disch := first | omega | with_unfolding_all exact id rfl | with_unfolding_all exact Nat.le_of_ble_eq_true rfl | (simp only [Mem.push_next, Mem.put_next, List.length_cons, List.length_nil, Nat.zero_add, Nat.reduceAdd, allOne, oneCell, Bool.and_self, Bool.and_true]; first | done | omega)) only [d2, hstep, ↓uc_e, ↓un0_e, oOpt_e, oRes_e, oIf_t, oIf_f, oGT_t, oGT_f, oGT_u, oGF_t, oGF_f, oGF_u, oPick_t, oPick_f, oInt_eql, oInt_neq, oInt_lss, oInt_leq, oInt_gtr, oInt_geq, aun_not, aextract_e, fa_e, abox_e, ptrTo, oCallV_e, decide_true, decide_false, Bool.not_true, Bool.not_false, List.getElem?_cons_zero, List.getElem?_cons_succ, List.cons_append, List.nil_append, cells_agg, cells_int, cells_slice, cells_bool, cells_ptr, ld1_u, ldN_u, st1_u, rdo_e, rdn_e, stw_e, anew_eq, Mem.push_next, Mem.put_next, Mem.rd_push, Mem.rd_push_eq, Mem.rd_push_lt, Mem.rd_put_eq, Mem.rd_put, List.take_zero, List.drop_zero, List.take_succ_cons, List.drop_succ_cons, List.drop_nil, List.take_nil, List.append_nil, List.length_cons, List.length_nil, Nat.zero_add, Nat.reduceAdd]
      have hQx : ¬ Q + 1 ≤ x := fun h => by have := (hdl x).1 h; omega
      refine hself (91 - (x + 1)) _ _ (by omega) ⟨x + 1, g2, g3, rfl, rfl, by omega, by omega, e7, hs7, ?_, ?_⟩
      · rw [show max (x + 1) (Q + 1) = max x (Q + 1) by omega]; exact hg2
      · rw [show max (x + 1) (Q + 1) = max x (Q + 1) by omega]; exact hg3
    · have hcast : ((A * x : Nat) : Int) - (B : Int) = ((A * x - B : Nat) : Int) := by omega
      rw [hcast]
      have d2 : decide (((A * x - B : Nat) : Int) ≤ 0) = false := decide_eq_false (by omega)
      have hQx : Q + 1 ≤ x := (hdl x).2 (by omega)
      rw [show max x (Q + 1) = x by omega] at hg2 hg3
      rw [tlW_step (by omega)] at hg2 hg3
      have hb0 := body0 (a := A) (b := B) (x := x) (by omega) (by omega)
      have hb1 : bodyW 1 A B x = (ways 1 (A * x - B) (B * x) (x + 1)).map (x :: ·) := if_pos hlt
      rw [hb0] at hg2
      rw [hb1, ways_succ] at hg3
      have ha' : 0 < A * x - B := by omega
      have ha2 : A * x - B ≤ 2700 := by omega
      have hb' : 0 < B * x := Nat.mul_pos (by omega) (by omega)
      have hdl2 : ∀ y, B * x / (A * x - B) + 1 ≤ y → B * x < y * (A * x - B) := fun y h => (Nat.div_lt_iff_lt_mul ha').1 h
      have hdq : B * x / (A * x - B) ≤ B * x := Nat.div_le_self _ _
      try simp (disch := first | omega | with_unfolding_all exact id rfl | with_unfolding_all exact Nat.le_of_ble_eq_true rfl | (simp only [Mem.push_next, Mem.put_next, List.length_cons, List.length_nil, Nat.zero_add, Nat.reduceAdd, allOne, oneCell, Bool.and_self, Bool.and_true]; first | done | omega)) only [d2, ↓uc_e, ↓un0_e, oOpt_e, oRes_e, oIf_t, oIf_f, oGT_t, oGT_f, oGT_u, oGF_t, oGF_f, oGF_u, oPick_t, oPick_f, oInt_eql, oInt_neq, oInt_lss, oInt_leq, oInt_gtr, oInt_geq, aun_not, aextract_e, fa_e, abox_e, ptrTo, oCallV_e, decide_true, decide_false, Bool.not_true, Bool.not_false, List.getElem?_cons_zero, List.getElem?_cons_succ, List.cons_append, List.nil_append, cells_agg, cells_int, cells_slice, cells_bool, cells_ptr, ld1_u, ldN_u, st1_u, rdo_e, rdn_e, stw_e, anew_eq, Mem.push_next, Mem.put_next, Mem.rd_push, Mem.rd_push_eq, Mem.rd_push_lt, Mem.rd_put_eq, Mem.rd_put, List.take_zero, List.drop_zero, List.take_succ_cons, List.drop_succ_cons, List.drop_nil, List.take_nil, List.append_nil, List.length_cons, List.length_nil, Nat.zero_add, Nat.reduceAdd]
      refine one_sp ha' (by omega) ?_
      have q3 : ∀ K : Value → Option Unit, oInt .quo .i64 (.int .i64 ((B * x : Nat) : Int)) (.int .i64 ((A * x - B : Nat) : Int)) K = K (.int .i64 ((B * x / (A * x - B) : Nat) : Int)) := fun K => oInt_quoN ha' (by omega) K
      generalize hY : B * x / (A * x - B) = Y at *
      generalize hD : (B * x) % (A * x - B) = D at *
      generalize A * x - B = a1 at *
      generalize B * x = b1 at *
      have q4 : ∀ K : Value → Option Unit, oInt .add .i64 (.int .i64 (Y : Int)) (.int .i64 1) K = K (.int .i64 ((Y + 1 : Nat) : Int)) := fun K => by rw [oInt_add ⟨by omega, by omega⟩]; rfl
      have hmx := amax_e (x + 1) (Y + 1)
      try simp (disch := first | omega | with_unfolding_all exact id rfl | with_unfolding_all exact Nat.le_of_ble_eq_true rfl | (simp only [Mem.push_next, Mem.put_next, List.length_cons, List.length_nil, Nat.zero_add, Nat.reduceAdd, allOne, oneCell, Bool.and_self, Bool.and_true]; first | done | omega)) only [↓uc_e, ↓un0_e, oOpt_e, oRes_e, oIf_t, oIf_f, oGT_t, oGT_f, oGT_u, oGF_t, oGF_f, oGF_u, oPick_t, oPick_f, oInt_eql, oInt_neq, oInt_lss, oInt_leq, oInt_gtr, oInt_geq, aun_not, aextract_e, fa_e, abox_e, ptrTo, oCallV_e, decide_true, decide_false, Bool.not_true, Bool.not_false, List.getElem?_cons_zero, List.getElem?_cons_succ, List.cons_append, List.nil_append, cells_agg, cells_int, cells_slice, cells_bool, cells_ptr, ld1_u, ldN_u, st1_u, rdo_e, rdn_e, stw_e, anew_eq, Mem.push_next, Mem.put_next, Mem.rd_push, Mem.rd_push_eq, Mem.rd_push_lt, Mem.rd_put_eq, Mem.rd_put, List.take_zero, List.drop_zero, List.take_succ_cons, List.drop_succ_cons, List.drop_nil, List.take_nil, List.append_nil, List.length_cons, List.length_nil, Nat.zero_add, Nat.reduceAdd]
      have hY0 : Y < 1000000 := by omega
      refine found_join (lf := lf) (n := n + 105) (cnt := 2) (c1 := decide (D = 0)) (x := x) (y := if D = 0 then (Y : Int) else 0) (es := [(0, .int .i64 (x : Int)), (1, .int .i64 (if D = 0 then (Y : Int) else 0))]) (w := [x, Y]) hLc hLf hcf (by omega) (by omega) hs7 (fun hc => ?_) (by simp) (by simp) (fun _ p hp => ?_) ?_ fun m8 e8 hs8 => ?_
      · have hc' : D = 0 := by simpa using hc
        rw [if_pos hc']
        exact bs302 m7 _ _
      · simp at hp; omega
      · show g2.length < 1000000
        have := congrArg List.length hg2
        rw [List.length_append] at this
        omega
      have hn8 := e8.next
      have e58 := e7.trans e8
      have hG2 : (if decide (D = 0) = true ∧ (x : Int) < (if D = 0 then (Y : Int) else 0) then addG (GG W0 g2 g3) [x, Y] else GG W0 g2 g3) = GG W0 (g2 ++ if D = 0 ∧ x < Y then if Y ≤ 2000 then [[x, Y]] else [] else []) g3 := by
        by_cases hc : D = 0
        · by_cases hc2 : x < Y
          · rw [if_pos ⟨by simpa using hc, by rw [if_pos hc]; omega⟩, if_pos ⟨hc, hc2⟩, addG2]
          · rw [if_neg (fun h => hc2 (by have := h.2; rw [if_pos hc] at this; omega)), if_neg (fun h => hc2 h.2), List.append_nil]
        · rw [if_neg (fun h => hc (by simpa using h.1)), if_neg (fun h => hc h.1), List.append_nil]
      rw [hG2] at hs8
      rw [← List.append_assoc] at hg2
      generalize (g2 ++ if D = 0 ∧ x < Y then if Y ≤ 2000 then [[x, Y]] else [] else []) = g2' at hg2 hs8
      try simp (disch := first | omega | with_unfolding_all exact id rfl | with_unfolding_all exact Nat.le_of_ble_eq_true rfl | (simp only [Mem.push_next, Mem.put_next, List.length_cons, List.length_nil, Nat.zero_add, Nat.reduceAdd, allOne, oneCell, Bool.and_self, Bool.and_true]; first | done | omega)) only [hstep, q3, q4, hmx, ↓uc_e, ↓un0_e, oOpt_e, oRes_e, oIf_t, oIf_f, oGT_t, oGT_f, oGT_u, oGF_t, oGF_f, oGF_u, oPick_t, oPick_f, oInt_eql, oInt_neq, oInt_lss, oInt_leq, oInt_gtr, oInt_geq, aun_not, aextract_e, fa_e, abox_e, ptrTo, oCallV_e, decide_true, decide_false, Bool.not_true, Bool.not_false, List.getElem?_cons_zero, List.getElem?_cons_succ, List.cons_append, List.nil_append, cells_agg, cells_int, cells_slice, cells_bool, cells_ptr, ld1_u, ldN_u, st1_u, rdo_e, rdn_e, stw_e, anew_eq, Mem.push_next, Mem.put_next, Mem.rd_push, Mem.rd_push_eq, Mem.rd_push_lt, Mem.rd_put_eq, Mem.rd_put, List.take_zero, List.drop_zero, List.take_succ_cons, List.drop_succ_cons, List.drop_nil, List.take_nil, List.append_nil, List.length_cons, List.length_nil, Nat.zero_add, Nat.reduceAdd]
      have hm1 : x + 1 ≤ max (x + 1) (Y + 1) := Nat.le_max_left _ _
      have hm2 : Y + 1 ≤ max (x + 1) (Y + 1) := Nat.le_max_right _ _
      generalize max (x + 1) (Y + 1) = y0 at hg3 hm1 hm2 ⊢
      refine loop_of (fun q vs m' => ∃ (y : Nat) (g3' : List (List Nat)), vs = [.int .i64 (y : Int)] ∧ q = 2001 - y ∧ Y + 1 ≤ y ∧ GtC cb fb m5 m' ∧ FSl cb fb m' (GG W0 g2' g3') ∧ g3' ++ ((tlW 0 a1 b1 y).map (x :: ·) ++ tlW 1 A B (x + 1)) = W2)
        ?_ (n := 2001 - y0) ⟨y0, g3, rfl, rfl, hm2, e58, hs8, hg3⟩ (by omega)
      rintro q'' vs m9 ⟨y, g3', rfl, rfl, hyY, e9, hs9, hg9⟩ self2 hself2
      have hB9 := hBt m9 e9
      have e9n := e9.next
      rw [uc_e, oInt_leq]
      have hstop : tlW 0 a1 b1 y = [] → self [.int .i64 ((x + 1 : Nat) : Int)] m9 = some () := fun h0 => by
        rw [h0, List.map_nil, List.nil_append] at hg9
        refine hself (91 - (x + 1)) _ _ (by omega) ⟨x + 1, g2', g3', rfl, rfl, by omega, by omega, e9, hs9, ?_, ?_⟩
        · rw [show max (x + 1) (Q + 1) = x + 1 by omega]; exact hg2
        · rw [show max (x + 1) (Q + 1) = x + 1 by omega]; exact hg9
      by_cases hy : y ≤ 2000
      · have dy : decide ((y : Int) ≤ 2000) = true := decide_eq_true (by omega)
        have hya : y * a1 ≤ 2000 * 2700 := Nat.mul_le_mul hy ha2
        have q5 : ∀ K : Value → Option Unit, oInt .mul .i64 (.int .i64 (y : Int)) (.int .i64 (a1 : Int)) K = K (.int .i64 ((y * a1 : Nat) : Int)) := fun K => oInt_mulN (by omega) K
        have q6 : ∀ K : Value → Option Unit, oInt .mul .i64 (.int .i64 2) (.int .i64 (b1 : Int)) K = K (.int .i64 ((2 * b1 : Nat) : Int)) := fun K => oInt_mulN (a := 2) (by omega) K
        by_cases hy2 : y * a1 < 2 * b1
        · have dy2 : decide (((y * a1 : Nat) : Int) < ((2 * b1 : Nat) : Int)) = true := decide_eq_true (by omega)
          have hby : b1 * y ≤ 2700 * 2000 := Nat.mul_le_mul (by omega) hy
          have hcm2 : a1 * y = y * a1 := Nat.mul_comm _ _
          have hlt9 := hdl2 y hyY
          try simp (disch := first | omega | with_unfolding_all exact id rfl | with_unfolding_all exact Nat.le_of_ble_eq_true rfl | (simp only [Mem.push_next, Mem.put_next, List.length_cons, List.length_nil, Nat.zero_add, Nat.reduceAdd, allOne, oneCell, Bool.and_self, Bool.and_true]; first | done | omega)) only [dy, dy2, q5, q6, ↓uc_e, ↓un0_e, oOpt_e, oRes_e, oIf_t, oIf_f, oGT_t, oGT_f, oGT_u, oGF_t, oGF_f, oGF_u, oPick_t, oPick_f, oInt_eql, oInt_neq, oInt_lss, oInt_leq, oInt_gtr, oInt_geq, aun_not, aextract_e, fa_e, abox_e, ptrTo, oCallV_e, decide_true, decide_false, Bool.not_true, Bool.not_false, List.getElem?_cons_zero, List.getElem?_cons_succ, List.cons_append, List.nil_append, cells_agg, cells_int, cells_slice, cells_bool, cells_ptr, ld1_u, ldN_u, st1_u, rdo_e, rdn_e, stw_e, anew_eq, Mem.push_next, Mem.put_next, Mem.rd_push, Mem.rd_push_eq, Mem.rd_push_lt, Mem.rd_put_eq, Mem.rd_put, List.take_zero, List.drop_zero, List.take_succ_cons, List.drop_succ_cons, List.drop_nil, List.take_nil, List.append_nil, List.length_cons, List.length_nil, Nat.zero_add, Nat.reduceAdd]
          repeat (rw [join_e]; try simp (disch := first | omega | with_unfolding_all exact id rfl | with_unfolding_all exact Nat.le_of_ble_eq_true rfl | (simp only [Mem.push_next, Mem.put_next, List.length_cons, List.length_nil, Nat.zero_add, Nat.reduceAdd, allOne, oneCell, Bool.and_self, Bool.and_true]; first | done | omega)) only [dy, dy2, q5, q6, ↓uc_e, ↓un0_e, oOpt_e, oRes_e, oIf_t, oIf_f, oGT_t, oGT_f, oGT_u, oGF_t, oGF_f, oGF_u, oPick_t, oPick_f, oInt_eql, oInt_neq, oInt_lss, oInt_leq, oInt_gtr, oInt_geq, aun_not, aextract_e, fa_e, abox_e, ptrTo, oCallV_e, decide_true, decide_false, Bool.not_true, Bool.not_false, List.getElem?_cons_zero, List.getElem?_cons_succ, List.cons_append, List.nil_append, cells_agg, cells_int, cells_slice, cells_bool, cells_ptr, ld1_u, ldN_u, st1_u, rdo_e, rdn_e, stw_e, anew_eq, Mem.push_next, Mem.put_next, Mem.rd_push, Mem.rd_push_eq, Mem.rd_push_lt, Mem.rd_put_eq, Mem.rd_put, List.take_zero, List.drop_zero, List.take_succ_cons, List.drop_succ_cons, List.drop_nil, List.take_nil, List.append_nil, List.length_cons, List.length_nil, Nat.zero_add, Nat.reduceAdd])
          refine rest_sp (by omega) (by omega) (by omega) ?_
          have hcast2 : ((a1 * y : Nat) : Int) - (b1 : Int) = ((a1 * y - b1 : Nat) : Int) := by omega
          rw [hcast2]
          try simp (disch := first | omega | with_unfolding_all exact id rfl | with_unfolding_all exact Nat.le_of_ble_eq_true rfl | (simp only [Mem.push_next, Mem.put_next, List.length_cons, List.length_nil, Nat.zero_add, Nat.reduceAdd, allOne, oneCell, Bool.and_self, Bool.and_true]; first | done | omega)) only [↓uc_e, ↓un0_e, oOpt_e, oRes_e, oIf_t, oIf_f, oGT_t, oGT_f, oGT_u, oGF_t, oGF_f, oGF_u, oPick_t, oPick_f, oInt_eql, oInt_neq, oInt_lss, oInt_leq, oInt_gtr, oInt_geq, aun_not, aextract_e, fa_e, abox_e, ptrTo, oCallV_e, decide_true, decide_false, Bool.not_true, Bool.not_false, List.getElem?_cons_zero, List.getElem?_cons_succ, List.cons_append, List.nil_append, cells_agg, cells_int, cells_slice, cells_bool, cells_ptr, ld1_u, ldN_u, st1_u, rdo_e, rdn_e, stw_e, anew_eq, Mem.push_next, Mem.put_next, Mem.rd_push, Mem.rd_push_eq, Mem.rd_push_lt, Mem.rd_put_eq, Mem.rd_put, List.take_zero, List.drop_zero, List.take_succ_cons, List.drop_succ_cons, List.drop_nil, List.take_nil, List.append_nil, List.length_cons, List.length_nil, Nat.zero_add, Nat.reduceAdd]
          have ha9 : 0 < a1 * y - b1 := by omega
          refine one_sp ha9 (by omega) ?_
          have hb9 := body0 (a := a1) (b := b1) (x := y) hb' (by omega)
          have hq9 : b1 * y / (a1 * y - b1) ≤ b1 * y := Nat.div_le_self _ _
          rw [tlW_step hy, hb9, List.map_append] at hg9
          generalize b1 * y / (a1 * y - b1) = Z at *
          generalize (b1 * y) % (a1 * y - b1) = E at *
          try simp (disch := first | omega | with_unfolding_all exact id rfl | with_unfolding_all exact Nat.le_of_ble_eq_true rfl | (simp only [Mem.push_next, Mem.put_next, List.length_cons, List.length_nil, Nat.zero_add, Nat.reduceAdd, allOne, oneCell, Bool.and_self, Bool.and_true]; first | done | omega)) only [↓uc_e, ↓un0_e, oOpt_e, oRes_e, oIf_t, oIf_f, oGT_t, oGT_f, oGT_u, oGF_t, oGF_f, oGF_u, oPick_t, oPick_f, oInt_eql, oInt_neq, oInt_lss, oInt_leq, oInt_gtr, oInt_geq, aun_not, aextract_e, fa_e, abox_e, ptrTo, oCallV_e, decide_true, decide_false, Bool.not_true, Bool.not_false, List.getElem?_cons_zero, List.getElem?_cons_succ, List.cons_append, List.nil_append, cells_agg, cells_int, cells_slice, cells_bool, cells_ptr, ld1_u, ldN_u, st1_u, rdo_e, rdn_e, stw_e, anew_eq, Mem.push_next, Mem.put_next, Mem.rd_push, Mem.rd_push_eq, Mem.rd_push_lt, Mem.rd_put_eq, Mem.rd_put, List.take_zero, List.drop_zero, List.take_succ_cons, List.drop_succ_cons, List.drop_nil, List.take_nil, List.append_nil, List.length_cons, List.length_nil, Nat.zero_add, Nat.reduceAdd]
          refine found_join (lf := lf) (n := n + 105) (cnt := 3) (c1 := decide (E = 0)) (x := y) (y := if E = 0 then (Z : Int) else 0) (es := [(0, .int .i64 (x : Int)), (1, .int .i64 (y : Int)), (2, .int .i64 (if E = 0 then (Z : Int) else 0))]) (w := [x, y, Z]) hLc hLf hcf (by omega) (by omega) hs9 (fun hc => ?_) (by simp) (by simp) (fun _ p hp => ?_) ?_ fun m10 e10 hs10 => ?_
          · have hc' : E = 0 := by simpa using hc
            rw [if_pos hc']
            exact bs303 m9 _ _ _
          · simp at hp; omega
          · show g3'.length < 1000000
            have := congrArg List.length hg9
            rw [List.length_append] at this
            omega
          have hG3 : (if decide (E = 0) = true ∧ (y : Int) < (if E = 0 then (Z : Int) else 0) then addG (GG W0 g2' g3') [x, y, Z] else GG W0 g2' g3') = GG W0 g2' (g3' ++ (if E = 0 ∧ y < Z then if Z ≤ 2000 then [[y, Z]] else [] else []).map (x :: ·)) := by
            by_cases hc : E = 0
            · by_cases hc2 : y < Z
              · rw [if_pos ⟨by simpa using hc, by rw [if_pos hc]; omega⟩, if_pos ⟨hc, hc2⟩, addG3]
                by_cases hz : Z ≤ 2000
                · rw [if_pos hz, if_pos hz]; rfl
                · rw [if_neg hz, if_neg hz]; rfl
              · rw [if_neg (fun h => hc2 (by have := h.2; rw [if_pos hc] at this; omega)), if_neg (fun h => hc2 h.2), List.map_nil, List.append_nil]
            · rw [if_neg (fun h => hc (by simpa using h.1)), if_neg (fun h => hc h.1), List.map_nil, List.append_nil]
          rw [hG3] at hs10
          have hstep2 : ∀ K : Value → Option Unit, oInt .add .i64 (.int .i64 (y : Int)) (.int .i64 1) K = K (.int .i64 ((y + 1 : Nat) : Int)) := fun K => by rw [oInt_add ⟨by omega, by omega⟩]; rfl
          try simp (disch := first | omega | with_unfolding_all exact id rfl | with_unfolding_all exact Nat.le_of_ble_eq_true rfl | (simp only [Mem.push_next, Mem.put_next, List.length_cons, List.length_nil, Nat.zero_add, Nat.reduceAdd, allOne, oneCell, Bool.and_self, Bool.and_true]; first | done | omega)) only [hstep2, ↓uc_e, ↓un0_e, oOpt_e, oRes_e, oIf_t, oIf_f, oGT_t, oGT_f, oGT_u, oGF_t, oGF_f, oGF_u, oPick_t, oPick_f, oInt_eql, oInt_neq, oInt_lss, oInt_leq, oInt_gtr, oInt_geq, aun_not, aextract_e, fa_e, abox_e, ptrTo, oCallV_e, decide_true, decide_false, Bool.not_true, Bool.not_false, List.getElem?_cons_zero, List.getElem?_cons_succ, List.cons_append, List.nil_append, cells_agg, cells_int, cells_slice, cells_bool, cells_ptr, ld1_u, ldN_u, st1_u, rdo_e, rdn_e, stw_e, anew_eq, Mem.push_next, Mem.put_next, Mem.rd_push, Mem.rd_push_eq, Mem.rd_push_lt, Mem.rd_put_eq, Mem.rd_put, List.take_zero, List.drop_zero, List.take_succ_cons, List.drop_succ_cons, List.drop_nil, List.take_nil, List.append_nil, List.length_cons, List.length_nil, Nat.zero_add, Nat.reduceAdd]
          refine hself2 (2001 - (y + 1)) _ _ (by omega) ⟨y + 1, _, rfl, rfl, by omega, e9.trans e10, hs10, ?_⟩
          rw [List.append_assoc, ← List.append_assoc, ← List.append_assoc, List.append_assoc, List.append_assoc, ← List.append_assoc (List.map _ _)]
          exact hg9
        · have dy2 : decide (((y * a1 : Nat) : Int) < ((2 * b1 : Nat) : Int)) = false := decide_eq_false (by omega)
          try simp (disch := first | omega | with_unfolding_all exact id rfl | with_unfolding_all exact Nat.le_of_ble_eq_true rfl | (simp only [Mem.push_next, Mem.put_next, List.length_cons, List.length_nil, Nat.zero_add, Nat.reduceAdd, allOne, oneCell, Bool.and_self, Bool.and_true]; first | done | omega)) only [dy, dy2, q5, q6, ↓uc_e, ↓un0_e, oOpt_e, oRes_e, oIf_t, oIf_f, oGT_t, oGT_f, oGT_u, oGF_t, oGF_f, oGF_u, oPick_t, oPick_f, oInt_eql, oInt_neq, oInt_lss, oInt_leq, oInt_gtr, oInt_geq, aun_not, aextract_e, fa_e, abox_e, ptrTo, oCallV_e, decide_true, decide_false, Bool.not_true, Bool.not_false, List.getElem?_cons_zero, List.getElem?_cons_succ, List.cons_append, List.nil_append, cells_agg, cells_int, cells_slice, cells_bool, cells_ptr, ld1_u, ldN_u, st1_u, rdo_e, rdn_e, stw_e, anew_eq, Mem.push_next, Mem.put_next, Mem.rd_push, Mem.rd_push_eq, Mem.rd_push_lt, Mem.rd_put_eq, Mem.rd_put, List.take_zero, List.drop_zero, List.take_succ_cons, List.drop_succ_cons, List.drop_nil, List.take_nil, List.append_nil, List.length_cons, List.length_nil, Nat.zero_add, Nat.reduceAdd]
          repeat (rw [join_e]; try simp (disch := first | omega | with_unfolding_all exact id rfl | with_unfolding_all exact Nat.le_of_ble_eq_true rfl | (simp only [Mem.push_next, Mem.put_next, List.length_cons, List.length_nil, Nat.zero_add, Nat.reduceAdd, allOne, oneCell, Bool.and_self, Bool.and_true]; first | done | omega)) only [dy, dy2, q5, q6, hstep, ↓uc_e, ↓un0_e, oOpt_e, oRes_e, oIf_t, oIf_f, oGT_t, oGT_f, oGT_u, oGF_t, oGF_f, oGF_u, oPick_t, oPick_f, oInt_eql, oInt_neq, oInt_lss, oInt_leq, oInt_gtr, oInt_geq, aun_not, aextract_e, fa_e, abox_e, ptrTo, oCallV_e, decide_true, decide_false, Bool.not_true, Bool.not_false, List.getElem?_cons_zero, List.getElem?_cons_succ, List.cons_append, List.nil_append, cells_agg, cells_int, cells_slice, cells_bool, cells_ptr, ld1_u, ldN_u, st1_u, rdo_e, rdn_e, stw_e, anew_eq, Mem.push_next, Mem.put_next, Mem.rd_push, Mem.rd_push_eq, Mem.rd_push_lt, Mem.rd_put_eq, Mem.rd_put, List.take_zero, List.drop_zero, List.take_succ_cons, List.drop_succ_cons, List.drop_nil, List.take_nil, List.append_nil, List.length_cons, List.length_nil, Nat.zero_add, Nat.reduceAdd])
          exact hstop (tlW_stop fun h => hy2 (by simpa using h.2))
      · have dy : decide ((y : Int) ≤ 2000) = false := decide_eq_false (by omega)
        try simp (disch := first | omega | with_unfolding_all exact id rfl | with_unfolding_all exact Nat.le_of_ble_eq_true rfl | (simp only [Mem.push_next, Mem.put_next, List.length_cons, List.length_nil, Nat.zero_add, Nat.reduceAdd, allOne, oneCell, Bool.and_self, Bool.and_true]; first | done | omega)) only [dy, ↓uc_e, ↓un0_e, oOpt_e, oRes_e, oIf_t, oIf_f, oGT_t, oGT_f, oGT_u, oGF_t, oGF_f, oGF_u, oPick_t, oPick_f, oInt_eql, oInt_neq, oInt_lss, oInt_leq, oInt_gtr, oInt_geq, aun_not, aextract_e, fa_e, abox_e, ptrTo, oCallV_e, decide_true, decide_false, Bool.not_true, Bool.not_false, List.getElem?_cons_zero, List.getElem?_cons_succ, List.cons_append, List.nil_append, cells_agg, cells_int, cells_slice, cells_bool, cells_ptr, ld1_u, ldN_u, st1_u, rdo_e, rdn_e, stw_e, anew_eq, Mem.push_next, Mem.put_next, Mem.rd_push, Mem.rd_push_eq, Mem.rd_push_lt, Mem.rd_put_eq, Mem.rd_put, List.take_zero, List.drop_zero, List.take_succ_cons, List.drop_succ_cons, List.drop_nil, List.take_nil, List.append_nil, List.length_cons, List.length_nil, Nat.zero_add, Nat.reduceAdd]
        repeat (rw [join_e]; try simp (disch := first | omega | with_unfolding_all exact id rfl | with_unfolding_all exact Nat.le_of_ble_eq_true rfl | (simp only [Mem.push_next, Mem.put_next, List.length_cons, List.length_nil, Nat.zero_add, Nat.reduceAdd, allOne, oneCell, Bool.and_self, Bool.and_true]; first | done | omega)) only [dy, hstep, ↓uc_e, ↓un0_e, oOpt_e, oRes_e, oIf_t, oIf_f, oGT_t, oGT_f, oGT_u, oGF_t, oGF_f, oGF_u, oPick_t, oPick_f, oInt_eql, oInt_neq, oInt_lss, oInt_leq, oInt_gtr, oInt_geq, aun_not, aextract_e, fa_e, abox_e, ptrTo, oCallV_e, decide_true, decide_false, Bool.not_true, Bool.not_false, List.getElem?_cons_zero, List.getElem?_cons_succ, List.cons_append, List.nil_append, cells_agg, cells_int, cells_slice, cells_bool, cells_ptr, ld1_u, ldN_u, st1_u, rdo_e, rdn_e, stw_e, anew_eq, Mem.push_next, Mem.put_next, Mem.rd_push, Mem.rd_push_eq, Mem.rd_push_lt, Mem.rd_put_eq, Mem.rd_put, List.take_zero, List.drop_zero, List.take_succ_cons, List.drop_succ_cons, List.drop_nil, List.take_nil, List.append_nil, List.length_cons, List.length_nil, Nat.zero_add, Nat.reduceAdd])
        exact hstop (tlW_stop fun h => hy h.1)
  · have h8 := few_tail (n := n) (m := m7) (L := L) (A := A) (B := B) (fbx := m2.next) (cb := cb) (fb := fb) (k := k) hlf (hT.mono (GtC.gt G5 e7 (by omega) (by omega))) (by omega) hf hB7
    rw [tlW_mono (n := 0) (Nat.le_max_left x (Q + 1)) (by omega), List.append_nil] at hg2
    rw [tlW_mono (n := 1) (Nat.le_max_left x (Q + 1)) (by omega), List.append_nil] at hg3
    subst hg2
    subst hg3
    rw [hW0, hW1, hW2] at h8
    exact h8 hs7 hk
end
end Go.Vit
namespace Go.Proofs.YtcaoifacidnhcaaDoor.DutyFew
open Go Go.Vit Go.Proofs
theorem part_of {ns : List (IntKind × Int)} (h : ns.map (·.1) = [.u8, .u8] ∧ ∀ p ∈ ns, p.1.has p.2) : ∃ p q : Nat, Value.agg ⟨intsV ns⟩ = .agg ⟨[.int .u8 (p : Int), .int .u8 (q : Int)]⟩ ∧ p < 256 ∧ q < 256 := by
  match ns, h with
  | [(_, a), (_, b)], h =>
    obtain ⟨h1, h2⟩ := h
    cases h1
    have key : ∀ x : Int, IntKind.u8.has x → ∃ g : Nat, x = (g : Int) ∧ g < 256 := fun x hx => by
      have h3 : IntKind.u8.min ≤ x ∧ x ≤ IntKind.u8.max := hx
      have h4 : (0 : Int) ≤ x := h3.1
      have h5 : x ≤ (255 : Int) := h3.2
      exact ⟨x.toNat, by omega, by omega⟩
    obtain ⟨a, rfl, ha⟩ := key a (h2 (.u8, a) (by simp))
    obtain ⟨b, rfl, hb⟩ := key b (h2 (.u8, b) (by simp))
    exact ⟨a, b, rfl, ha, hb⟩
theorem runs {p q : Nat} (hp : p < 256) (hq : q < 256) (hT : TabOk mTab mTab) : Vit.runT (tab 1000000) 200 10 [.agg ⟨[.int .u8 (p : Int), .int .u8 (q : Int)]⟩] mTab.next mTab isTrue = some () :=
  few_sp (n := 93) (Nat.le_refl _) hT (Nat.le_refl _) hp hq fun _ => rfl
end Go.Proofs.YtcaoifacidnhcaaDoor.DutyFew
