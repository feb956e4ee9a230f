/- Walks of heaps: crowded spans. -/
import Derived.Test.YtppallabmjdolaaDoorE4
import Derived.Test.YtppallabmjdolaaDoorD4
set_option linter.unusedSimpArgs false
set_option linter.unusedVariables false
set_option maxRecDepth 20000
namespace Go.Vit
open Go Go.Proofs
attribute [local irreducible] runT loopS
theorem eq45 (a b c d : Int) : abin Tryd.prog .eql 45 (.agg ⟨[.int .i64 a, .int .i64 b]⟩) (.agg ⟨[.int .i64 c, .int .i64 d]⟩) = some (.bool (decide (a = c ∧ b = d))) := by
  obtain ⟨fs, hu⟩ : ∃ fs, Tryd.prog.underlying 45 = some (.struct fs) ∧ fieldOffs Tryd.prog fs.toList = some [0, 1] := ⟨(match Tryd.prog.underlying 45 with | some (.struct fs) => fs | _ => #[]), by kernel_rfl, by kernel_rfl⟩
  have hs : (Tryd.prog.stoodInHeld 45 || Tryd.prog.eqGuardType Tryd.prog.depth 45) = false := by kernel_rfl
  have h1 : abin Tryd.prog .eql 45 (.agg ⟨[.int .i64 a, .int .i64 b]⟩) (.agg ⟨[.int .i64 c, .int .i64 d]⟩) = (match aggEq Tryd.prog 45 [.int .i64 a, .int .i64 b] [.int .i64 c, .int .i64 d] with
    | some b => aeqB .eql b
    | none => none) := rfl
  have h2 : aggEq Tryd.prog 45 [.int .i64 a, .int .i64 b] [.int .i64 c, .int .i64 d] = eqAt [.int .i64 a, .int .i64 b] [.int .i64 c, .int .i64 d] [0, 1] := by
    unfold aggEq
    simp only [hu.1, hs, hu.2]
  have h3 : ∀ x y : Int, eqCell (.int .i64 x) (.int .i64 y) = some (ieq x y) := fun _ _ => rfl
  rw [h1, h2]
  simp only [eqAt, lget_eq, List.getElem?_cons_zero, List.getElem?_cons_succ, h3, ieq_e]
  by_cases g1 : a = c
  · by_cases g2 : b = d
    · simp [g1, g2, aeqB]
    · simp [g1, g2, aeqB]
  · simp [g1, aeqB]
def crw (s : Hp) (l : List Hp) : Nat := l.countP fun h => decide (s.1 ≤ h.1) && decide (h.2 ≤ s.2)
theorem crw_take {s : Hp} {l : List Hp} {i : Nat} (hi : i < l.length) : crw s (l.take (i + 1)) = crw s (l.take i) + (if (decide (s.1 ≤ l[i].1) && decide (l[i].2 ≤ s.2)) = true then 1 else 0) := by
  unfold crw
  rw [List.take_add_one, List.getElem?_eq_getElem hi, Option.toList_some, List.countP_append, List.countP_singleton]
theorem crw_le (s : Hp) (l : List Hp) : crw s l ≤ l.length := List.countP_le_length
theorem crw_common {f D : Nat} {l : List Hp} (hl : ∀ h ∈ l, h.2 = D) : crw (f, D) l = cg f l := by
  unfold crw cg
  refine List.countP_congr fun h hh => ?_
  rw [hl h hh]
  simp
theorem crN_of {D i : Nat} {l : List Hp} (hi : i < 24) (h1 : crP D l i = true) (h2 : ∀ f, f < i → crP D l f = false) : crN D l = some i := by
  cases hc : crN D l with
  | none => rw [crN_none hc i hi] at h1; cases h1
  | some f =>
    obtain ⟨g1, g2, g3⟩ := crN_some hc
    rcases Nat.lt_trichotomy f i with h | h | h
    · rw [h2 f h] at g1; cases g1
    · rw [h]
    · rw [g3 i h] at h1; cases h1
theorem crN_of0 {D : Nat} {l : List Hp} (h2 : ∀ f, f < 24 → crP D l f = false) : crN D l = none := by
  cases hc : crN D l with
  | none => rfl
  | some f =>
    obtain ⟨g1, g2, g3⟩ := crN_some hc
    rw [h2 f g2] at g1; cases g1
theorem isort_rep (j : Nat) (D : Int) : isortI (List.replicate j D) = List.replicate j D := by
  rw [List.eq_replicate_iff]
  refine ⟨by rw [isortI_length, List.length_replicate], fun b hb => ?_⟩
  exact List.eq_of_mem_replicate ((isortI_perm _).mem_iff.1 hb)
section
variable {lf n L : Nat} {m : Mem} {k : Value → Mem → Option Unit}
theorem in84_sp {h s : Hp} (hk : ∀ m', Gt m m' → k (.bool (decide (s.1 ≤ h.1) && decide (h.2 ≤ s.2))) m' = some ()) : runT (tab lf) (n + 1) 84 [.agg ⟨row2 h⟩, .agg ⟨row2 s⟩] L m k = some () := by
  rw [r84]; dsimp only [S84, iofNat, inegSucc]
  rw [uc_e, uc_e, un0_e]
  show (oRes (abox m (.agg ⟨[.int .i64 (h.1 : Int), .int .i64 (h.2 : Int)]⟩)) _) = some ()
  refine bx2 fun m1 e1 q1 n1 => ?_
  show (oRes (abox m1 (.agg ⟨[.int .i64 (s.1 : Int), .int .i64 (s.2 : Int)]⟩)) _) = some ()
  refine bx2 fun m2 e2 q2 n2 => ?_
  have q1' := (e2.kept _ (by omega)).trans q1
  have hkk := hk m2 (e1.trans e2)
  rw [fa0, oOpt_e, ld2a q2, oOpt_e, fa0, oOpt_e, ld2a q1', oOpt_e, oInt_leq, join_e]
  refine oGT_dec (fun h1 => ?_) (fun h1 => ?_)
  · rw [fa1, oOpt_e, ld2b q1', oOpt_e, fa1, oOpt_e, ld2b q2, oOpt_e, oInt_leq]
    (try dsimp only)
    rw [uc_e, decide_eq_true h1, oPick_t]
    rw [decide_eq_true (show s.1 ≤ h.1 by omega), Bool.true_and] at hkk
    rw [show decide ((h.2 : Int) ≤ (s.2 : Int)) = decide (h.2 ≤ s.2) from decide_eq_decide.2 (by omega)]
    exact hkk
  · (try dsimp only)
    rw [uc_e, decide_eq_false h1, oPick_f]
    rw [decide_eq_false (show ¬ s.1 ≤ h.1 by omega), Bool.false_and] at hkk
    exact hkk
theorem crowd62_sp {v : Value} {l : List Hp} {s : Hp} (hlf : 1000000 ≤ lf) (hL : L ≤ m.next) (hv : PL m v l) (hl : l.length ≤ 10) (hk : ∀ m', Gt m m' → k (.int .i64 (crw s l : Int)) m' = some ()) :
    runT (tab lf) (n + 2) 62 [v, .agg ⟨row2 s⟩] L m k = some () := by
  rw [r62]; dsimp only [S62, iofNat, inegSucc]
  rw [uc_e, uc_e, un0_e]
  show (oRes (abox m (.agg ⟨[.int .i64 (s.1 : Int), .int .i64 (s.2 : Int)]⟩)) _) = some ()
  refine bx2 fun m1 e1 q1 n1 => ?_
  rw [hv.ln, oOpt_e]
  refine loop_up l.length (fun i vs m' => vs = [.int .i64 (crw s (l.take i) : Int), .int .i64 (i : Int)] ∧ Gt m1 m') (by omega) ⟨rfl, Gt.refl _⟩ ?_
  rintro i vs m2 hi ⟨rfl, e2⟩ self hself
  have n2 := e2.next
  have hv2 := (hv.mono e1).mono e2
  have hb := crw_le s (l.take i)
  rw [List.length_take] at hb
  rw [uc_e, uc_e, oInt_lss]
  refine oIf_dec (fun hc => ?_) (fun hc => ?_)
  · have hil : i < l.length := by omega
    rw [hv2.ia hil, oOpt_e, hv2.ldN hil, oOpt_e]
    show (oRes (anew m2 1 [.int .i64 0, .int .i64 0] ptrTo) fun t m' => oRes (st1 2 L m' t (.agg ⟨[.int .i64 (l[i].1 : Int), .int .i64 (l[i].2 : Int)]⟩)) _) = some ()
    refine mk2 (by omega) rfl fun m3 e3 p3 n3 => ?_
    have q3 := (e3.kept _ (by omega)).trans ((e2.kept _ (by omega)).trans q1)
    rw [ldN2 p3, oOpt_e, ldN2 q3, oOpt_e]
    refine in84_sp (h := l[i]) (s := s) fun m4 e4 => ?_
    rw [join_e]
    have hst := crw_take (s := s) hil
    refine oIf_bool (fun hb2 => ?_) (fun hb2 => ?_)
    · rw [if_pos hb2] at hst
      rw [oInt_add ⟨by omega, by omega⟩]
      (try dsimp only)
      rw [uc_e, oInt_add ⟨by omega, by omega⟩]
      exact hself hil _ _ ⟨by rw [hst]; rfl, (e2.trans e3).trans e4⟩
    · rw [if_neg (by rw [hb2]; simp)] at hst
      (try dsimp only)
      rw [uc_e, oInt_add ⟨by omega, by omega⟩]
      exact hself hil _ _ ⟨by rw [hst]; rfl, (e2.trans e3).trans e4⟩
  · have hiw : i = l.length := by omega
    subst hiw
    rw [List.take_length]
    exact hk m2 (e1.trans e2)
theorem none53_sp (hL : L ≤ m.next) (hk : ∀ m', Gt m m' → k (.agg ⟨[.int .i64 (-1), .int .i64 (-1)]⟩) m' = some ()) : runT (tab lf) (n + 1) 53 [] L m k = some () := by
  rw [r53]; dsimp only [S53, iofNat, inegSucc]
  rw [un0_e, show bu Tryd.prog 45 [(0, .int .i64 (-(0 + 1))), (1, .int .i64 (-(0 + 1)))] = some (.agg ⟨[.int .i64 (-1), .int .i64 (-1)]⟩) from bu45 (-1) (-1)]
  show (oRes (anew m 1 [.int .i64 0, .int .i64 0] ptrTo) fun t m' => oRes (st1 2 L m' t (.agg ⟨[.int .i64 (-1), .int .i64 (-1)]⟩)) _) = some ()
  refine mk2 hL rfl fun m1 e1 p1 n1 => ?_
  rw [ldN2 p1, oOpt_e]
  exact hk m1 e1
def crV (D : Nat) (l : List Hp) : List Value := match crN D l with
  | some f => [.int .i64 (f : Int), .int .i64 (D : Int)]
  | none => [.int .i64 (-1), .int .i64 (-1)]
set_option maxHeartbeats 1000000 in
theorem crowded52_sp {D : Nat} {v : Value} {l : List Hp} (hlf : 1000000 ≤ lf) (hL : L ≤ m.next) (hv : PL m v l) (hl : l.length ≤ 10) (hD : ∀ h ∈ l, h.2 = D) (hD23 : D ≤ 23) (hk : ∀ m', Gt m m' → k (.agg ⟨crV D l⟩) m' = some ()) :
    runT (tab lf) (n + 3) 52 [v, .int .i64 1] L m k = some () := by
  rw [r52]; dsimp only [S52, iofNat, inegSucc]
  rw [uc_e, uc_e, un0_e, anew_eq, oRes_e, hv.ln, oOpt_e]
  have e1 := Mem.gt_push m ⟨1, [.int .i64 0, .int .i64 0], none⟩
  have p1 : (m.push ⟨1, [.int .i64 0, .int .i64 0], none⟩).rd m.next = some ⟨1, [.int .i64 0, .int .i64 0], none⟩ := Mem.rd_push _ _
  have n1 : (m.push ⟨1, [.int .i64 0, .int .i64 0], none⟩).next = m.next + 1 := Mem.push_next _ _
  show loopS _ lf [_, _] (m.push ⟨1, [.int .i64 0, .int .i64 0], none⟩) = some ()
  generalize m.push ⟨1, [.int .i64 0, .int .i64 0], none⟩ = m1 at e1 p1 n1 ⊢
  refine loop_up l.length (fun i vs m' => ∃ u, vs = [u, .int .i64 (i : Int)] ∧ Gt m1 m' ∧ GL m1.next m' u (List.replicate i (D : Int))) (by omega) ⟨_, rfl, Gt.refl _, GL.nil _ _⟩ ?_
  rintro i vs m2 hi ⟨u, rfl, e2, hu⟩ self hself
  have n2 := e2.next
  have hv2 := (hv.mono e1).mono e2
  rw [uc_e, uc_e, oInt_lss]
  refine oIf_dec (fun hc => ?_) (fun hc => ?_)
  · have hil : i < l.length := by omega
    rw [hv2.ia hil, oOpt_e, hv2.ldN hil, oOpt_e]
    show (oRes (anew m2 1 [.int .i64 0, .int .i64 0] ptrTo) fun t m' => oRes (st1 2 L m' t (.agg ⟨[.int .i64 (l[i].1 : Int), .int .i64 (l[i].2 : Int)]⟩)) _) = some ()
    refine mk2 (by omega) rfl fun m3 e3 p3 n3 => ?_
    rw [fa1, oOpt_e, ld2b p3, oOpt_e, hD _ (List.getElem_mem hil), bs22, oRes_e]
    obtain ⟨u4, m4, s4, h4, e4, n4, k4⟩ := GL.snocV (P := Tryd.prog) (L := L) (m0 := m1) (m := m3) (D : Int) ael22 (by omega) (hu.mono e3) (by rw [List.length_replicate]; omega) (by omega) (e2.trans e3) (Nat.le_refl _)
    rw [s4, oRes_e, oInt_add ⟨by omega, by omega⟩]
    refine hself hil _ _ ⟨u4, rfl, e4, ?_⟩
    rw [List.replicate_succ']
    exact h4.le (by omega)
  · have hiw : i = l.length := by omega
    subst hiw
    clear hself hi hc
    rw [r81]
    refine sort_sp (L0 := m1.next) (m0 := m1) hu (by omega) e2 (Nat.le_refl _) (by rw [List.length_replicate]; omega) fun m3 e3 hu3 n3 k3 => ?_
    rw [isort_rep] at hu3
    have e03 := e1.trans e3
    refine loop_up 24 (fun i vs m' => vs = [.int .i64 (i : Int)] ∧ Gt m m' ∧ m1.next ≤ m'.next ∧ m'.rd m.next = some ⟨1, [.int .i64 0, .int .i64 0], none⟩ ∧ GL m1.next m' u (List.replicate l.length (D : Int)) ∧ ∀ f, f < i → crP D l f = false) (by omega)
      ⟨rfl, e03, e3.next, (e3.kept _ (by omega)).trans p1, hu3, fun f hf => by omega⟩ ?_
    rintro i vs m4 hi ⟨rfl, e4, n4, p4, hu4, hno⟩ self hself
    have n4' := e4.next
    rw [uc_e, oInt_lss]
    refine oIf_dec (fun hc => ?_) (fun hc => ?_)
    · have hi24 : i < 24 := by omega
      have hul : (List.replicate l.length (D : Int)).length = l.length := List.length_replicate
      rw [hu4.ln, oOpt_e, hul]
      refine loop_up l.length (fun j vs m' => vs = [.int .i64 (j : Int)] ∧ Gt m4 m' ∧ (0 < j → crP D l i = false)) (by omega) ⟨rfl, Gt.refl _, fun h => by omega⟩ ?_
      rintro j vs m5 hj ⟨rfl, e5, hj0⟩ self2 hself2
      have n5 := e5.next
      have hu5 := hu4.mono e5
      rw [uc_e, oInt_lss]
      refine oIf_dec (fun hc2 => ?_) (fun hc2 => ?_)
      · have hjl : j < (List.replicate l.length (D : Int)).length := by omega
        have hge : (List.replicate l.length (D : Int))[j] = (D : Int) := List.getElem_replicate ..
        rw [hu5.il.ia hjl, oOpt_e, hu5.il.ld hjl, oOpt_e, hge, bu45, oOpt_e]
        refine mk2 (by omega) rfl fun m6 e6 p6 n6 => ?_
        have hv6 := ((hv.mono e4).mono e5).mono e6
        have p46 := (e6.kept _ (by omega)).trans ((e5.kept _ (Mem.rd_lt p4)).trans p4)
        rw [oInt_leq, join_e]
        have hcr : crP D l i = decide (i ≤ D ∧ D - i + 1 < cg i l) := rfl
        have hcb : cg i l ≤ l.length := List.countP_le_length
        refine oGT_dec (fun h1 => ?_) (fun h1 => ?_)
        · rw [ldN2 p6, oOpt_e]
          refine crowd62_sp (n := n) (s := (i, D)) hlf (by omega) hv6 hl fun m7 e7 => ?_
          rw [crw_common hD, oInt_sub ⟨by omega, by omega⟩, oInt_add ⟨by omega, by omega⟩, oInt_mul ⟨by omega, by omega⟩, oInt_gtr]
          (try dsimp only)
          rw [uc_e, decide_eq_true h1, oPick_t]
          have p7 := (e7.kept _ (by omega)).trans p6
          have p47 := (e7.kept _ (Mem.rd_lt p46)).trans p46
          refine oIf_dec (fun h2 => ?_) (fun h2 => ?_)
          · rw [ldN2 p7, oOpt_e]
            have hst : st1 2 L m7 (ptrTo m.next) (.agg ⟨[.int .i64 (i : Int), .int .i64 (D : Int)]⟩) = _ := st2w p47 (by omega) rfl
            have hld : ldN (m7.put m.next (some ⟨1, [.int .i64 (i : Int), .int .i64 (D : Int)], none⟩)) 2 (ptrTo m.next) = _ := ldN2 (Mem.rd_put_eq _ _ (Mem.rd_lt p47))
            rw [hst, oRes_e, hld, oOpt_e]
            have hN := crN_of hi24 (by rw [hcr]; exact decide_eq_true ⟨by omega, by omega⟩) hno
            have := hk (m7.put m.next (some ⟨1, [.int .i64 (i : Int), .int .i64 (D : Int)], none⟩)) (Mem.put_gt (((e4.trans e5).trans e6).trans e7) _ (Nat.le_refl _))
            unfold crV at this
            rw [hN] at this
            exact this
          · rw [oInt_add ⟨by omega, by omega⟩]
            exact hself2 (by omega) _ _ ⟨rfl, (e5.trans e6).trans e7, fun _ => by rw [hcr]; exact decide_eq_false (by omega)⟩
        · (try dsimp only)
          rw [uc_e, decide_eq_false h1, oPick_f, oIf_f, oInt_add ⟨by omega, by omega⟩]
          exact hself2 (by omega) _ _ ⟨rfl, e5.trans e6, fun _ => by rw [hcr]; exact decide_eq_false (by omega)⟩
      · rw [oInt_add ⟨by omega, by omega⟩]
        refine hself hi24 _ _ ⟨rfl, e4.trans e5, by omega, (e5.kept _ (Mem.rd_lt p4)).trans p4, hu5, fun f hf => ?_⟩
        by_cases hfi : f = i
        · subst hfi
          by_cases hj1 : 0 < j
          · exact hj0 hj1
          · have hl0 : l = [] := List.length_eq_zero_iff.1 (by omega)
            subst hl0
            exact decide_eq_false (by simp [cg])
        · exact hno f (by omega)
    · have hi24 : i = 24 := by omega
      subst hi24
      refine none53_sp (by omega) fun m5 e5 => ?_
      have p5 := (e5.kept _ (Mem.rd_lt p4)).trans p4
      have hst : st1 2 L m5 (ptrTo m.next) (.agg ⟨[.int .i64 (-1), .int .i64 (-1)]⟩) = _ := st2w p5 (by omega) rfl
      have hld : ldN (m5.put m.next (some ⟨1, [.int .i64 (-1), .int .i64 (-1)], none⟩)) 2 (ptrTo m.next) = _ := ldN2 (Mem.rd_put_eq _ _ (Mem.rd_lt p5))
      rw [hst, oRes_e, hld, oOpt_e]
      have := hk (m5.put m.next (some ⟨1, [.int .i64 (-1), .int .i64 (-1)], none⟩)) (Mem.put_gt (e4.trans e5) _ (Nat.le_refl _))
      unfold crV at this
      rw [crN_of0 hno] at this
      exact this
theorem why_sp {D : Nat} {v : Value} {l : List Hp} (hlf : 1000000 ≤ lf) (hL : L ≤ m.next) (hv : PL m v l) (hl : l.length ≤ 10) (hr : ∀ h ∈ l, h.1 ≤ h.2 ∧ h.2 ≤ 23) (hD : ∀ h ∈ l, h.2 = D) (hD23 : D ≤ 23)
    (hno : crN D l = none → ∀ m', Gt m m' → k (.tuple ⟨[.int .i64 0, .int .i64 0, .int .i64 13]⟩) m' = some ()) (hyes : ∀ f, crN D l = some f → ∀ m', Gt m m' → k (.tuple ⟨[.int .i64 (f : Int), .int .i64 (D : Int), .int .i64 0]⟩) m' = some ()) :
    runT (tab lf) (n + 4) 25 [v, .int .i64 1] L m k = some () := by
  rw [r25]; dsimp only [S25, iofNat, inegSucc]
  rw [uc_e, uc_e, un0_e]
  refine handed_sp (n := n) hlf hL hv hl hr fun m1 e1 => ?_
  have n1 := e1.next
  rw [oInt_neq, decide_eq_true rfl, Bool.not_true, oIf_f]
  refine crowded52_sp hlf (by omega) (hv.mono e1) hl hD hD23 fun m2 e2 => ?_
  have n2 := e2.next
  have e02 := e1.trans e2
  unfold crV
  cases hc : crN D l with
  | none =>
    refine mk2 (by omega) rfl fun m3 e3 p3 n3 => ?_
    rw [ldN2 p3, oOpt_e]
    refine none53_sp (by omega) fun m4 e4 => ?_
    have p4 := (e4.kept _ (by omega)).trans p3
    rw [oSm_u, p3, p4, bEq_ss, veqL_cons, veq_int, veqL_cons, veq_int, veqL_nil]
    show oIf (.bool true) _ _ = _
    rw [oIf_t, eq45, oOpt_e, decide_eq_true ⟨rfl, rfl⟩, oIf_t]
    exact hno hc m4 ((e02.trans e3).trans e4)
  | some f =>
    refine mk2 (by omega) rfl fun m3 e3 p3 n3 => ?_
    rw [ldN2 p3, oOpt_e]
    refine none53_sp (by omega) fun m4 e4 => ?_
    have p4 := (e4.kept _ (by omega)).trans p3
    rw [oSm_u, p3, p4, bEq_ss, veqL_cons, veq_int, veqL_cons, veq_int, veqL_nil]
    show oIf (.bool true) _ _ = _
    rw [oIf_t, eq45, oOpt_e, decide_eq_false (by omega), oIf_f, fa0, oOpt_e, ld2a p4, oOpt_e, fa1, oOpt_e, ld2b p4, oOpt_e]
    exact hyes f hc m4 ((e02.trans e3).trans e4)
theorem crowd_sp {f t : Nat} {v : Value} {l : List Hp} (hlf : 1000000 ≤ lf) (hL : L ≤ m.next) (hv : PL m v l) (hl : l.length ≤ 10) (hr : ∀ h ∈ l, h.1 ≤ h.2 ∧ h.2 ≤ 23) (hft : f ≤ t) (ht : t ≤ 23)
    (hk : ∀ m', Gt m m' → k (.tuple ⟨[.int .i64 (crw (f, t) l : Int), .int .i64 0]⟩) m' = some ()) : runT (tab lf) (n + 3) 29 [v, .int .i64 (f : Int), .int .i64 (t : Int)] L m k = some () := by
  rw [r29]; dsimp only [S29, iofNat, inegSucc]
  rw [uc_e, uc_e, uc_e, un0_e]
  refine check60_sp (n := n) hlf hL hv hl hr fun m1 e1 => ?_
  have n1 := e1.next
  rw [oInt_neq, decide_eq_true rfl, Bool.not_true, oIf_f]
  refine between_sp _ _ _ ?_
  rw [decide_eq_true (by omega), aun_not, oOpt_e, Bool.not_true, join_e, oGF_f]
  refine between_sp _ _ _ ?_
  rw [decide_eq_true (by omega), aun_not, oOpt_e, Bool.not_true]
  (try dsimp only)
  rw [uc_e, oPick_f, oIf_f, oInt_gtr, decide_eq_false (by omega), oIf_f, bu45, oOpt_e]
  refine crowd62_sp (n := n) (s := (f, t)) hlf (by omega) (hv.mono e1) hl fun m2 e2 => ?_
  exact hk m2 (e1.trans e2)
theorem same22_sp {u v : Value} {a b : List Int} (hlf : 1000000 ≤ lf) (hu : IL m u a) (hv : IL m v b) (hl : a.length < 1000) (hk : k (.bool (decide (a = b))) m = some ()) : runT (tab lf) (n + 1) 22 [u, v] L m k = some () := by
  rw [r22]; dsimp only [S22, iofNat, inegSucc]
  rw [uc_e, uc_e, un0_e, hu.ln, oOpt_e, hv.ln, oOpt_e, oInt_neq]
  refine oIf_ndec (fun h => ?_) (fun h => ?_)
  · rw [decide_eq_false fun he => h (by rw [he])] at hk
    exact hk
  · have hab : a.length = b.length := by omega
    rw [oOpt_e]
    refine loop_up a.length (fun i vs m' => vs = [.int .i64 (i : Int)] ∧ m' = m ∧ a.take i = b.take i) (by omega) ⟨rfl, rfl, rfl⟩ ?_
    rintro i vs m1 hi ⟨rfl, rfl, hi2⟩ self hself
    rw [uc_e, oInt_lss]
    refine oIf_dec (fun hc => ?_) (fun hc => ?_)
    · have hia : i < a.length := by omega
      have hib : i < b.length := by omega
      rw [hu.ia hia, oOpt_e, hu.ld hia, oOpt_e, hv.ia hib, oOpt_e, hv.ld hib, oOpt_e, oInt_neq]
      refine oIf_ndec (fun h2 => ?_) (fun h2 => ?_)
      · rw [decide_eq_false fun he => h2 (by subst he; rfl)] at hk
        exact hk
      · rw [oInt_add ⟨by omega, by omega⟩]
        refine hself hia _ _ ⟨rfl, rfl, ?_⟩
        rw [List.take_add_one, List.take_add_one, List.getElem?_eq_getElem hia, List.getElem?_eq_getElem hib, hi2, h2]
    · rw [List.take_of_length_le (by omega), List.take_of_length_le (by omega)] at hi2
      rw [decide_eq_true hi2] at hk
      exact hk
end
end Go.Vit
