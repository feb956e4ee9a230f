/- Walks of heaps: the first hours; the most heaps without a common hour. -/
import Derived.Test.YtppallabmjdolaaGreatDoorH3
set_option linter.unusedSimpArgs false
set_option linter.unusedVariables false
set_option maxRecDepth 20000
namespace Go.Vit
open Go Go.Proofs
attribute [local irreducible] runT loopS
theorem Vd.any {l : List Hp} (h : ∀ x ∈ l, x.1 ≤ x.2 ∧ x.2 ≤ 23) : Vd l := fun x hx => (h x hx).1
theorem left_le (l : List Hp) (x : Nat) : (left l x).length ≤ l.length := List.length_filter_le _ _
theorem eq49 (a b c d : Int) : abin Tryz.prog .eql 49 (.agg ⟨[.int .i64 a, .int .i64 b]⟩) (.agg ⟨[.int .i64 c, .int .i64 d]⟩) = some (.bool (decide (a = c ∧ b = d))) := by
  obtain ⟨fs, hu⟩ : ∃ fs, Tryz.prog.underlying 49 = some (.struct fs) ∧ fieldOffs Tryz.prog fs.toList = some [0, 1] := ⟨(match Tryz.prog.underlying 49 with | some (.struct fs) => fs | _ => #[]), by kernel_rfl, by kernel_rfl⟩
  have hs : (Tryz.prog.stoodInHeld 49 || Tryz.prog.eqGuardType Tryz.prog.depth 49) = false := by kernel_rfl
  have h1 : abin Tryz.prog .eql 49 (.agg ⟨[.int .i64 a, .int .i64 b]⟩) (.agg ⟨[.int .i64 c, .int .i64 d]⟩) = (match aggEq Tryz.prog 49 [.int .i64 a, .int .i64 b] [.int .i64 c, .int .i64 d] with
    | some b => aeqB .eql b
    | none => none) := rfl
  have h2 : aggEq Tryz.prog 49 [.int .i64 a, .int .i64 b] [.int .i64 c, .int .i64 d] = eqAt [.int .i64 a, .int .i64 b] [.int .i64 c, .int .i64 d] [0, 1] := by
    unfold aggEq
    simp only [hu.1, hs, hu.2]
  have h3 : ∀ x y : Int, eqCell (.int .i64 x) (.int .i64 y) = some (ieq x y) := fun _ _ => rfl
  rw [h1, h2]
  simp only [eqAt, lget_eq, List.getElem?_cons_zero, List.getElem?_cons_succ, h3, ieq_e]
  by_cases g1 : a = c
  · by_cases g2 : b = d
    · simp [g1, g2, aeqB]
    · simp [g1, g2, aeqB]
  · simp [g1, aeqB]
section
variable {lf n L : Nat} {m : Mem} {k : Value → Mem → Option Unit}
theorem hours_sp {v : Value} {l : List Hp} (hlf : 1000000 ≤ lf) (hL : L ≤ m.next) (hv : PL m v l) (hl : l.length ≤ 10) (hr : ∀ h ∈ l, h.1 ≤ h.2 ∧ h.2 ≤ 23) (hk : ∀ u m', Gt m m' → GN m.next m' u (hoursR 24 0 l) → k (.tuple ⟨[u, .int .i64 0]⟩) m' = some ()) :
    runT (tabC lf) (n + 10) 23 [v] L m k = some () := by
  rw [r23]; dsimp only [S23, iofNat, inegSucc]
  rw [uc_e, un0_e]
  refine check73_sp (n := n + 7) hlf hL hv hl hr fun m1 e1 => ?_
  have n1 := e1.next
  rw [oInt_neq, show (!decide ((0 : Int) = 0)) = false from rfl, oIf_f]
  refine clone76_sp (by omega) (hv.mono e1) (by omega) fun u2 m2 e2 hu2 hb2 => ?_
  have n2 := e2.next
  refine mk1 (by omega) rfl rfl fun m3 e3 q3 n3 => ?_
  have E3 := (e1.trans e2).trans e3
  refine loop_up 24 (fun x vs m' => ∃ (u o : Value) (q : Nat) (g : List Hp) (pre : List Nat), vs = [u, o, .pointer (some ⟨q, 0, none⟩)] ∧ Gt m m' ∧ OW m.next m' u g ∧ GN m.next m' o pre ∧ m'.rd q = some ⟨1, [.int .i64 (x : Int)], none⟩ ∧ m.next ≤ q ∧ pre ++ hoursR (24 - x) x g = hoursR 24 0 l ∧ g.length ≤ 10 ∧ Vd g ∧ pre.length ≤ x ∧ (∀ c, bid u = some c → c < m'.next) ∧ ∀ c, bid o = some c → c ≠ q) (by omega)
    ⟨u2, _, m2.next, l, [], rfl, E3, (hu2.mono e3).le (by omega), GN.nil _ _, q3, by omega, rfl, hl, Vd.any hr, Nat.le_refl _, (fun c hc => by have := hb2 c hc; omega), fun c hc => by cases hc⟩ ?_
  rintro x vs m4 hx ⟨u, o, q, g, pre, rfl, e4, hu, ho, hq, hqn, heq, hgl, hvg, hpl, hub, hoq⟩ self hself
  have n4 := e4.next
  have hql := Mem.rd_lt hq
  rw [uc_e, uc_e, uc_e, ldc hq, oOpt_e, oInt_leq, join_e]
  have fin : hoursR (24 - x) x g = [] → k (.tuple ⟨[o, .int .i64 0]⟩) m4 = some () := fun h => by
    rw [h, List.append_nil] at heq
    rw [heq] at ho
    exact hk o m4 e4 ho
  refine oGT_dec (fun hc => ?_) (fun hc => ?_)
  · obtain ⟨f, hf⟩ : ∃ f, 24 - x = f + 1 := ⟨24 - x - 1, by omega⟩
    have hf2 : 24 - (x + 1) = f := by omega
    rw [hu.pl.ln, oOpt_e, oInt_gtr]
    dsimp only
    rw [uc_e, decide_eq_true hc, oPick_t]
    refine oIf_dec (fun hpos => ?_) (fun hpos => ?_)
    · have hne : g ≠ [] := List.length_pos_iff.1 (by omega)
      refine clone76_sp (by omega) hu.pl (by omega) fun w m5 e5 hw hwb => ?_
      have n5 := e5.next
      have hq5 := (e5.kept _ hql).trans hq
      have hcell : Cell q L x m5 := ⟨hq5, by omega⟩
      have hwf := hw.fr
      refine deleteH_sp (n := n + 7) (M0 := m4.next) (p := fun h => hasH h x) (I := Cell q L x) hlf (by omega) (by omega) hw (by omega) hcell (fun a b ha hab hk2 => ?_) (fn78 (n := n + 4)) (fn78 (n := n + 5)) fun r m6 n6 k6 hr6 hrb => ?_
      · refine ⟨(hk2 _ (Mem.rd_lt ha.1) fun hcw => ?_).trans ha.1, by have := ha.2; omega⟩
        have := hwf _ hcw; omega
      have e46 : Gt m4 m6 := ⟨by omega, fun c hc => (k6 c (by omega) fun hb => by have := hwf c hb; omega).trans (e5.kept c hc)⟩
      have hlr : (g.filter fun h => !hasH h x) = left g x := rfl
      rw [hlr] at hr6
      have hll := left_le g x
      refine meetH_sp (n := n + 2) hlf (by omega) hr6.pl (by omega) (hvg.left x) fun m7 e7 => ?_
      have n7 := e7.next
      have E7 := e46.trans e7
      refine meetH_sp (n := n + 2) hlf (by omega) (hu.pl.mono E7) (by omega) hvg fun m8 e8 => ?_
      have n8 := e8.next
      have E8 := E7.trans e8
      have hr8 := (hr6.mono e7).mono e8
      have hq8 := (E8.kept _ hql).trans hq
      rw [oInt_lss, join_e]
      -- what is left after both questions
      have both : ∀ (t : Bool) (m9 : Mem), t = takeH g x → Gt m8 m9 → (oIf (.bool t) (oOpt (ld1 m9 (.pointer (some ⟨q, 0, none⟩))) fun t59 =>
          oRes (bs Tryz.prog m9 22 1 [(0, t59)]) fun t60 m61 =>
          oRes (aappend Tryz.prog L m61 22 o t60) fun t62 m63 =>
          (oOpt (ld1 m63 (.pointer (some ⟨q, 0, none⟩))) fun t50 =>
            oRes (anew m63 1 [.int .i64 0] ptrTo) fun t51 m52 =>
            oRes (st1 1 L m52 t51 t50) fun t53 m54 =>
            oOpt (ld1 m54 t51) fun t55 =>
            oInt .add .i64 t55 (.int .i64 1) fun t56 =>
            oRes (st1 1 L m54 t51 t56) fun t57 m58 =>
            self [r, t62, t51] m58)) (oOpt (ld1 m9 (.pointer (some ⟨q, 0, none⟩))) fun t50 =>
            oRes (anew m9 1 [.int .i64 0] ptrTo) fun t51 m52 =>
            oRes (st1 1 L m52 t51 t50) fun t53 m54 =>
            oOpt (ld1 m54 t51) fun t55 =>
            oInt .add .i64 t55 (.int .i64 1) fun t56 =>
            oRes (st1 1 L m54 t51 t56) fun t57 m58 =>
            self [u, o, t51] m58)) = some () := fun t m9 ht e9 => by
        have n9 := e9.next
        have E9 := E8.trans e9
        have hq9 := (E9.kept _ hql).trans hq
        -- the next hour
        have next : ∀ (m10 : Mem) (u' o' : Value) (g' : List Hp) (pre' : List Nat), Gt m m10 → m4.next ≤ m10.next → m10.rd q = some ⟨1, [.int .i64 (x : Int)], none⟩ → OW m.next m10 u' g' → GN m.next m10 o' pre' → pre' ++ hoursR f (x + 1) g' = hoursR 24 0 l → g'.length ≤ 10 → Vd g' → pre'.length ≤ x + 1 → (∀ c, bid u' = some c → c < m10.next) →
            (oOpt (ld1 m10 (.pointer (some ⟨q, 0, none⟩))) fun t50 =>
            oRes (anew m10 1 [.int .i64 0] ptrTo) fun t51 m52 =>
            oRes (st1 1 L m52 t51 t50) fun t53 m54 =>
            oOpt (ld1 m54 t51) fun t55 =>
            oInt .add .i64 t55 (.int .i64 1) fun t56 =>
            oRes (st1 1 L m54 t51 t56) fun t57 m58 =>
            self [u', o', t51] m58) = some () := fun m10 u' o' g' pre' e10 hn10 hq10 hu' ho' h1 h2 h3 h4 h5 => by
          have n10 := e10.next
          rw [ldc hq10, oOpt_e]
          refine mk1 (by omega) rfl rfl fun m11 e11 q11 n11 => ?_
          rw [ldc q11, oOpt_e, oInt_add ⟨by omega, by omega⟩, st1c q11 (by omega) rfl rfl, oRes_e]
          refine hself (by omega) _ _ ⟨u', o', m10.next, g', pre', rfl, Mem.put_gt (e10.trans e11) _ (by omega), ?_, ?_, ?_, by omega, by rw [hf2]; exact h1, h2, h3, h4, fun c hc => ?_, fun c hc => by have := (Gs.bid_lt ho' c hc).2; omega⟩
          · exact (hu'.mono e11).keep fun c hc _ => Mem.rd_put _ _ _ _ (by have := h5 c hc; omega)
          · exact (ho'.mono e11).keep fun c hc _ => Mem.rd_put _ _ _ _ (by have := (Gs.bid_lt ho' c hc).2; omega)
          · rw [Mem.rd_put_eq _ _ (Mem.rd_lt q11)]
            have : (x : Int) + 1 = ((x + 1 : Nat) : Int) := by omega
            rw [this]
          · have := h5 c hc
            show c < m11.next
            omega
        have hcons : ∃ a t, g = a :: t := by
          cases g with
          | nil => exact absurd rfl hne
          | cons a t => exact ⟨a, t, rfl⟩
        obtain ⟨ga, gt, hgc⟩ := hcons
        have hR : hoursR (f + 1) x g = if takeH g x = true then x :: hoursR f (x + 1) (left g x) else hoursR f (x + 1) g := by rw [hgc]; rfl
        rw [hf, hR] at heq
        cases t with
        | true =>
          rw [← ht, if_pos rfl] at heq
          rw [oIf_t, ldc hq9, oOpt_e, bs22, oRes_e]
          have ho9 := ho.mono E9
          obtain ⟨z, m10, h1, h2, h3, h4, h5⟩ := GL.snocV (P := Tryz.prog) (L := L) (L0 := m.next) (m0 := m) (x : Int) ael22 (by omega) ho9 (by rw [ci_length]; omega) (by omega) (e4.trans E9) (Nat.le_refl _)
          have hz : ci pre ++ [(x : Int)] = ci (pre ++ [x]) := by simp [ci]
          rw [hz] at h2
          rw [h1, oRes_e]
          have hob : ∀ c, bid o = some c → c < m4.next := fun c hc => (Gs.bid_lt ho c hc).2
          have hrf : ∀ c, bid r = some c → m4.next ≤ c := fun c hc => hwf c (hrb c hc)
          refine next m10 r z (left g x) (pre ++ [x]) h3 (by omega) ((h5 q (by omega) fun hb => ?_).trans hq9) ?_ (h2.le (by omega)) (by rw [List.append_assoc]; exact heq) (by omega) (hvg.left x) (by rw [List.length_append]; simp; omega) (fun c hc => ?_)
          · exact hoq q hb rfl
          · refine ((hr8.mono e9).keep fun c hc _ => h5 c ?_ fun hb => ?_).le (by omega)
            · have := hwb c (hrb c hc); omega
            · have := hob c hb; have := hrf c hc; omega
          · have := hwb c (hrb c hc); omega
        | false =>
          rw [← ht, if_neg (by simp)] at heq
          rw [oIf_f]
          exact next m9 u o g pre (e4.trans E9) (by omega) hq9 (hu.mono E9) (ho.mono E9) heq hgl hvg (by omega) fun c hc => by have := hub c hc; omega
      refine oGT_dec (fun h1 => ?_) (fun h1 => ?_)
      · refine containsH_sp (n := n + 7) (p := fun h => decide (h.2 < x)) (I := Cell q L x) hlf hr8.pl (by omega) ⟨hq8, by omega⟩ (fun a b ha e => ha.mono e) (fn81 (n := n + 6)) fun m9 e9 => ?_
        rw [aun_not, oOpt_e]
        dsimp only
        rw [uc_e, decide_eq_true h1, oPick_t, join_e]
        refine both _ m9 ?_ e9
        unfold takeH
        rw [decide_eq_true (by omega), Bool.true_and]
      · dsimp only
        rw [uc_e, decide_eq_false h1, oPick_f, join_e]
        refine both false m8 ?_ (Gt.refl _)
        unfold takeH
        rw [decide_eq_false (by omega)]; rfl
    · have hg0 : g = [] := List.length_eq_zero_iff.1 (by omega)
      refine fin ?_
      rw [hf, hg0]; rfl
  · dsimp only
    rw [uc_e, decide_eq_false hc, oPick_f, oIf_f]
    refine fin ?_
    rw [show 24 - x = 0 by omega]; rfl
end
end Go.Vit
