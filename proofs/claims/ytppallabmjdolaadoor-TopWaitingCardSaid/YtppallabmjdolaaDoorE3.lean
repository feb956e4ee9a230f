/- Walks of heaps: what is kept. -/
import Derived.Test.YtppallabmjdolaaDoorE2
import Derived.Test.YtppallabmjdolaaDoorD1
set_option linter.unusedSimpArgs false
set_option linter.unusedVariables false
set_option maxRecDepth 20000
namespace Go.Vit
open Go Go.Proofs
attribute [local irreducible] runT loopS
/-- A row is appended for one call only: the old slice lies there again afterwards. -/
theorem lend_ok {P : Program} {t : TypeId} {y L L0 : Nat} {m : Mem} {v : Value} {l : List Hp} (x : Hp) (ht : aelem P t = some (2, y)) (hy : y ≤ 134217728) (h : PG L0 m v l) (hl : l.length < 1000000) (hL : L ≤ L0) :
    ∃ u m', aappend P L (m.push ⟨2, row2 x, none⟩) t v (slTo 1 m.next) = some (u, m') ∧ PG (m.next + 1) m' u (l ++ [x]) ∧ (m.push ⟨2, row2 x, none⟩).next ≤ m'.next ∧
      ∀ m2, Gt m' m2 → Gt (m.push ⟨2, row2 x, none⟩) (lendBack L (m.push ⟨2, row2 x, none⟩) m' m2 v) := by
  have h1 : Sl 2 (m.push ⟨2, row2 x, none⟩) (slTo 1 m.next) 1 (row2 x) := Gs.sl (L := m.next) (.inr ⟨m.next, Nat.le_refl _, rfl, Mem.rd_push _ _, rfl, by omega⟩)
  have gp := Mem.gt_push m ⟨2, row2 x, none⟩
  have hn : (m.push ⟨2, row2 x, none⟩).next = m.next + 1 := Mem.push_next _ _
  have h2 := h.mono gp
  generalize m.push ⟨2, row2 x, none⟩ = mp at h1 gp hn h2 ⊢
  rcases h2 with ⟨rfl, hl0, hc0⟩ | ⟨b, hb', rfl, hr', hlen, hpos⟩
  · have hnil : l = [] := List.length_eq_zero_iff.1 hl0
    subst hnil
    have hr2 : roomy (Nat.succ 0) y = true := roomy_of (by omega) hy
    have h5 : aappend P L mp t (.slice none 0 0) (slTo 1 m.next) = some (slTo 1 mp.next, mp.push ⟨2, row2 x, none⟩) := by
      unfold aappend
      rw [ht]
      simp only [h1.1, hr2]
      exact anew_eq _ _ _ _
    refine ⟨_, _, h5, .inr ⟨mp.next, by omega, rfl, Mem.rd_push _ _, rfl, Nat.le_refl _⟩, by rw [Mem.push_next]; omega, fun m2 e2 => ?_⟩
    exact (Mem.gt_push _ _).trans e2
  · have hble : Nat.ble (Nat.add l.length (Nat.succ 0)) l.length = false := by
      cases hb : Nat.ble (Nat.add l.length (Nat.succ 0)) l.length with
      | false => rfl
      | true => exact absurd (Nat.le_of_ble_eq_true hb) (by show ¬ (l.length + 1 ≤ l.length); omega)
    have hs : Sl 2 mp (.slice (some ⟨b, 0, none⟩) l.length l.length) l.length (pcs l) := Gs.sl (.inr ⟨b, Nat.le_refl _, rfl, hr', hlen, hpos⟩)
    have hold : rdc mp b 0 (Nat.mul l.length 2) = some (pcs l) := by
      rw [show Nat.mul l.length 2 = l.length * 2 from rfl, rdc_e hr' (by omega), List.drop_zero, ← hlen, List.take_length]
    have hLb : Nat.ble L b = true := by rw [Nat.ble_eq]; omega
    have hnn : Nat.ble l.length l.length = true := by rw [Nat.ble_eq]; omega
    have hr2 : roomy (Nat.add l.length (Nat.succ 0)) y = true := roomy_of (by show l.length + 1 ≤ _; omega) hy
    have hq : (Nat.beq 2 2 && (Nat.beq (Nat.add 0 (Nat.mul l.length 2)) (pcs l).length && allOne (row2 x))) = true := by
      have : Nat.beq (Nat.add 0 (Nat.mul l.length 2)) (pcs l).length = true := by rw [Nat.beq_eq, hlen]; simp
      rw [this]; rfl
    have h5 : aappend P L mp t (.slice (some ⟨b, 0, none⟩) l.length l.length) (slTo 1 m.next) = some (slTo (l.length + 1) mp.next, (mp.put b none).push ⟨2, pcs l ++ row2 x, none⟩) := by
      unfold aappend
      rw [ht]
      simp only [h1.1, natK_eq, hnn, hble, hr2, hold, hLb, hr', hq, anew_eq]
      rfl
    have hbl := Mem.rd_lt hr'
    refine ⟨_, _, h5, .inr ⟨mp.next, by omega, by rw [List.length_append]; rfl, by rw [pcs_app]; exact Mem.rd_push _ _, pcs_len _, by rw [List.length_append]; simp⟩, by rw [Mem.push_next]; show mp.next ≤ mp.next + 1; omega, fun m2 e2 => ?_⟩
    have e2n := e2.next
    rw [Mem.push_next] at e2n
    have e2n' : mp.next + 1 ≤ m2.next := e2n
    have hb1 : ((mp.put b none).push ⟨2, pcs l ++ row2 x, none⟩).rd b = none := ((Mem.gt_push (mp.put b none) _).kept b hbl).trans (Mem.rd_put_eq _ _ hbl)
    have hlt : Nat.blt mp.next ((mp.put b none).push ⟨2, pcs l ++ row2 x, none⟩).next = true := by
      rw [Mem.push_next]
      show Nat.blt mp.next (mp.next + 1) = true
      simp
    have hbq : Nat.beq l.length l.length = true := Nat.beq_refl _
    have he : lendBack L mp ((mp.put b none).push ⟨2, pcs l ++ row2 x, none⟩) m2 (.slice (some ⟨b, 0, none⟩) l.length l.length) = (m2.put mp.next none).put b (some ⟨2, pcs l, none⟩) := by
      unfold lendBack
      simp only [hbq, hLb, hlt, hb1, hr']
    rw [he]
    refine ⟨by show mp.next ≤ m2.next; omega, fun c hc => ?_⟩
    by_cases hcb : b = c
    · subst hcb
      rw [Mem.rd_put_eq _ _ (by show b < m2.next; omega), hr']
    · rw [Mem.rd_put _ _ _ _ hcb, Mem.rd_put _ _ _ _ (by omega), e2.kept c (by rw [Mem.push_next]; show c < mp.next + 1; omega), (Mem.gt_push (mp.put b none) _).kept c hc]
      exact Mem.rd_put _ _ _ _ hcb
section
variable {lf n L : Nat} {m : Mem} {k : Value → Mem → Option Unit}
set_option maxHeartbeats 1000000 in
theorem choose_sp {q : Nat} {v : Value} {l : List Hp} (hlf : 1000000 ≤ lf) (hL : L ≤ m.next) (hv : PL m v l) (hq : NC m q 1) (hl : l.length ≤ 10) (hr : ∀ h ∈ l, h.2 ≤ 23)
    (hk : ∀ u m', Gt m m' → GN m.next m' u (keepL l).2.1 → k u m' = some ()) : runT (tab lf) (n + 7) 47 [v, .func (.func 48) #[] ⟨[.pointer (some ⟨q, 0, none⟩)]⟩] L m k = some () := by
  rw [r47]; dsimp only [S47, iofNat, inegSucc]
  rw [uc_e, uc_e, un0_e, hv.ln, oOpt_e]
  refine loop_up l.length (fun i vs m' => ∃ kv ov, vs = [kv, ov, .int .i64 (i : Int)] ∧ Gt m m' ∧ PG m.next m' kv (keepL (l.take i)).1 ∧ GN m.next m' ov (keepL (l.take i)).2.1 ∧ ∀ c, bid kv = some c → bid ov ≠ some c) (by omega)
    ⟨_, _, rfl, Gt.refl _, PG.nil _ _, GN.nil _ _, fun c hc => by cases hc⟩ ?_
  rintro i vs m1 hi ⟨kv, ov, rfl, e1, hkv, hov, hap⟩ self hself
  have n1 := e1.next
  rw [uc_e, uc_e, uc_e, oInt_lss]
  refine oIf_dec (fun hc => ?_) (fun hc => ?_)
  · have hil : i < l.length := by omega
    have hvm := hv.mono e1
    obtain ⟨g1, g2, g3, g4⟩ := keepL_cnt (l.take i) ([], [], 0)
    have hcnt : (keepL (l.take i)).2.2 = i := by
      have : (keepL (l.take i)).2.2 = 0 + (l.take i).length := g1
      rw [this, List.length_take]; omega
    have hk1 : (keepL (l.take i)).1.length ≤ i := by
      have : (keepL (l.take i)).1.length ≤ 0 + (l.take i).length := g2
      rw [List.length_take] at this; omega
    have hk2 : (keepL (l.take i)).2.1.length ≤ i := by
      have : (keepL (l.take i)).2.1.length ≤ 0 + (l.take i).length := g3
      rw [List.length_take] at this; omega
    have hk3 : ∀ h ∈ (keepL (l.take i)).1, h.2 ≤ 23 := fun h hh => by
      rcases g4 h hh with h1 | h1
      · cases h1
      · exact hr h (List.mem_of_mem_take h1)
    have hstep := keepL_take hil
    rw [hvm.ia hil, oOpt_e, hvm.ldN hil, oOpt_e]
    show (oRes (anew m1 1 [.int .i64 0, .int .i64 0] ptrTo) fun t m' => oRes (st1 2 L m' t (.agg ⟨[.int .i64 (l[i].1 : Int), .int .i64 (l[i].2 : Int)]⟩)) _) = some ()
    refine mk2 (by omega) rfl fun m2 e2 p2 n2 => ?_
    rw [ldN2 p2, oOpt_e, bs431, oRes_e]
    have hkv2 := hkv.mono e2
    have hov2 := hov.mono e2
    obtain ⟨u3, m3, s3, h3, n3, back⟩ := lend_ok (P := Tryd.prog) (L := L) (m := m2) l[i] ael43 (by omega) hkv2 (by omega) (by omega)
    have s3' : aappend Tryd.prog L (m2.push ⟨2, [.int .i64 (l[i].1 : Int), .int .i64 (l[i].2 : Int)], none⟩) 43 kv (slTo 1 m2.next) = some (u3, m3) := s3
    rw [s3', oRes_e, oCallV_e (hf := rfl)]
    show runT (tab lf) (n + 6) 48 [u3, .pointer (some ⟨q, 0, none⟩)] m3.next m3 _ = some ()
    rw [r48]; dsimp only [S48, iofNat, inegSucc]
    have gp := Mem.gt_push m2 ⟨2, row2 l[i], none⟩
    have hpn : (m2.push ⟨2, row2 l[i], none⟩).next = m2.next + 1 := Mem.push_next _ _
    have hqm : q < m.next := hq.lt
    have hq3 : NC m3 q 1 := by
      have hgt := back m3 (Gt.refl _)
      have hq2 : NC (m2.push ⟨2, row2 l[i], none⟩) q 1 := ((hq.mono e1).mono e2).mono gp
      -- the call's memory still has the cell: it lies below the old rows
      have h5 : m3.rd q = (m2.push ⟨2, row2 l[i], none⟩).rd q := by
        obtain ⟨u4, m4, s4, _, _, _, k4⟩ := PG.snoc (P := Tryd.prog) (L := L) (m0 := m) (m := m2) l[i] ael43 (by omega) hkv2 (by omega) hL (e1.trans e2) (Nat.le_refl _)
        rw [s3] at s4
        cases s4
        rw [k4 q (by omega) (fun hb => by have := (hkv2.bid_lt q hb).1; omega), gp.kept q (by omega)]
      exact h5.trans hq2
    rw [uc_e, uc_e, un0_e, ldc hq3, oOpt_e]
    refine possible_sp (n := n) hlf (Nat.le_refl _) h3.pl (by rw [List.length_append]; simp; omega) (fun h hh => ?_) fun m4 e4 => ?_
    · rcases List.mem_append.1 hh with hh | hh
      · exact hk3 h hh
      · rw [List.mem_singleton.1 hh]; exact hr _ (List.getElem_mem hil)
    · have hback := back m4 e4
      show (lbK L (m2.push ⟨2, row2 l[i], none⟩) m3 m4 kv _) = some ()
      unfold lbK
      generalize lendBack L (m2.push ⟨2, row2 l[i], none⟩) m3 m4 kv = m5 at hback ⊢
      have n5 := hback.next
      have hkv5 := (hkv2.mono gp).mono hback
      have hov5 := (hov2.mono gp).mono hback
      have e5 : Gt m m5 := (e1.trans e2).trans (gp.trans hback)
      have p5 : m5.rd m1.next = some ⟨1, [.int .i64 (l[i].1 : Int), .int .i64 (l[i].2 : Int)], none⟩ := (hback.kept _ (by omega)).trans ((gp.kept _ (by omega)).trans p2)
      dsimp only
      rw [join_e]
      unfold kS at hstep
      refine oIf_bool (fun hb => ?_) (fun hb => ?_)
      · rw [if_pos hb] at hstep
        rw [ldN2 p5, oOpt_e, bs431, oRes_e]
        obtain ⟨u6, m6, s6, h6, e6, n6, k6⟩ := PG.snoc (P := Tryd.prog) (L := L) (m0 := m) (m := m5) l[i] ael43 (by omega) hkv5 (by omega) hL e5 (Nat.le_refl _)
        have s6' : aappend Tryd.prog L (m5.push ⟨2, [.int .i64 (l[i].1 : Int), .int .i64 (l[i].2 : Int)], none⟩) 43 kv (slTo 1 m5.next) = some (u6, m6) := s6
        rw [s6', oRes_e, bs22, oRes_e]
        have hov6 : GN m.next m6 ov (keepL (l.take i)).2.1 := by
          refine GL.keep hov5 fun c hc hlc => k6 c ?_ fun hb => hap c hb hc
          exact (Gs.bid_lt hov5 c hc).2
        obtain ⟨u7, m7, s7, h7, e7, n7, k7⟩ := GL.snocV (P := Tryd.prog) (L := L) (m0 := m) (m := m6) (i : Int) ael22 (by omega) hov6 (by rw [ci_length]; omega) hL e6 (Nat.le_refl _)
        rw [s7, oRes_e]
        (try dsimp only)
        rw [uc_e, uc_e, oInt_add ⟨by omega, by omega⟩]
        have hb6 := h6.bid_lt
        refine hself hil _ _ ⟨u6, u7, rfl, e7, ?_, ?_, fun c hc1 hc2 => ?_⟩
        · rw [hstep]
          refine (h6.keep fun c hc hlc => k7 c (hb6 c hc).2 fun hb => ?_).le (by omega)
          have h8 := (Gs.bid_lt hov6 c hb)
          have h9 := (Gs.bid_lt hov5 c hb).2
          have := (hb6 c hc).1
          omega
        · rw [hstep]
          show GL m.next m7 u7 (ci ((keepL (l.take i)).2.1 ++ [(keepL (l.take i)).2.2]))
          rw [ci_snoc, hcnt]
          exact h7.le (by omega)
        · have h8 := (hb6 c hc1).2
          have h9 := (Gs.bid_lt h7 c hc2).1
          omega
      · rw [if_neg (by rw [hb]; simp)] at hstep
        (try dsimp only)
        rw [uc_e, uc_e, oInt_add ⟨by omega, by omega⟩]
        refine hself hil _ _ ⟨kv, ov, rfl, e5, by rw [hstep]; exact hkv5, by rw [hstep]; exact hov5, hap⟩
  · have hiw : i = l.length := by omega
    subst hiw
    rw [List.take_length] at hov
    exact hk ov m1 e1 hov
theorem keep_sp {v : Value} {l : List Hp} (hlf : 1000000 ≤ lf) (hL : L ≤ m.next) (hv : PL m v l) (hl : l.length ≤ 10) (hr : ∀ h ∈ l, h.1 ≤ h.2 ∧ h.2 ≤ 23)
    (hk : ∀ u m', Gt m m' → GN m.next m' u (keepL l).2.1 → k (.tuple ⟨[u, .int .i64 0]⟩) m' = some ()) : runT (tab lf) (n + 8) 20 [v, .int .i64 1] L m k = some () := by
  rw [r20]; dsimp only [S20, iofNat, inegSucc]
  rw [uc_e, uc_e, un0_e]
  refine bx1 rfl fun m1 e1 p1 n1 => ?_
  rw [ldc p1, oOpt_e]
  refine handed_sp (n := n + 4) hlf (by omega) (hv.mono e1) hl hr fun m2 e2 => ?_
  have n2 := e2.next
  rw [oInt_neq, decide_eq_true rfl, Bool.not_true, oIf_f]
  have hq : NC m2 m.next 1 := (e2.kept _ (by omega)).trans p1
  refine choose_sp hlf (by omega) ((hv.mono e1).mono e2) hq hl (fun h hh => (hr h hh).2) fun u m3 e3 hu => ?_
  exact hk u m3 ((e1.trans e2).trans e3) (hu.le (by omega))
end
end Go.Vit
