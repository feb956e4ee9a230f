/- Walks: each list of wishes is looked at. -/
import Derived.Test.YtnmmjbclidbdbaaDoorW19
import Derived.Test.YtnmmjbclidbdbaaDoorW11
import Derived.Test.YtnmmjbclidbdbaaDoorDockCountsAll
set_option linter.unusedSimpArgs false
set_option linter.unusedVariables false
set_option maxRecDepth 20000
namespace Go.Vit
open Go Go.Proofs
attribute [local irreducible] runT loopS
theorem eqB4 (x y : Bool) : abin Tryd.prog .eql 4 (.bool x) (.bool y) = some (.bool (x == y)) := by cases x <;> cases y <;> kernel_rfl
/-- What the law keeps of the lists so far. -/
def cbO (N p : Nat) : Option (List Nat) → Nat
  | some l => cbW N l 0
  | none => cntW N p 0
def wJ (pg pc N p : Nat) (o : Option (List Nat)) (m : Mem) : Prop := m.rd pg = some ⟨1, [.bool true], none⟩ ∧ m.rd pc = some ⟨1, [.int .i64 (cbO N p o : Int)], none⟩
theorem cbO_nxt {N p : Nat} {l : List Nat} (hl : l.length = p) (hlt : ∀ x ∈ l, x < N) : cbO N p (nxtL N l) = cbW N l 0 + b01 (srvB N l 0) := by
  have h := cb_nxt hlt 0
  cases hn : nxtL N l with
  | some l' => rw [hn] at h; exact h
  | none => rw [hn] at h; rw [← hl]; exact h.symm
section
variable {lf L : Nat}
set_option maxHeartbeats 4000000 in
theorem weissEach {pg pn pc pm N p : Nat} {m0 : Mem} (hlf : 1000000 ≤ lf) (hLg : L ≤ pg) (hLc : L ≤ pc) (hgc : pg ≠ pc) (hn : m0.rd pn = some ⟨1, [.int .i64 (N : Int)], none⟩) (hm : m0.rd pm = some ⟨1, [.int .i64 (p : Int)], none⟩)
    (hng : pn ≠ pg) (hnc : pn ≠ pc) (hmg : pm ≠ pg) (hmc : pm ≠ pc) (h1 : 1 ≤ N) (h8 : N ≤ 8) (hp : p ≤ N) (hLm : L ≤ m0.next) (hT : TabOk mTab m0) (hTg : mTab.next ≤ pg) (hTc : mTab.next ≤ pc) :
    EachL lf 30 L (.func (.func 45) #[] ⟨[.pointer (some ⟨pg, 0, none⟩), .pointer (some ⟨pn, 0, none⟩), .pointer (some ⟨pc, 0, none⟩), .pointer (some ⟨pm, 0, none⟩)]⟩) (fun c => c = pg ∨ c = pc) m0 N p (wJ pg pc N p) := by
  intro n m b l k e hJ hl hlt hb hXb hk
  rw [oCallV_e (hf := rfl)]
  show runT (tab lf) (n + 30) 45 [.slice (some ⟨b, 0, none⟩) p p, .pointer (some ⟨pg, 0, none⟩), .pointer (some ⟨pn, 0, none⟩), .pointer (some ⟨pc, 0, none⟩), .pointer (some ⟨pm, 0, none⟩)] L m k = some ()
  rw [r45]; dsimp only [S45, iofNat, inegSucc]
  obtain ⟨jg, jc⟩ := hJ
  have jc : m.rd pc = some ⟨1, [.int .i64 (cbW N l 0 : Int)], none⟩ := jc
  have nm := e.next
  have hn' := (e.kept pn (Mem.rd_lt hn) (fun h => by rcases h with h | h <;> contradiction)).trans hn
  have hm' := (e.kept pm (Mem.rd_lt hm) (fun h => by rcases h with h | h <;> contradiction)).trans hm
  have hTm : TabOk mTab m := ⟨Nat.le_trans hT.1 e.next, fun g hg => (e.kept g (Nat.lt_of_lt_of_le hg hT.1) (fun h => by rcases h with h | h <;> omega)).trans (hT.2 g hg)⟩
  have hv : IN m (.slice (some ⟨b, 0, none⟩) p p) l := IL.of hb (by rw [cellsN_len]; omega) (by rw [List.drop_zero, List.take_of_length_le (by rw [cellsN_len]; omega)]; rfl)
  have ld : ∀ (M : Mem) (q : Nat) (x : Value), M.rd q = some ⟨1, [x], none⟩ → ld1 M (.pointer (some ⟨q, 0, none⟩)) = some x := fun M q x h => by rw [ld1_u, h]; rfl
  have hcl := ci_length l
  have hchk := chkD_nat h1 h8 (show l.length ≤ N by omega) hlt
  have hsv : svX (N : Int) (ci l) = srvB N l 0 := by
    unfold svX
    rw [decide_eq_true hchk, Bool.true_and, pkX_yes hchk, srv_zero h8]
  have hnmX : nmX (N : Int) (ci l) = if srvB N l 0 = true then (numD N l 0 : Int) else 0 := by
    unfold nmX; rw [if_pos hchk, hsv, Int.toNat_natCast, nnl_ci]
  have hnmE : nmE (N : Int) (ci l) = if srvB N l 0 = true then 0 else 14 := by
    unfold nmE; rw [if_pos hchk, hsv]
  rw [uc_e, uc_e, uc_e, uc_e, uc_e, un0_e, ld m pg _ jg, oOpt_e, show aun .not (.bool true) = some (.bool false) from rfl, oOpt_e, oIf_f, ld m pn _ hn', oOpt_e]
  refine lcome_sp hlf (by omega) h8 hlt (by omega) hv fun u1 m1 e1 hu1 => ?_
  have n1 := e1.next
  rw [show (-(0 + 1) : Int) = -1 from rfl]
  refine contains_sp hlf hu1.il (by rw [parkL_len]; omega) ?_
  have hct : decide ((-1 : Int) ∈ parkL N l) = !srvB N l 0 := by rw [srv_zero h8, decide_not, Bool.not_not]
  rw [hct, aun_not, oOpt_e, Bool.not_not]
  have kp1 : ∀ q, q < m.next → m1.rd q = m.rd q := fun q hq => e1.kept q hq
  rw [ld m1 pn _ ((kp1 _ (Mem.rd_lt hn')).trans hn'), oOpt_e]
  refine serves_sp (n := n + 21) hlf (by omega) (hTm.mono e1) (hv.mono e1) (by omega) fun m2 e2 => ?_
  have n2 := e2.next
  have e02 := e1.trans e2
  rw [ax0, oOpt_e, ax1, oOpt_e, ld m2 pn _ ((e02.kept _ (Mem.rd_lt hn')).trans hn'), oOpt_e]
  refine number_sp (n := n + 9) hlf (by omega) (hTm.mono e02) (hv.mono e02) (by omega) fun m3 e3 => ?_
  have n3 := e3.next
  have e03 := e02.trans e3
  rw [ax0, oOpt_e, ax1, oOpt_e, hchk, hsv, oInt_eql, show decide ((0 : Int) = 0) = true from rfl, join_e, oGT_t, eqB4, oOpt_e, beq_self_eq_true]
  dsimp only
  rw [uc_e, oPick_t]
  have hW : ∃ W : Mem → Prop, W = fun M => GtX (fun c => c = pg ∨ c = pc) m M ∧ M.rd pg = some ⟨1, [.bool true], none⟩ ∧ M.rd pc = some ⟨1, [.int .i64 (cbW N l 0 : Int)], none⟩ := ⟨_, rfl⟩
  obtain ⟨W, hWd⟩ := hW
  have hst : ∀ (M : Mem) (K : Value → Mem → Option Unit), W M → oRes (st1 1 L M (.pointer (some ⟨pg, 0, none⟩)) (.bool true)) K = K Go.undef (M.put pg (some ⟨1, [.bool true], none⟩)) := fun M K h => by
    rw [hWd] at h
    rw [st_set h.2.1 (by simp) hLg rfl rfl]
    exact oRes_e _ _ _
  have hput : ∀ M : Mem, W M → W (M.put pg (some ⟨1, [.bool true], none⟩)) := fun M h => by
    rw [hWd] at h ⊢
    exact ⟨h.1.put (.inl rfl) _, Mem.rd_put_eq _ _ (Mem.rd_lt h.2.1), (Mem.rd_put _ _ _ _ hgc).trans h.2.2⟩
  have hlg : ∀ (M : Mem) (K : Value → Option Unit), W M → oOpt (ld1 M (.pointer (some ⟨pg, 0, none⟩))) K = K (.bool true) := fun M K h => by
    rw [hWd] at h
    rw [ld M pg _ h.2.1, oOpt_e]
  have hlc : ∀ (M : Mem) (K : Value → Option Unit), W M → oOpt (ld1 M (.pointer (some ⟨pc, 0, none⟩))) K = K (.int .i64 (cbW N l 0 : Int)) := fun M K h => by
    rw [hWd] at h
    rw [ld M pc _ h.2.2, oOpt_e]
  have hW3 : W m3 := by
    rw [hWd]
    exact ⟨GtX.of e03, (e03.kept _ (Mem.rd_lt jg)).trans jg, (e03.kept _ (Mem.rd_lt jc)).trans jc⟩
  have hX := cbO_nxt hl hlt
  have hcb3 : cntW N p 0 ≤ 281474976710656 := Nat.le_trans (cntW_le h8 p 0) (Nat.le_trans (Nat.pow_le_pow_right (by omega) (show p ≤ 8 by omega)) (by decide))
  have t0 : decide ((0 : Int) = 0) = true := rfl
  cases hs : srvB N l 0 with
  | false =>
    have x1 : nmX (N : Int) (ci l) = 0 := by rw [hnmX, hs]; rfl
    have x2 : nmE (N : Int) (ci l) = 14 := by rw [hnmE, hs]; rfl
    rw [hst m3 _ hW3]
    have W4 := hput m3 hW3
    generalize m3.put pg (some ⟨1, [.bool true], none⟩) = m4 at W4 ⊢
    rw [show aun .not (.bool false) = some (.bool true) from rfl, oOpt_e, oIf_t, hlg m4 _ W4, join_e, oGT_t, x2, oInt_eql, show decide ((14 : Int) = 14) = true from rfl]
    dsimp only
    rw [uc_e, oPick_t, join_e, oGT_t, x1, oInt_eql, t0]
    dsimp only
    rw [uc_e, oPick_t, hst m4 _ W4]
    have W5 := hput m4 W4
    rw [hWd] at W5
    rw [hs] at hX
    refine hk _ W5.1 ⟨W5.2.1, ?_⟩
    rw [hX]; exact W5.2.2
  | true =>
    have hnd := cbW_num hs
    have hlt2 := numD_lt hs
    rw [hl] at hlt2
    have x1 : nmX (N : Int) (ci l) = (cbW N l 0 : Int) := by rw [hnmX, hs, hnd]; rfl
    have x2 : nmE (N : Int) (ci l) = 0 := by rw [hnmE, hs]; rfl
    have fin : ∀ M, W M → (oOpt (ld1 M (.pointer (some ⟨pc, 0, none⟩))) fun t80 => oInt .add .i64 t80 (.int .i64 1) fun t81 => oRes (st1 1 L M (.pointer (some ⟨pc, 0, none⟩)) t81) fun t82 m83 => k (.tuple ⟨[]⟩) m83) = some () := fun M h => by
      rw [hlc M _ h, oInt_add ⟨by omega, by omega⟩]
      rw [hWd] at h
      rw [st_int h.2.2 (by simp) hLc, oRes_e]
      rw [hs] at hX
      refine hk _ (h.1.put (.inr rfl) _) ⟨(Mem.rd_put _ _ _ _ (Ne.symm hgc)).trans h.2.1, ?_⟩
      rw [hX]; exact Mem.rd_put_eq _ _ (Mem.rd_lt h.2.2)
    rw [hst m3 _ hW3]
    have W4 := hput m3 hW3
    generalize m3.put pg (some ⟨1, [.bool true], none⟩) = m4 at W4 ⊢
    rw [show aun .not (.bool true) = some (.bool false) from rfl, oOpt_e, oIf_f, hlg m4 _ W4, join_e, oGT_t, x2, oInt_eql, t0]
    dsimp only
    rw [uc_e, oPick_t, join_e, oGT_t, hlc m4 _ W4, x1, oInt_eql, decide_eq_true rfl]
    dsimp only
    rw [uc_e, oPick_t, hst m4 _ W4]
    have W5 := hput m4 W4
    generalize m4.put pg (some ⟨1, [.bool true], none⟩) = m5 at W5 ⊢
    rw [hlg m5 _ W5, join_e, oGT_t, hlc m5 _ W5, oInt_rem (by omega) (by omega), oInt_eql]
    dsimp only
    rw [uc_e, oPick_t, join_e]
    refine oIf_dec (fun h3 => ?_) (fun h3 => ?_)
    · have g5 : GtX (fun c => c = pg ∨ c = pc) m m5 := by have h := W5; rw [hWd] at h; exact h.1
      have n5 := g5.next
      have hT5 : TabOk mTab m5 := ⟨Nat.le_trans hTm.1 g5.next, fun g hg => (g5.kept g (Nat.lt_of_lt_of_le hg hTm.1) (fun h => by rcases h with h | h <;> omega)).trans (hTm.2 g hg)⟩
      have hv5 : IN m5 (.slice (some ⟨b, 0, none⟩) p p) l := hv.keep fun c hc => by
        cases hc
        exact g5.kept _ (Mem.rd_lt hb) hXb
      rw [ld m5 pn _ ((g5.kept pn (Mem.rd_lt hn') (fun h => by rcases h with h | h <;> contradiction)).trans hn'), oOpt_e, ld m5 pm _ ((g5.kept pm (Mem.rd_lt hm') (fun h => by rcases h with h | h <;> contradiction)).trans hm'), oOpt_e]
      refine at2_sp (n := n + 9) hlf (by omega) hT5 fun u6 m6 w e6 hu6 hR => ?_
      have hok : cOk (N : Int) (p : Int) := ⟨⟨by omega, by omega⟩, ⟨by omega, by omega⟩⟩
      have hcX : cX (N : Int) (p : Int) = (cntW N p 0 : Int) := by unfold cX; rw [if_pos hok, Int.toNat_natCast, Int.toNat_natCast]
      have hE : atE (N : Int) (p : Int) (cbW N l 0 : Int) = 0 := by
        unfold atE
        rw [if_pos hok, hcX, if_pos ⟨by omega, by omega⟩]
      have hw : w = l := by
        rcases hR with ⟨h, _⟩ | ⟨_, _, r1, r2, r3⟩
        · exact absurd hE h
        · rw [Int.toNat_natCast] at r1 r2 r3
          rw [Int.toNat_natCast] at r3
          exact numD_inj r1 hs (by omega) (by rw [r3, hnd])
      subst hw
      rw [ax0, oOpt_e, ax1, oOpt_e, hE, oInt_eql, t0, join_e, oGT_t]
      refine same_sp hlf hu6.inn (hv5.mono e6) (by omega) ?_
      rw [decide_eq_true rfl]
      dsimp only
      have W6 : W m6 := by
        have h := W5
        rw [hWd] at h ⊢
        exact ⟨h.1.trans (GtX.of e6), (e6.kept _ (Mem.rd_lt h.2.1)).trans h.2.1, (e6.kept _ (Mem.rd_lt h.2.2)).trans h.2.2⟩
      rw [uc_e, oPick_t, hst m6 _ W6]
      exact fin _ (hput m6 W6)
    · exact fin m5 W5
end
end Go.Vit
