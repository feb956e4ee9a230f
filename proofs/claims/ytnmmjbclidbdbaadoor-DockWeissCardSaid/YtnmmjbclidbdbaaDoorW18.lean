/- Walks: the list of wishes with a number, both ways. -/
import Derived.Test.YtnmmjbclidbdbaaDoorW17
set_option linter.unusedSimpArgs false
set_option linter.unusedVariables false
set_option maxRecDepth 20000
namespace Go.Vit
open Go Go.Proofs
attribute [local irreducible] runT loopS
def atE (b c x : Int) : Int := if cOk b c then (if inI x 0 (cX b c - 1) then 0 else 1) else 1
theorem as72_st (p q : Int) : aassert Tryd.prog (stV p q) 72 true = some (.tuple ⟨[.agg ⟨[]⟩, .bool false]⟩) := by kernel_rfl
theorem ax0 (a b : Value) : aextract (.tuple ⟨[a, b]⟩) 0 = some a := id rfl
theorem ax1 (a b : Value) : aextract (.tuple ⟨[a, b]⟩) 1 = some b := id rfl
theorem Mem.cut_gt {m : Mem} {n : Nat} (h : n ≤ m.next) : Gt ⟨m.tr, n⟩ m := ⟨h, fun b hb => by
  have hb : b < n := hb
  unfold Mem.rd
  rw [if_pos (by simp; omega), if_pos (by simpa using hb)]⟩
/-- What is left to find. -/
def Rest (N j q : Nat) (w : List Nat) (T num : Nat) : Prop := ∀ l : List Nat, l.length + w.length = j → srvB N l T = true → numD N l T = num → srvB N (w ++ l) 0 = true ∧ numD N (w ++ l) 0 = q
theorem Rest.zero (N j q : Nat) : Rest N j q [] 0 q := fun l _ h1 h2 => ⟨h1, h2⟩
theorem Rest.step {N j q x b i : Nat} {w : List Nat} {T num : Nat} (h : Rest N j q w T num) (hw : w.length = i) (hi : i < j) (hb : fbay N (fun c => T.testBit c) x = some b) (hn : sumC (gW N T (j - i - 1)) x ≤ num) : Rest N j q (w ++ [x]) (T ||| 2 ^ b) (num - sumC (gW N T (j - i - 1)) x) := by
  intro l hl h1 h2
  rw [List.length_append, List.length_cons, List.length_nil] at hl
  rw [List.append_assoc]
  refine h (x :: l) (by rw [List.length_cons]; omega) ?_ ?_
  · unfold srvB; rw [hb]; exact h1
  · rw [numD_c hb, show l.length = j - i - 1 by omega, h2]; omega
section
variable {lf n L : Nat} {m : Mem} {k : Value → Mem → Option Unit}
theorem mk2 {z1 z2 a b : Value} (hL : L ≤ m.next) (ha : allOne [a, b] = true) {F : Value → Value → Mem → Option Unit} (hk : ∀ m', Gt m m' → m'.rd m.next = some ⟨1, [a, b], none⟩ → m'.next = m.next + 1 → F (ptrTo m.next) Go.undef m' = some ()) :
    (oRes (anew m 1 [z1, z2] ptrTo) fun t m' => oRes (st1 2 L m' t (.agg ⟨[a, b]⟩)) (F t)) = some () := by
  rw [anew_eq, oRes_e]
  have hst : st1 2 L (m.push ⟨1, [z1, z2], none⟩) (ptrTo m.next) (.agg ⟨[a, b]⟩) = some (Go.undef, (m.push ⟨1, [z1, z2], none⟩).put m.next (some ⟨1, [a, b], none⟩)) := by
    show st1 2 L _ (.pointer (some ⟨m.next, 0, none⟩)) _ = _
    rw [st1_u, Mem.rd_push]
    exact stw_e hL rfl (Nat.le_refl _) ha
  rw [hst, oRes_e]
  exact hk _ (Mem.put_gt (Mem.gt_push _ _) _ (Nat.le_refl _)) (Mem.rd_put_eq _ _ (by rw [Mem.push_next]; omega)) rfl
theorem ldN2 {m : Mem} {p : Nat} {a b : Value} (h : m.rd p = some ⟨1, [a, b], none⟩) : ldN m 2 (ptrTo p) = some (.agg ⟨[a, b]⟩) := by
  show ldN m 2 (.pointer (some ⟨p, 0, none⟩)) = _
  rw [ldN_u, h]; rfl
/-- A cart comes to a copy of the row. -/
theorem probe3_sp {F N T w pr : Nat} (hTb : TabOk mTab m) (hN : N ≤ 8) (hT : T < 256) (hw : w ≤ 8) (hL : L ≤ m.next) (hr : m.rd pr = some (rowB N T)) {K : Value → Value → Mem → Option Unit}
    (hyes : ∀ c m', fbay N (fun c => T.testBit c) w = some c → Gt m m' → m'.rd m.next = some (rowB N (T ||| 2 ^ c)) → m'.next = m.next + 1 → K (ptrTo m.next) (stV (c : Int) ((c : Int) - (w : Int))) m' = some ()) (hno : ∀ m', fbay N (fun c => T.testBit c) w = none → Gt m m' → K (ptrTo m.next) leV m' = some ()) :
    (oOpt (ldN m 2 (ptrTo pr)) fun t64 => oRes (anew m 1 [.int .i64 0, .int .u64 0] ptrTo) fun t65 m66 => oRes (st1 2 L m66 t65 t64) fun t67 m68 => runT (tab lf) (F + 3) 62 [t65, .int .i64 (w : Int)] L m68 (K t65)) = some () := by
  rw [ldN2 hr, oOpt_e]
  refine mk2 hL rfl fun m1 e1 q1 n1 => ?_
  refine come1_sp (n := F) (hTb.mono e1) q1 hL hN hT hw (fun hf => ?_) (fun c hf => ?_)
  · exact hno _ hf e1
  · exact hyes c _ hf (Mem.put_gt e1 _ (Nat.le_refl _)) (Mem.rd_put_eq _ _ (by omega)) n1
set_option maxHeartbeats 4000000 in
theorem at_sp {b c x : Int} (hlf : 1000000 ≤ lf) (hL : L ≤ m.next) (hT : TabOk mTab m)
    (hno : atE b c x ≠ 0 → ∀ m', Gt m m' → k (.tuple ⟨[.slice none 0 0, .int .i64 (atE b c x)]⟩) m' = some ())
    (hyes : ∀ (N j q : Nat), b = N → c = j → x = q → 1 ≤ N → N ≤ 8 → j ≤ N → q < cntW N j 0 → atE b c x = 0 → ∀ u m' w, Gt m m' → GN m.next m' u w → srvB N w 0 = true → w.length = j → numD N w 0 = q → k (.tuple ⟨[u, .int .i64 0]⟩) m' = some ()) :
    runT (tab lf) (n + 20) 35 [.int .i64 b, .int .i64 c, .int .i64 x] L m k = some () := by
  rw [r35]; dsimp only [S35, iofNat, inegSucc]
  rw [uc_e, uc_e, uc_e, un0_e]
  refine count_sp (n := n + 8) hlf hL fun m1 e1 => ?_
  have n1 := e1.next
  rw [ax0, oOpt_e, ax1, oOpt_e, oInt_neq]
  by_cases hok : cOk b c
  · obtain ⟨N, rfl⟩ : ∃ N : Nat, b = N := ⟨b.toNat, by have := hok.1.1; omega⟩
    obtain ⟨j, rfl⟩ : ∃ j : Nat, c = j := ⟨c.toNat, by have := hok.2.1; omega⟩
    have hcE : cE (N : Int) (j : Int) = 0 := if_pos hok
    have hcX : cX (N : Int) (j : Int) = (cntW N j 0 : Int) := by unfold cX; rw [if_pos hok, Int.toNat_natCast, Int.toNat_natCast]
    have hN1 : 1 ≤ N := by have := hok.1.1; omega
    have hN8 : N ≤ 8 := by have := hok.1.2; omega
    have hjN : j ≤ N := by have := hok.2.2; omega
    have hcb : cntW N j 0 ≤ 281474976710656 := Nat.le_trans (cntW_le hN8 j 0) (Nat.le_trans (Nat.pow_le_pow_right (by omega) (show j ≤ 8 by omega)) (by decide))
    rw [hcE, hcX, show (!decide ((0 : Int) = 0)) = false from rfl, oIf_f, oInt_sub ⟨by omega, by omega⟩]
    refine within_sp x 0 _ ?_
    by_cases hx : inI x 0 ((cntW N j 0 : Int) - 1)
    · obtain ⟨q, rfl⟩ : ∃ q : Nat, x = q := ⟨x.toNat, by have := hx.1; omega⟩
      have hq : q < cntW N j 0 := by have := hx.2; omega
      have hE : atE (N : Int) (j : Int) (q : Int) = 0 := by unfold atE; rw [if_pos hok, hcX, if_pos hx]
      have hyes := hyes N j q rfl rfl rfl hN1 hN8 hjN hq hE
      clear hno
      rw [decide_eq_true hx, aun_not, oOpt_e, Bool.not_true, oIf_f, amakeMap_e, oRes_e, bu86, oOpt_e]
      have e2 := Mem.gt_push m1 ⟨0, [], some []⟩
      have q2 : mOk N m1.next (m1.push ⟨0, [], some []⟩) := ⟨[], Mem.rd_push _ _⟩
      have n2 : (m1.push ⟨0, [], some []⟩).next = m1.next + 1 := Mem.push_next _ _
      generalize m1.push ⟨0, [], some []⟩ = m2 at e2 q2 n2 ⊢
      refine mk2 (by omega) rfl fun m3 e3 q3 n3 => ?_
      rw [bu76, oOpt_e]
      refine mk2 (by omega) rfl fun m4 e4 q4 n4 => ?_
      have E4 : Gt m m4 := ((e1.trans e2).trans e3).trans e4
      have q3 := (e4.kept _ (by omega)).trans q3
      rw [oInt_sub ⟨by omega, by omega⟩]
      have q2 := (q2.mono e3).mono e4
      refine loop_up j (fun i vs m' => ∃ (T num : Nat) (u : Value) (w : List Nat), vs = [.int .i64 (num : Int), u, .int .i64 ((j : Int) - 1 - (i : Int))] ∧ T < 256 ∧ num < cntW N (j - i) T ∧ w.length = i ∧ Rest N j q w T num ∧ GN m4.next m' u w ∧ GtX (fun c => c = m1.next ∨ c = m3.next) m4 m' ∧ mOk N m1.next m' ∧ m'.rd m3.next = some (rowB N T)) (by omega)
        ⟨0, q, _, [], by rw [show (j : Int) - 1 - ((0 : Nat) : Int) = (j : Int) - 1 by omega], by omega, hq, rfl, Rest.zero N j q, GN.nil _ _, GtX.refl _, q2, q4⟩ ?_
      rintro i vs m5 hi ⟨T, num, u, w, rfl, hT8, hnum, hwl, hR, hg, e5, hm5, q5⟩ self hself
      have n5 := e5.next
      rw [uc_e, uc_e, uc_e, oInt_geq]
      refine oIf_dec (fun hc => ?_) (fun hc => ?_)
      · have hij : i < j := by omega
        rw [join_e]
        obtain ⟨g, hgd⟩ : ∃ g, g = gW N T (j - i - 1) := ⟨_, rfl⟩
        have hcs : cntW N (j - i) T = sumC g N := by rw [show j - i = (j - i - 1) + 1 by omega, cntW_succ, hgd]
        have hcb2 : cntW N (j - i) T ≤ 281474976710656 := Nat.le_trans (cntW_le hN8 _ _) (Nat.le_trans (Nat.pow_le_pow_right (by omega) (show j - i ≤ 8 by omega)) (by decide))
        refine loop_up N (fun y vs m' => sumC g y ≤ num ∧ vs = [.int .i64 ((num - sumC g y : Nat) : Int), u, .int .i64 (y : Int)] ∧ GtX (· = m1.next) m5 m' ∧ mOk N m1.next m') (by omega) ⟨Nat.zero_le _, rfl, GtX.refl _, hm5⟩ ?_
        rintro y vs m6 hy ⟨hle, rfl, e6, hm6⟩ self2 hself2
        have n6 := e6.next
        have q6 := (e6.kept m3.next (by have := Mem.rd_lt q5; omega) (by omega)).trans q5
        rw [uc_e, uc_e, uc_e, oInt_lss]
        have hyN : y < N := by
          rcases Nat.lt_or_ge y N with h | h
          · exact h
          · rw [show y = N by omega] at hle; omega
        rw [decide_eq_true (show (y : Int) < (N : Int) by omega), oIf_t, join_e]
        have hss := sumC_s g y
        have hsN := sumC_mono g (show y + 1 ≤ N by omega)
        have E5 : Gt m m5 := GtX.gt E4 e5 fun c hc => by rcases hc with h | h <;> omega
        have E6 : Gt m m6 := GtX.gt E5 e6 fun c hc => by omega
        refine probe3_sp (F := n + 16) (hT.mono E6) hN8 hT8 (by omega) (by omega) q6 (fun c m7 hf e7 q7 n7 => ?_) (fun m7 hf e7 => ?_)
        · have hc8 := (fbay_some hf).1
          have hgy : g y = cntW N (j - i - 1) (T ||| 2 ^ c) := by rw [hgd]; exact gW_some hf
          have hst0 : st1 0 L (m7.push ⟨1, [], none⟩) (ptrTo m7.next) (.agg ⟨[]⟩) = some (Go.undef, (m7.push ⟨1, [], none⟩).put m7.next (some ⟨1, [], none⟩)) := by
            show st1 0 L _ (.pointer (some ⟨m7.next, 0, none⟩)) _ = _
            rw [st1_u, Mem.rd_push]
            exact stw_e (by omega) rfl (Nat.le_refl _) rfl
          rw [as72_st, oOpt_e, ax0, oOpt_e, ax1, oOpt_e, anew_eq, oRes_e, hst0, oRes_e, oIf_f]
          have e8 : Gt m7 ((m7.push ⟨1, [], none⟩).put m7.next (some ⟨1, [], none⟩)) := Mem.put_gt (Mem.gt_push _ _) _ (Nat.le_refl _)
          have n8 : ((m7.push ⟨1, [], none⟩).put m7.next (some ⟨1, [], none⟩)).next = m7.next + 1 := rfl
          generalize (m7.push ⟨1, [], none⟩).put m7.next (some ⟨1, [], none⟩) = m8 at e8 n8 ⊢
          have q8 := (e8.kept _ (by omega)).trans q7
          have hmn := hm6.lt
          have qc8 := (((e8.kept m2.next (by omega)).trans (e7.kept m2.next (by omega))).trans (e6.kept m2.next (by omega) (by omega))).trans ((e5.kept m2.next (by omega) (by omega)).trans q3)
          have f1 : fa 1 (ptrTo m6.next) = some (.pointer (some ⟨m6.next, 1, none⟩)) := rfl
          have l1 : ld1 m8 (.pointer (some ⟨m6.next, 1, none⟩)) = some (.int .u64 ((T ||| 2 ^ c : Nat) : Int)) := by rw [ld1_u, q8]; rfl
          rw [ldN2 qc8, oOpt_e, f1, oOpt_e, l1, oOpt_e, show (j : Int) - 1 - (i : Int) = ((j - i - 1 : Nat) : Int) by omega, show n + 16 + 3 = (n + 17 - (j - i - 1)) + (j - i - 1) + 2 by omega]
          refine count70_sp (N := N) (mb := m1.next) hlf hN8 (j - i - 1) (or_bit hT8 (by omega)) (by omega) ((hm6.mono e7).mono e8) (by omega) fun m9 e9 hm9 => ?_
          have n9 := e9.next
          rw [← hgy, oInt_geq]
          refine oIf_dec (fun h2 => ?_) (fun h2 => ?_)
          · rw [oInt_sub ⟨by omega, by omega⟩]
            dsimp only
            rw [uc_e, uc_e, oInt_add ⟨by omega, by omega⟩]
            exact hself2 hyN _ _ ⟨by omega, by rw [show ((num - sumC g y : Nat) : Int) - (g y : Int) = ((num - sumC g (y + 1) : Nat) : Int) by omega]; rfl, (e6.trans (GtX.of (e7.trans e8))).trans e9, hm9⟩
          · clear hself2
            have q9 := (e9.kept m6.next (by omega) (by omega)).trans q8
            have qr9 : m9.rd m3.next = some (rowB N T) := (e9.kept m3.next (by omega) (by omega)).trans (((e8.kept m3.next (by omega)).trans (e7.kept m3.next (by omega))).trans q6)
            have hst1 : st1 2 L m9 (ptrTo m3.next) (.agg ⟨[.int .i64 (N : Int), .int .u64 ((T ||| 2 ^ c : Nat) : Int)]⟩) = some (Go.undef, m9.put m3.next (some (rowB N (T ||| 2 ^ c)))) := by
              show st1 2 L _ (.pointer (some ⟨m3.next, 0, none⟩)) _ = _
              rw [st1_u, qr9]
              exact stw_e (by omega) rfl (Nat.le_refl _) rfl
            rw [ldN2 q9, oOpt_e, hst1, oRes_e]
            have e59 : GtX (fun c => c = m1.next ∨ c = m3.next) m4 (m9.put m3.next (some (rowB N (T ||| 2 ^ c)))) := by
              have e69 : GtX (fun c => c = m1.next ∨ c = m3.next) m5 m9 := ((e6.trans (GtX.of (e7.trans e8))).trans e9).more fun c hc => .inl hc
              exact (e5.trans e69).put (.inr rfl) _
            have q10 : (m9.put m3.next (some (rowB N (T ||| 2 ^ c)))).rd m3.next = some (rowB N (T ||| 2 ^ c)) := Mem.rd_put_eq _ _ (by omega)
            have hm10 : mOk N m1.next (m9.put m3.next (some (rowB N (T ||| 2 ^ c)))) := by
              obtain ⟨el, hel⟩ := hm9
              exact ⟨el, (Mem.rd_put _ _ _ _ (by omega)).trans hel⟩
            have hg10 : GN m4.next (m9.put m3.next (some (rowB N (T ||| 2 ^ c)))) u w := by
              rcases hg with hg | ⟨b, h3, h4, h5, h6⟩
              · exact .inl hg
              · have hbl := Mem.rd_lt h5
                refine .inr ⟨b, h3, h4, ?_, h6⟩
                rw [Mem.rd_put _ _ _ _ (by omega), e9.kept b (by omega) (by omega), e8.kept b (by omega), e7.kept b (by omega), e6.kept b hbl (by omega), h5]
            have n10 : (m9.put m3.next (some (rowB N (T ||| 2 ^ c)))).next = m9.next := rfl
            generalize m9.put m3.next (some (rowB N (T ||| 2 ^ c))) = m10 at e59 q10 hm10 hg10 n10 ⊢
            rw [bs22, oRes_e]
            have ec : Gt ⟨m10.tr, m4.next⟩ m10 := Mem.cut_gt (by omega)
            obtain ⟨z, m11, g1, g2, g3, g4⟩ := GN.snoc (P := Tryd.prog) (L := L) (L0 := m4.next) (m0 := ⟨m10.tr, m4.next⟩) y ael22 (by omega) hg10 (by omega) (by omega) ec (Nat.le_refl _)
            rw [g1, oRes_e]
            have k11 : ∀ b, b < m4.next → m11.rd b = m10.rd b := fun b hb => (g3.kept b hb).trans (ec.kept b hb).symm
            dsimp only
            rw [uc_e, uc_e, oInt_sub ⟨by omega, by omega⟩]
            refine hself hij _ _ ⟨T ||| 2 ^ c, num - sumC g y, z, w ++ [y], by rw [show ((j - i - 1 : Nat) : Int) - 1 = (j : Int) - 1 - ((i + 1 : Nat) : Int) by omega], or_bit hT8 (by omega), ?_, by rw [List.length_append, hwl]; rfl, ?_, g2.le (by omega), ?_, ?_, (k11 _ (by omega)).trans q10⟩
            · rw [show j - (i + 1) = j - i - 1 by omega, ← hgy]; omega
            · rw [hgd]
              exact hR.step hwl hij hf (by rw [← hgd]; exact hle)
            · exact ⟨by have := e59.next; omega, fun b hb hn => (k11 b hb).trans (e59.kept b hb hn)⟩
            · obtain ⟨el, hel⟩ := hm10
              exact ⟨el, (k11 _ (by omega)).trans hel⟩
        · have hgy : g y = 0 := by rw [hgd]; exact gW_none hf
          have n7 := e7.next
          have hst0 : st1 0 L (m7.push ⟨1, [], none⟩) (ptrTo m7.next) (.agg ⟨[]⟩) = some (Go.undef, (m7.push ⟨1, [], none⟩).put m7.next (some ⟨1, [], none⟩)) := by
            show st1 0 L _ (.pointer (some ⟨m7.next, 0, none⟩)) _ = _
            rw [st1_u, Mem.rd_push]
            exact stw_e (by omega) rfl (Nat.le_refl _) rfl
          rw [as72_le, oOpt_e, ax0, oOpt_e, ax1, oOpt_e, anew_eq, oRes_e, hst0, oRes_e, oIf_t]
          have e8 : Gt m7 ((m7.push ⟨1, [], none⟩).put m7.next (some ⟨1, [], none⟩)) := Mem.put_gt (Mem.gt_push _ _) _ (Nat.le_refl _)
          generalize (m7.push ⟨1, [], none⟩).put m7.next (some ⟨1, [], none⟩) = m8 at e8 ⊢
          dsimp only
          rw [uc_e, uc_e, oInt_add ⟨by omega, by omega⟩]
          exact hself2 hyN _ _ ⟨by omega, by rw [show num - sumC g (y + 1) = num - sumC g y by omega]; rfl, e6.trans (GtX.of (e7.trans e8)), (hm6.mono e7).mono e8⟩
      · have hij : i = j := by omega
        subst hij
        have h0 : num = 0 := by rw [Nat.sub_self] at hnum; have : cntW N 0 T = 1 := rfl; omega
        subst h0
        obtain ⟨h1, h2⟩ := hR [] (by simpa using hwl) rfl rfl
        rw [List.append_nil] at h1 h2
        exact hyes u m5 w (GtX.gt E4 e5 fun c hc => by rcases hc with h | h <;> omega) (hg.le (by omega)) h1 hwl h2
    · have hE : atE (N : Int) (j : Int) x = 1 := by unfold atE; rw [if_pos hok, hcX, if_neg hx]
      have hno := hno (by rw [hE]; decide) m1 e1
      rw [hE] at hno
      rw [decide_eq_false hx, aun_not, oOpt_e, Bool.not_false, oIf_t]
      exact hno
  · have hcE : cE b c = 1 := if_neg hok
    have hE : atE b c x = 1 := by unfold atE; rw [if_neg hok]
    have hno := hno (by rw [hE]; decide) m1 e1
    rw [hE] at hno
    rw [hcE, show (!decide ((1 : Int) = 0)) = true from rfl, oIf_t]
    exact hno
set_option maxHeartbeats 4000000 in
theorem rat_sp {b c x : Int} (hlf : 1000000 ≤ lf) (hL : L ≤ m.next)
    (hno : atE b c x ≠ 0 → k (.tuple ⟨[.slice none 0 0, .int .i64 (atE b c x)]⟩) m = some ())
    (hyes : ∀ (N j q : Nat), b = N → c = j → x = q → 1 ≤ N → N ≤ 8 → j ≤ N → q < cntW N j 0 → atE b c x = 0 → ∀ u m' w, Gt m m' → GN m.next m' u w → srvB N w 0 = true → w.length = j → numD N w 0 = q → k (.tuple ⟨[u, .int .i64 0]⟩) m' = some ()) :
    runT (tab lf) (n + 20) 36 [.int .i64 b, .int .i64 c, .int .i64 x] L m k = some () := by
  rw [r36]; dsimp only [S36, iofNat, inegSucc]
  rw [uc_e, uc_e, uc_e, un0_e]
  refine rcount_sp (n := n + 7) hlf ?_
  rw [ax0, oOpt_e, ax1, oOpt_e, oInt_eql, join_e]
  by_cases hok : cOk b c
  · obtain ⟨N, rfl⟩ : ∃ N : Nat, b = N := ⟨b.toNat, by have := hok.1.1; omega⟩
    obtain ⟨j, rfl⟩ : ∃ j : Nat, c = j := ⟨c.toNat, by have := hok.2.1; omega⟩
    have hcE : cE (N : Int) (j : Int) = 0 := if_pos hok
    have hcX : cX (N : Int) (j : Int) = (cntW N j 0 : Int) := by unfold cX; rw [if_pos hok, Int.toNat_natCast, Int.toNat_natCast]
    have hN1 : 1 ≤ N := by have := hok.1.1; omega
    have hN8 : N ≤ 8 := by have := hok.1.2; omega
    have hjN : j ≤ N := by have := hok.2.2; omega
    have hcb : cntW N j 0 ≤ 281474976710656 := Nat.le_trans (cntW_le hN8 j 0) (Nat.le_trans (Nat.pow_le_pow_right (by omega) (show j ≤ 8 by omega)) (by decide))
    rw [hcE, hcX, show decide ((0 : Int) = 0) = true from rfl, oGT_t, oInt_sub ⟨by omega, by omega⟩]
    refine in_sp x 0 _ ?_
    by_cases hx : inI x 0 ((cntW N j 0 : Int) - 1)
    · obtain ⟨q, rfl⟩ : ∃ q : Nat, x = q := ⟨x.toNat, by have := hx.1; omega⟩
      have hq : q < cntW N j 0 := by have := hx.2; omega
      have hE : atE (N : Int) (j : Int) (q : Int) = 0 := by unfold atE; rw [if_pos hok, hcX, if_pos hx]
      have hyes := hyes N j q rfl rfl rfl hN1 hN8 hjN hq hE
      clear hno
      rw [decide_eq_true hx, aun_not, oOpt_e, Bool.not_true]
      try simp (disch := first | omega | with_unfolding_all exact id rfl | with_unfolding_all exact Nat.le_of_ble_eq_true rfl | (simp only [Jd, Je, Jr, Js, Jt, Nat.reduceAdd, allOne, oneCell, Bool.and_self, Jc]; first | done | omega)) only [↓Qa, ↓Qb, Qd, Qe, Qf, Qg, Qh, Qi, Qj, Qk, Ql, Qm, Qn, Qo, Qp, Qq, Qr, Qs, Qt, Qu, Qv, Qw, Qx, Qy, ptrTo, Qz, QA, QB, QC, QD, QE, QF, QG, QH, QI, QJ, QK, QL, QM, QN, QO, QP, QQ, QR, QS, QT, QU, QV, QW, QX, QY, QZ, Ja, Jb, Jc, Jd, Je, Jf, Jg, Jh, Ji, Jj, Jk, Jl, Jm, Jn, Jo, Jp, Jq, Jr, Js, Jt, Nat.reduceAdd]
      repeat (rw [join_e]; try simp (disch := first | omega | with_unfolding_all exact id rfl | with_unfolding_all exact Nat.le_of_ble_eq_true rfl | (simp only [Jd, Je, Jr, Js, Jt, Nat.reduceAdd, allOne, oneCell, Bool.and_self, Jc]; first | done | omega)) only [↓Qa, ↓Qb, Qd, Qe, Qf, Qg, Qh, Qi, Qj, Qk, Ql, Qm, Qn, Qo, Qp, Qq, Qr, Qs, Qt, Qu, Qv, Qw, Qx, Qy, ptrTo, Qz, QA, QB, QC, QD, QE, QF, QG, QH, QI, QJ, QK, QL, QM, QN, QO, QP, QQ, QR, QS, QT, QU, QV, QW, QX, QY, QZ, Ja, Jb, Jc, Jd, Je, Jf, Jg, Jh, Ji, Jj, Jk, Jl, Jm, Jn, Jo, Jp, Jq, Jr, Js, Jt, Nat.reduceAdd])
      refine loop_up j (fun i vs m' => ∃ (T num : Nat) (u : Value) (w : List Nat), vs = [.int .i64 (num : Int), u, .int .i64 (i : Int)] ∧ BitsOf N T (parkL N w) ∧ (∀ x ∈ w, x < N) ∧ (-1 : Int) ∉ parkL N w ∧ num < cntW N (j - i) T ∧ w.length = i ∧ Rest N j q w T num ∧ GN m.next m' u w ∧ Gt m m') (by omega)
        ⟨0, q, _, [], rfl, BitsOf.nil N, (fun x hx => by cases hx), by simp [parkL, parkA], hq, rfl, Rest.zero N j q, GN.nil _ _, Gt.refl _⟩ ?_
      rintro i vs m5 hi ⟨T, num, u, w, rfl, hB, hw, hsp, hnum, hwl, hR, hg, e5⟩ self hself
      have n5 := e5.next
      rw [uc_e, uc_e, uc_e, oInt_lss]
      refine oIf_dec (fun hc => ?_) (fun hc => ?_)
      · have hij : i < j := by omega
        obtain ⟨g, hgd⟩ : ∃ g, g = gW N T (j - i - 1) := ⟨_, rfl⟩
        have hcs : cntW N (j - i) T = sumC g N := by rw [show j - i = (j - i - 1) + 1 by omega, cntW_succ, hgd]
        have hcb2 : cntW N (j - i) T ≤ 281474976710656 := Nat.le_trans (cntW_le hN8 _ _) (Nat.le_trans (Nat.pow_le_pow_right (by omega) (show j - i ≤ 8 by omega)) (by decide))
        refine loop_up N (fun y vs m' => sumC g y ≤ num ∧ vs = [.int .i64 ((num - sumC g y : Nat) : Int), .int .i64 (y : Int)] ∧ Gt m5 m' ∧ GN m.next m' u w) (by omega) ⟨Nat.zero_le _, rfl, Gt.refl _, hg⟩ ?_
        rintro y vs m6 hy ⟨hle, rfl, e6, hg6⟩ self2 hself2
        have n6 := e6.next
        have hyN : y < N := by
          rcases Nat.lt_or_ge y N with h | h
          · exact h
          · rw [show y = N by omega] at hle; omega
        have hss := sumC_s g y
        have hsN := sumC_mono g (show y + 1 ≤ N by omega)
        rw [uc_e, uc_e, bs220, oRes_e]
        refine app2 (w := w) (x := y) (by omega) hg6.inn (by omega) fun z m7 e7 hz => ?_
        have n7 := e7.next
        rw [oInt_sub ⟨by omega, by omega⟩, oInt_sub ⟨by omega, by omega⟩, show (j : Int) - (i : Int) - 1 = ((j - i - 1 : Nat) : Int) by omega]
        refine rcnt_sp (n := n + 8) hlf hN8 (by rw [List.length_append]; simp; omega) (by omega) hz ?_
        have hgy0 : endN N (cntE (w ++ [y])) N 0 (j - i - 1) = g y := by rw [hgd]; exact endN_gW hN8 hw hyN hB hsp
        rw [hgy0, oInt_lss]
        refine oIf_dec (fun h2 => ?_) (fun h2 => ?_)
        · clear hself2
          have hps := parkL_snoc N w y
          rcases bayOf_cases N (parkL N w) y with ⟨h3, h4⟩ | ⟨b, h3, h4, h5, h6, h7⟩
          · have : g y = 0 := by rw [hgd]; exact gW_none (by rw [hB.fb y]; exact h4)
            omega
          · rw [h3] at hps
            have hf : fbay N (fun c => T.testBit c) y = some b := by rw [hB.fb y]; exact h4
            have hgy : g y = cntW N (j - i - 1) (T ||| 2 ^ b) := by rw [hgd]; exact gW_some hf
            rw [bs22, oRes_e]
            obtain ⟨z2, m8, g1, g2, g3, g4⟩ := GN.snoc (P := Tryd.prog) (L := L) (L0 := m.next) (m0 := m) y ael22 (by omega) (hg6.mono e7) (by omega) (by omega) ((e5.trans e6).trans e7) (Nat.le_refl _)
            rw [g1, oRes_e, oInt_add ⟨by omega, by omega⟩]
            refine hself hij _ _ ⟨T ||| 2 ^ b, num - sumC g y, z2, w ++ [y], rfl, by rw [hps]; exact hB.put (by omega), ?_, ?_, ?_, by rw [List.length_append, hwl]; rfl, ?_, g2.le (by omega), g3⟩
            · intro x hx
              rw [List.mem_append, List.mem_singleton] at hx
              rcases hx with h | h
              · exact hw x h
              · omega
            · rw [hps, List.mem_append, List.mem_singleton]
              rintro (h' | h')
              · exact hsp h'
              · omega
            · rw [show j - (i + 1) = j - i - 1 by omega, ← hgy]; omega
            · rw [hgd]
              exact hR.step hwl hij hf (by rw [← hgd]; exact hle)
        · rw [oInt_sub ⟨by omega, by omega⟩, oInt_add ⟨by omega, by omega⟩]
          exact hself2 hyN _ _ ⟨by omega, by rw [show ((num - sumC g y : Nat) : Int) - (g y : Int) = ((num - sumC g (y + 1) : Nat) : Int) by omega]; rfl, e6.trans e7, hg6.mono e7⟩
      · have hij : i = j := by omega
        subst hij
        have h0 : num = 0 := by rw [Nat.sub_self] at hnum; have : cntW N 0 T = 1 := rfl; omega
        subst h0
        obtain ⟨h1, h2⟩ := hR [] (by simpa using hwl) rfl rfl
        rw [List.append_nil] at h1 h2
        exact hyes u m5 w e5 hg h1 hwl h2
    · have hE : atE (N : Int) (j : Int) x = 1 := by unfold atE; rw [if_pos hok, hcX, if_neg hx]
      have hno := hno (by rw [hE]; decide)
      rw [hE] at hno
      rw [decide_eq_false hx, aun_not, oOpt_e, Bool.not_false]
      try simp (disch := first | omega | with_unfolding_all exact id rfl | with_unfolding_all exact Nat.le_of_ble_eq_true rfl | (simp only [Jd, Je, Jr, Js, Jt, Nat.reduceAdd, allOne, oneCell, Bool.and_self, Jc]; first | done | omega)) only [↓Qa, ↓Qb, Qd, Qe, Qf, Qg, Qh, Qi, Qj, Qk, Ql, Qm, Qn, Qo, Qp, Qq, Qr, Qs, Qt, Qu, Qv, Qw, Qx, Qy, ptrTo, Qz, QA, QB, QC, QD, QE, QF, QG, QH, QI, QJ, QK, QL, QM, QN, QO, QP, QQ, QR, QS, QT, QU, QV, QW, QX, QY, QZ, Ja, Jb, Jc, Jd, Je, Jf, Jg, Jh, Ji, Jj, Jk, Jl, Jm, Jn, Jo, Jp, Jq, Jr, Js, Jt, Nat.reduceAdd]
      repeat (rw [join_e]; try simp (disch := first | omega | with_unfolding_all exact id rfl | with_unfolding_all exact Nat.le_of_ble_eq_true rfl | (simp only [Jd, Je, Jr, Js, Jt, Nat.reduceAdd, allOne, oneCell, Bool.and_self, Jc]; first | done | omega)) only [↓Qa, ↓Qb, Qd, Qe, Qf, Qg, Qh, Qi, Qj, Qk, Ql, Qm, Qn, Qo, Qp, Qq, Qr, Qs, Qt, Qu, Qv, Qw, Qx, Qy, ptrTo, Qz, QA, QB, QC, QD, QE, QF, QG, QH, QI, QJ, QK, QL, QM, QN, QO, QP, QQ, QR, QS, QT, QU, QV, QW, QX, QY, QZ, Ja, Jb, Jc, Jd, Je, Jf, Jg, Jh, Ji, Jj, Jk, Jl, Jm, Jn, Jo, Jp, Jq, Jr, Js, Jt, Nat.reduceAdd])
      exact hno
  · have hcE : cE b c = 1 := if_neg hok
    have hE : atE b c x = 1 := by unfold atE; rw [if_neg hok]
    have hno := hno (by rw [hE]; decide)
    rw [hE] at hno
    rw [hcE]
    try simp (disch := first | omega | with_unfolding_all exact id rfl | with_unfolding_all exact Nat.le_of_ble_eq_true rfl | (simp only [Jd, Je, Jr, Js, Jt, Nat.reduceAdd, allOne, oneCell, Bool.and_self, Jc]; first | done | omega)) only [↓Qa, ↓Qb, Qd, Qe, Qf, Qg, Qh, Qi, Qj, Qk, Ql, Qm, Qn, Qo, Qp, Qq, Qr, Qs, Qt, Qu, Qv, Qw, Qx, Qy, ptrTo, Qz, QA, QB, QC, QD, QE, QF, QG, QH, QI, QJ, QK, QL, QM, QN, QO, QP, QQ, QR, QS, QT, QU, QV, QW, QX, QY, QZ, Ja, Jb, Jc, Jd, Je, Jf, Jg, Jh, Ji, Jj, Jk, Jl, Jm, Jn, Jo, Jp, Jq, Jr, Js, Jt, Nat.reduceAdd]
    repeat (rw [join_e]; try simp (disch := first | omega | with_unfolding_all exact id rfl | with_unfolding_all exact Nat.le_of_ble_eq_true rfl | (simp only [Jd, Je, Jr, Js, Jt, Nat.reduceAdd, allOne, oneCell, Bool.and_self, Jc]; first | done | omega)) only [↓Qa, ↓Qb, Qd, Qe, Qf, Qg, Qh, Qi, Qj, Qk, Ql, Qm, Qn, Qo, Qp, Qq, Qr, Qs, Qt, Qu, Qv, Qw, Qx, Qy, ptrTo, Qz, QA, QB, QC, QD, QE, QF, QG, QH, QI, QJ, QK, QL, QM, QN, QO, QP, QQ, QR, QS, QT, QU, QV, QW, QX, QY, QZ, Ja, Jb, Jc, Jd, Je, Jf, Jg, Jh, Ji, Jj, Jk, Jl, Jm, Jn, Jo, Jp, Jq, Jr, Js, Jt, Nat.reduceAdd])
    exact hno
end
end Go.Vit
