/- Walks: the number of a list of wishes. -/
import Derived.Test.YtnmmjbclidbdbaaDoorW15
set_option linter.unusedSimpArgs false
set_option linter.unusedVariables false
set_option maxRecDepth 20000
namespace Go.Vit
open Go Go.Proofs
attribute [local irreducible] runT loopS
theorem sumC_succ (f : Nat → Nat) (b : Nat) : sumC f (b + 1) = sumC f b + f b := rfl
theorem numD_bd {N : Nat} (hN : N ≤ 8) : ∀ (l : List Nat) (T : Nat), (∀ x ∈ l, x < N) → l.length ≤ 8 → numD N l T ≤ l.length * (8 * 64 ^ 7)
  | [], _, _, _ => Nat.zero_le _
  | w :: l, T, h, h8 => by
    have h1 := numD_bd hN l (stepT N T w) (fun x hx => h x (List.mem_cons_of_mem _ hx)) (by simp at h8; omega)
    have hl : l.length ≤ 7 := by simp at h8; omega
    have h2 := sumC_le (f := gW N T l.length) (B := 64 ^ 7) w fun b _ => Nat.le_trans (gW_le hN) (Nat.pow_le_pow_right (by omega) hl)
    have hw := h w (by simp)
    have h3 : w * 64 ^ 7 ≤ 8 * 64 ^ 7 := Nat.mul_le_mul_right _ (by omega)
    show sumC (gW N T l.length) w + numD N l (stepT N T w) ≤ (l.length + 1) * (8 * 64 ^ 7)
    rw [Nat.succ_mul]
    omega
def nmX (N : Int) (l : List Int) : Int := if chkD N (N - 1) l = 0 then (if svX N l = true then (numD N.toNat (nnl l) 0 : Int) else 0) else 0
def nmE (N : Int) (l : List Int) : Int := if chkD N (N - 1) l = 0 then (if svX N l = true then 0 else 14) else chkD N (N - 1) l
section
variable {lf n L : Nat} {m : Mem} {k : Value → Mem → Option Unit}
set_option maxHeartbeats 4000000 in
theorem number_sp {N : Int} {v : Value} {l : List Int} (hlf : 1000000 ≤ lf) (hL : L ≤ m.next) (hT : TabOk mTab m) (hv : IL m v l) (hl : l.length < 1000000)
    (hk : ∀ m', Gt m m' → k (.tuple ⟨[.int .i64 (nmX N l), .int .i64 (nmE N l)]⟩) m' = some ()) :
    runT (tab lf) (n + 20) 37 [.int .i64 N, v] L m k = some () := by
  rw [r37]; dsimp only [S37, iofNat, inegSucc]
  rw [uc_e, uc_e, un0_e]
  refine comeAll_sp (n := n + 12) hlf hL hT hv hl (fun h m1 e1 => ?_) ?_
  · have := hk m1 e1
    unfold nmX nmE at this
    rw [if_neg h, if_neg h] at this
    try simp (disch := first | omega | with_unfolding_all exact id rfl | with_unfolding_all exact Nat.le_of_ble_eq_true rfl | (simp only [Jd, Je, Jr, Js, Jt, Nat.reduceAdd, allOne, oneCell, Bool.and_self, Jc]; first | done | omega)) only [decide_eq_false h, ↓Qa, ↓Qb, Qd, Qe, Qf, Qg, Qh, Qi, Qj, Qk, Ql, Qm, Qn, Qo, Qp, Qq, Qr, Qs, Qt, Qu, Qv, Qw, Qx, Qy, ptrTo, Qz, QA, QB, QC, QD, QE, QF, QG, QH, QI, QJ, QK, QL, QM, QN, QO, QP, QQ, QR, QS, QT, QU, QV, QW, QX, QY, QZ, Ja, Jb, Jc, Jd, Je, Jf, Jg, Jh, Ji, Jj, Jk, Jl, Jm, Jn, Jo, Jp, Jq, Jr, Js, Jt, Nat.reduceAdd]
    exact this
  · rintro a w rfl rfl ha1 ha8 hwl hw h0 u m1 e1 hu
    have n1 := e1.next
    try simp (disch := first | omega | with_unfolding_all exact id rfl | with_unfolding_all exact Nat.le_of_ble_eq_true rfl | (simp only [Jd, Je, Jr, Js, Jt, Nat.reduceAdd, allOne, oneCell, Bool.and_self, Jc]; first | done | omega)) only [↓Qa, ↓Qb, Qd, Qe, Qf, Qg, Qh, Qi, Qj, Qk, Ql, Qm, Qn, Qo, Qp, Qq, Qr, Qs, Qt, Qu, Qv, Qw, Qx, Qy, ptrTo, Qz, QA, QB, QC, QD, QE, QF, QG, QH, QI, QJ, QK, QL, QM, QN, QO, QP, QQ, QR, QS, QT, QU, QV, QW, QX, QY, QZ, Ja, Jb, Jc, Jd, Je, Jf, Jg, Jh, Ji, Jj, Jk, Jl, Jm, Jn, Jo, Jp, Jq, Jr, Js, Jt, Nat.reduceAdd]
    refine served_sp (n := n + 14) hlf (by omega) hu.sl fun m2 e2 => ?_
    have n2 := e2.next
    have hsv : svX (a : Int) (ci w) = decide (-1 ∉ parkL a w) := by
      unfold svX
      rw [pkX_yes h0, h0]; simp
    have hk2 : ∀ m', Gt m m' → k (.tuple ⟨[.int .i64 (if (-1 : Int) ∉ parkL a w then (numD a w 0 : Int) else 0), .int .i64 (if (-1 : Int) ∉ parkL a w then 0 else 14)]⟩) m' = some () := fun m' e' => by
      have := hk m' e'
      unfold nmX nmE at this
      rw [if_pos h0, if_pos h0, hsv, Int.toNat_natCast, nnl_ci] at this
      simpa using this
    clear hk
    by_cases hs : (-1 : Int) ∉ parkL a w
    · simp only [if_pos hs] at hk2
      rw [decide_eq_true hs]
      try simp (disch := first | omega | with_unfolding_all exact id rfl | with_unfolding_all exact Nat.le_of_ble_eq_true rfl | (simp only [Jd, Je, Jr, Js, Jt, Nat.reduceAdd, allOne, oneCell, Bool.and_self, Jc]; first | done | omega)) only [↓Qa, ↓Qb, Qd, Qe, Qf, Qg, Qh, Qi, Qj, Qk, Ql, Qm, Qn, Qo, Qp, Qq, Qr, Qs, Qt, Qu, Qv, Qw, Qx, Qy, ptrTo, Qz, QA, QB, QC, QD, QE, QF, QG, QH, QI, QJ, QK, QL, QM, QN, QO, QP, QQ, QR, QS, QT, QU, QV, QW, QX, QY, QZ, Ja, Jb, Jc, Jd, Je, Jf, Jg, Jh, Ji, Jj, Jk, Jl, Jm, Jn, Jo, Jp, Jq, Jr, Js, Jt, Nat.reduceAdd]
      rw [amakeMap_e, oRes_e, bu86, oOpt_e]
      have e3 := Mem.gt_push m2 ⟨0, [], some []⟩
      have q3 : mOk a m2.next (m2.push ⟨0, [], some []⟩) := ⟨[], Mem.rd_push _ _⟩
      have n3 : (m2.push ⟨0, [], some []⟩).next = m2.next + 1 := Mem.push_next _ _
      generalize m2.push ⟨0, [], some []⟩ = m3 at e3 q3 n3 ⊢
      have hst : stw 2 L (m3.push ⟨1, [.int .i64 0, .map none], none⟩) m3.next 0 (Value.agg ⟨[.int .i64 (a : Int), .map (some m2.next)]⟩).cells.toList (some ⟨1, [.int .i64 0, .map none], none⟩) = some (Go.undef, (m3.push ⟨1, [.int .i64 0, .map none], none⟩).put m3.next (some ⟨1, cW a m2.next, none⟩)) := stw_e (by omega) rfl (Nat.le_refl _) rfl
      rw [hst, oRes_e]
      have e4 : Gt m3 ((m3.push ⟨1, [.int .i64 0, .map none], none⟩).put m3.next (some ⟨1, cW a m2.next, none⟩)) := Mem.put_gt (Mem.gt_push _ _) _ (Nat.le_refl _)
      have q4 : ((m3.push ⟨1, [.int .i64 0, .map none], none⟩).put m3.next (some ⟨1, cW a m2.next, none⟩)).rd m3.next = some ⟨1, cW a m2.next, none⟩ := Mem.rd_put_eq _ _ (by rw [Mem.push_next]; omega)
      have n4 : ((m3.push ⟨1, [.int .i64 0, .map none], none⟩).put m3.next (some ⟨1, cW a m2.next, none⟩)).next = m3.next + 1 := rfl
      generalize (m3.push ⟨1, [.int .i64 0, .map none], none⟩).put m3.next (some ⟨1, cW a m2.next, none⟩) = m4 at e4 q4 n4 ⊢
      rw [bu76, oOpt_e]
      have hst2 : stw 2 L (m4.push ⟨1, [.int .i64 0, .int .u64 0], none⟩) m4.next 0 (Value.agg ⟨[.int .i64 (a : Int), .int .u64 0]⟩).cells.toList (some ⟨1, [.int .i64 0, .int .u64 0], none⟩) = some (Go.undef, (m4.push ⟨1, [.int .i64 0, .int .u64 0], none⟩).put m4.next (some (rowB a 0))) := stw_e (by omega) rfl (Nat.le_refl _) rfl
      rw [hst2, oRes_e]
      have e5 : Gt m4 ((m4.push ⟨1, [.int .i64 0, .int .u64 0], none⟩).put m4.next (some (rowB a 0))) := Mem.put_gt (Mem.gt_push _ _) _ (Nat.le_refl _)
      have q5 : ((m4.push ⟨1, [.int .i64 0, .int .u64 0], none⟩).put m4.next (some (rowB a 0))).rd m4.next = some (rowB a 0) := Mem.rd_put_eq _ _ (by rw [Mem.push_next]; omega)
      have n5 : ((m4.push ⟨1, [.int .i64 0, .int .u64 0], none⟩).put m4.next (some (rowB a 0))).next = m4.next + 1 := rfl
      generalize (m4.push ⟨1, [.int .i64 0, .int .u64 0], none⟩).put m4.next (some (rowB a 0)) = m5 at e5 q5 n5 ⊢
      have E5 : Gt m m5 := (((e1.trans e2).trans e3).trans e4).trans e5
      have hln : ln v = some (.int .i64 (w.length : Int)) := by have := hv.ln; rwa [ci_length] at this
      have hbd := numD_bd ha8 w 0 hw (by omega)
      have h87 : w.length * (8 * 64 ^ 7) ≤ 8 * (8 * 4398046511104) := Nat.mul_le_mul (by omega) (by decide)
      rw [hln, oOpt_e]
      refine loop_up w.length (fun i vs m' => ∃ T out : Nat, vs = [.int .i64 (out : Int), .int .i64 (i : Int)] ∧ T < 256 ∧ GtX (fun c => c = m2.next ∨ c = m4.next) m5 m' ∧ mOk a m2.next m' ∧ m'.rd m4.next = some (rowB a T) ∧ out + numD a (w.drop i) T = numD a w 0) (by omega)
        ⟨0, 0, rfl, by omega, GtX.refl _, (q3.mono e4).mono e5, q5, by rw [List.drop_zero, Nat.zero_add]⟩ ?_
      rintro i vs m6 hi ⟨T, out, rfl, hT8, e6, hm6, q6, hsum⟩ self hself
      have n6 := e6.next
      rw [uc_e, uc_e, oInt_lss]
      refine oIf_dec (fun hc => ?_) (fun hc => ?_)
      · have hil : i < w.length := by omega
        have hic : i < (ci w).length := by rw [ci_length]; exact hil
        have hwi := hw _ (List.getElem_mem hil)
        have hv6 : IL m6 v (ci w) := hv.keep fun c hc => (e6.kept c (by have := Sl.bid_lt hv (by omega) c hc; have := E5.next; omega) (by have := Sl.bid_lt hv (by omega) c hc; omega)).trans (E5.kept c (Sl.bid_lt hv (by omega) c hc))
        have hge : (ci w)[i] = (w[i] : Int) := List.getElem_map _
        have hdr : w.drop i = w[i] :: w.drop (i + 1) := List.drop_eq_getElem_cons hil
        have hml : (w.drop (i + 1)).length = w.length - i - 1 := by rw [List.length_drop]; omega
        rw [hdr] at hsum
        have hsum : out + (sumC (gW a T (w.drop (i + 1)).length) w[i] + numD a (w.drop (i + 1)) (stepT a T w[i])) = numD a w 0 := hsum
        rw [hml] at hsum
        rw [hv6.ia hic, oOpt_e, hv6.ld hic, oOpt_e, hge]
        refine loop_up w[i] (fun x vs m' => vs = [.int .i64 ((out + sumC (gW a T (w.length - i - 1)) x : Nat) : Int), .int .i64 (x : Int)] ∧ GtX (· = m2.next) m6 m' ∧ mOk a m2.next m') (by omega) ⟨rfl, GtX.refl _, hm6⟩ ?_
        rintro x vs m7 hx ⟨rfl, e7, hm7⟩ self2 hself2
        have n7 := e7.next
        have q7 := (e7.kept m4.next (by omega) (by omega)).trans q6
        rw [uc_e, uc_e, oInt_lss]
        refine oIf_dec (fun hcx => ?_) (fun hcx => ?_)
        · have hxw : x < w[i] := by omega
          have hb1 := sumC_le (f := gW a T (w.length - i - 1)) (B := 64 ^ 7) x fun b _ => Nat.le_trans (gW_le ha8) (Nat.pow_le_pow_right (by omega) (by omega))
          have hb2 : x * 64 ^ 7 ≤ 8 * 4398046511104 := Nat.mul_le_mul (by omega) (by decide)
          have hb3 : gW a T (w.length - i - 1) x ≤ 4398046511104 := Nat.le_trans (gW_le ha8) (Nat.le_trans (Nat.pow_le_pow_right (by omega) (show w.length - i - 1 ≤ 7 by omega)) (by decide))
          have E7 : Gt m m7 := GtX.gt E5 (e6.trans (e7.more fun c hc => .inl hc)) fun c hc => by rcases hc with h | h <;> omega
          have qc7 := ((e7.kept m3.next (by omega) (by omega)).trans (e6.kept m3.next (by omega) (by omega))).trans ((e5.kept _ (by omega)).trans q4)
          refine probe2_sp (F := n + 16) (hT.mono E7) ha8 hT8 (by omega) (by omega) q7 (fun c m8 hf e8 q8 => ?_) (fun m8 hf e8 => ?_)
          · have n8 := e8.next
            have qc8 := (e8.kept m3.next (by omega)).trans qc7
            have hgw : gW a T (w.length - i - 1) x = cntW a (w.length - i - 1) (T ||| 2 ^ c) := by unfold gW; rw [hf]
            have hrdn : rdn (m8.rd m3.next) 0 2 = some (.agg ⟨cW a m2.next⟩) := by rw [qc8]; kernel_rfl
            have hrdo : rdo (m8.rd m7.next) 1 = some (.int .u64 ((T ||| 2 ^ c : Nat) : Int)) := by rw [q8]; rfl
            rw [join_e, oIf_t, hrdn, oOpt_e, hrdo, oOpt_e, oOpt_e, oInt_sub ⟨by omega, by omega⟩, oInt_sub ⟨by omega, by omega⟩, show (w.length : Int) - (i : Int) - 1 = ((w.length - i - 1 : Nat) : Int) by omega]
            rw [show n + 16 + 3 = (n + 17 - (w.length - i - 1)) + (w.length - i - 1) + 2 by omega]
            refine count70_sp (N := a) (mb := m2.next) hlf ha8 (w.length - i - 1) (or_bit hT8 (by have := (fbay_some hf).1; omega)) (by omega) (hm7.mono e8) (by omega) fun m9 e9 hm9 => ?_
            rw [← hgw, oInt_addN (by omega)]
            dsimp only
            rw [uc_e, oInt_add ⟨by omega, by omega⟩]
            exact hself2 hxw _ _ ⟨by rw [sumC_succ, Nat.add_assoc]; rfl, (e7.trans (GtX.of e8)).trans e9, hm9⟩
          · have hgw : gW a T (w.length - i - 1) x = 0 := by unfold gW; rw [hf]
            rw [join_e, oIf_f]
            dsimp only
            rw [uc_e, oInt_add ⟨by omega, by omega⟩]
            exact hself2 hxw _ _ ⟨by rw [sumC_succ, hgw]; rfl, e7.trans (GtX.of e8), hm7.mono e8⟩
        · have hxw : x = w[i] := by omega
          subst hxw
          clear hself2
          have E7 : Gt m m7 := GtX.gt E5 (e6.trans (e7.more fun c hc => .inl hc)) fun c hc => by rcases hc with h | h <;> omega
          have e67 := e6.trans (e7.more (Y := fun c => c = m2.next ∨ c = m4.next) fun c hc => .inl hc)
          have hadd : ∀ K : Value → Option Unit, oInt .add .i64 (.int .i64 (i : Int)) (.int .i64 1) K = K (.int .i64 ((i + 1 : Nat) : Int)) := fun K => by rw [oInt_add ⟨by omega, by omega⟩]; rfl
          refine come1_sp (n := n + 16) (b := m4.next) (hT.mono E7) q7 (by omega) ha8 hT8 (by omega) (fun hf => ?_) (fun c hf => ?_)
          · have hst3 : stepT a T w[i] = T := by unfold stepT; rw [hf]
            rw [hst3] at hsum
            rw [hadd]
            exact hself hil _ _ ⟨T, _, rfl, hT8, e67, hm7, q7, by omega⟩
          · have hst3 : stepT a T w[i] = T ||| 2 ^ c := by unfold stepT; rw [hf]
            rw [hst3] at hsum
            rw [hadd]
            have hc8 := (fbay_some hf).1
            refine hself hil _ _ ⟨T ||| 2 ^ c, _, rfl, or_bit hT8 (by omega), e67.put (.inr rfl) _, ?_, Mem.rd_put_eq _ _ (by omega), by omega⟩
            obtain ⟨el, hel⟩ := hm7
            exact ⟨el, (Mem.rd_put _ _ _ _ (by omega)).trans hel⟩
      · have hiw : i = w.length := by omega
        subst hiw
        rw [List.drop_length] at hsum
        have hout : out = numD a w 0 := by have h9 : numD a [] T = 0 := rfl; omega
        have := hk2 m6 (GtX.gt E5 e6 fun c hc => by rcases hc with h | h <;> omega)
        rw [← hout] at this
        exact this
    · simp only [if_neg hs] at hk2
      rw [decide_eq_false hs]
      try simp (disch := first | omega | with_unfolding_all exact id rfl | with_unfolding_all exact Nat.le_of_ble_eq_true rfl | (simp only [Jd, Je, Jr, Js, Jt, Nat.reduceAdd, allOne, oneCell, Bool.and_self, Jc]; first | done | omega)) only [↓Qa, ↓Qb, Qd, Qe, Qf, Qg, Qh, Qi, Qj, Qk, Ql, Qm, Qn, Qo, Qp, Qq, Qr, Qs, Qt, Qu, Qv, Qw, Qx, Qy, ptrTo, Qz, QA, QB, QC, QD, QE, QF, QG, QH, QI, QJ, QK, QL, QM, QN, QO, QP, QQ, QR, QS, QT, QU, QV, QW, QX, QY, QZ, Ja, Jb, Jc, Jd, Je, Jf, Jg, Jh, Ji, Jj, Jk, Jl, Jm, Jn, Jo, Jp, Jq, Jr, Js, Jt, Nat.reduceAdd]
      exact hk2 m2 (e1.trans e2)
end
end Go.Vit
