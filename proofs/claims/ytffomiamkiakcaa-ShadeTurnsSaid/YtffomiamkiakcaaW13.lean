/- Walks: the law's iterator over all arrangements. -/
import Derived.Test.YtffomiamkiakcaaW4B
import Derived.Test.YtffomiamkiakcaaP5
import Derived.Test.YtffomiamkiakcaaCoreD
set_option linter.unusedSimpArgs false
set_option linter.unusedVariables false
set_option maxRecDepth 20000
namespace Go.Vit
open Go Go.Proofs
attribute [local irreducible] runT loopS
theorem oInt_u (op : BinOp) (a b : Int) (k : Value → Option Unit) : oInt op .u64 (.int .u64 a) (.int .u64 b) k = oOpt (aint op .u64 a b) k := rfl
theorem u97 : Try.prog.underlying 97 = some (.int .u64) := by kernel_rfl
theorem shr_u (x : Int) (w : Nat) : abin Try.prog .shr 97 (.int .u64 x) (.int .i64 (w : Int)) = some (.int .u64 (ashr x (nmin w 64))) := by
  show ashift .shr .u64 x (Int.ofNat w) = _
  unfold ashift
  rw [show ilt (Int.ofNat w) 0 = false by rw [ilt_e]; exact decide_eq_false (by rw [Int.ofNat_eq_natCast]; omega)]
  show mkI .u64 _ = _
  rw [mkI_e]; rfl
theorem shl_u (x : Int) (w : Nat) : abin Try.prog .shl 97 (.int .u64 x) (.int .i64 (w : Int)) = some (.int .u64 (ashl .u64 x (nmin w 64))) := by
  show ashift .shl .u64 x (Int.ofNat w) = _
  unfold ashift
  rw [show ilt (Int.ofNat w) 0 = false by rw [ilt_e]; exact decide_eq_false (by rw [Int.ofNat_eq_natCast]; omega)]
  show mkI .u64 _ = _
  rw [mkI_e]; rfl
theorem or_all : ((List.range 256).all fun T => (List.range 8).all fun b => ieq (abits .or .u64 (.ofNat T) (ashl .u64 1 (nmin b 64))) (.ofNat (T ||| 2 ^ b))) = true := by decide +kernel
theorem bit_all : ((List.range 256).all fun T => (List.range 9).all fun b => ieq (abits .and .u64 (ashr (.ofNat T) (nmin b 64)) 1) (match T.testBit b with | true => 1 | false => 0)) = true := by decide +kernel
theorem or_u {T b : Nat} (hT : T < 256) (hb : b < 8) (k : Value → Option Unit) : oInt .or .u64 (.int .u64 (T : Int)) (.int .u64 (ashl .u64 1 (nmin b 64))) k = k (.int .u64 ((T ||| 2 ^ b : Nat) : Int)) := by
  have := List.all_eq_true.1 (List.all_eq_true.1 or_all T (List.mem_range.2 hT)) b (List.mem_range.2 hb)
  rw [ieq_e, decide_eq_true_eq] at this
  rw [oInt_u]
  show oOpt (mkI .u64 (abits .or .u64 (Int.ofNat T) _)) k = _
  rw [this, mkI_e, oOpt_e]; rfl
theorem bit_u {T b : Nat} (hT : T < 256) (hb : b < 9) (k : Value → Option Unit) : oInt .and .u64 (.int .u64 (ashr (T : Int) (nmin b 64))) (.int .u64 1) k = k (.int .u64 (if T.testBit b then 1 else 0)) := by
  have := List.all_eq_true.1 (List.all_eq_true.1 bit_all T (List.mem_range.2 hT)) b (List.mem_range.2 hb)
  rw [ieq_e, decide_eq_true_eq] at this
  rw [oInt_u]
  show oOpt (mkI .u64 (abits .and .u64 (ashr (Int.ofNat T) _) 1)) k = _
  rw [this, mkI_e, oOpt_e]
  cases T.testBit b <;> rfl
theorem eql_u (a b : Int) (k : Value → Option Unit) : oInt .eql .u64 (.int .u64 a) (.int .u64 b) k = k (.bool (decide (a = b))) := by
  rw [oInt_u]; simp only [aint, ieq_e, mkB_e, oOpt_e]
section
variable {lf n L : Nat} {m : Mem} {k : Value → Mem → Option Unit}
/-- slices.Clip, and one appended: a block of its own. -/
theorem clip_sp {L0 : Nat} {v : Value} {l : List Int} (hv : GL L0 m v l) (hk : ∀ u, (l = [] ∧ u = .slice none 0 0) ∨ (∃ b, u = .slice (some ⟨b, 0, some 0⟩) l.length l.length ∧ v = .slice (some ⟨b, 0, none⟩) l.length l.length ∧ 0 < l.length) → k u m = some ()) :
    runT (tab lf) (n + 1) 91 [v] L m k = some () := by
  rw [r91]; dsimp only [S91, iofNat, inegSucc]
  rcases hv with ⟨rfl, h2, h3⟩ | ⟨b, hb, rfl, hr, hlen, hn⟩
  · have hl : l = [] := List.length_eq_zero_iff.1 h2
    have hs : sl Try.prog 22 (.slice none 0 0) none (some (.int .i64 0)) (some (.int .i64 0)) = some (.slice none 0 0) := by kernel_rfl
    have hln : ln (.slice none 0 0) = some (.int .i64 0) := rfl
    rw [uc_e, un0_e, hln, oOpt_e, oOpt_e, hs, oOpt_e]
    exact hk _ (.inl ⟨hl, rfl⟩)
  · have hs : sl Try.prog 22 (.slice (some ⟨b, 0, none⟩) l.length l.length) none (some (.int .i64 (l.length : Int))) (some (.int .i64 (l.length : Int))) = some (.slice (some ⟨b, 0, some 0⟩) l.length l.length) := by
      have hn2 : anat (.int .i64 (l.length : Int)) = some l.length := by
        show anat (.int .i64 (Int.ofNat l.length)) = _
        simp only [anat, natK_eq]
      have h1 : abound (tri none (some (.int .i64 (l.length : Int))) (some (.int .i64 (l.length : Int)))) (some (.tmp 1)) l.length = some l.length := hn2
      have h1' : abound (tri none (some (.int .i64 (l.length : Int))) (some (.int .i64 (l.length : Int)))) (some (.tmp 2)) l.length = some l.length := hn2
      have h2 : abounds (tri none (some (.int .i64 (l.length : Int))) (some (.int .i64 (l.length : Int)))) l.length l.length none (some (.tmp 1)) (some (.tmp 2)) = some (0, l.length, l.length) := by
        unfold abounds
        simp only [abound_none, h1, h1', ble_t (Nat.zero_le _), ble_t (Nat.le_refl _), Bool.and_self]
      unfold sl aslice
      rw [u22]
      simp only [ts3, Option.map_some, Option.map_none]
      simp only [h2, beq_f (show l.length ≠ 0 by omega)]
      have e1 : Nat.add 0 (Nat.mul 0 1) = 0 := rfl
      have e2 : Nat.sub l.length 0 = l.length := rfl
      rw [e1, e2]
    rw [uc_e, un0_e, ln_e, oOpt_e]
    try rw [ln_e]
    rw [oOpt_e, hs, oOpt_e]
    exact hk _ (.inr ⟨b, rfl, rfl, hn⟩)
theorem clip_app {L L0 : Nat} {v u : Value} {l : List Int} (x : Int) (hv : GL L0 m v l) (hl : l.length < 1000) (hu : (l = [] ∧ u = .slice none 0 0) ∨ (∃ b, u = .slice (some ⟨b, 0, some 0⟩) l.length l.length ∧ v = .slice (some ⟨b, 0, none⟩) l.length l.length ∧ 0 < l.length)) :
    ∃ w m', aappend Try.prog L (m.push ⟨1, [.int .i64 x], none⟩) 22 u (slTo 1 m.next) = some (w, m') ∧ Gt m m' ∧ GL m.next m' w (l ++ [x]) ∧ Gt (m.push ⟨1, [.int .i64 x], none⟩) m' := by
  have g1 := Mem.gt_push m ⟨1, [.int .i64 x], none⟩
  have hx : Sl 1 (m.push ⟨1, [.int .i64 x], none⟩) (slTo 1 m.next) 1 [.int .i64 x] := Gs.sl (L := m.next) (.inr ⟨m.next, Nat.le_refl _, rfl, Mem.rd_push _ _, rfl, by omega⟩)
  have n1 : (m.push ⟨1, [.int .i64 x], none⟩).next = m.next + 1 := Mem.push_next _ _
  have hv1 := hv.mono g1
  generalize m.push ⟨1, [.int .i64 x], none⟩ = m1 at g1 hx n1 hv1 ⊢
  rcases hu with ⟨rfl, rfl⟩ | ⟨b, rfl, rfl, h0⟩
  · refine ⟨slTo 1 m1.next, m1.push ⟨1, [.int .i64 x], none⟩, ?_, g1.trans (Mem.gt_push _ _), .inr ⟨m1.next, by omega, rfl, Mem.rd_push _ _, rfl, by simp⟩, Mem.gt_push _ _⟩
    have hr := roomy_of (n := 1) (y := 8) (by omega) (by omega)
    unfold aappend
    rw [ael22]
    simp only [hx.1, show roomy (Nat.succ 0) 8 = true from hr]
    exact anew_eq _ _ _ _
  · obtain ⟨q, hq⟩ : ∃ q, l.length = q + 1 := ⟨l.length - 1, by omega⟩
    have hold : rdc m1 b 0 (Nat.mul l.length 1) = some (l.map (Value.int .i64)) := by
      rcases hv1 with ⟨h, _⟩ | ⟨b', _, hb, hr, hlen, _⟩
      · cases h
      · injection hb with hb _ _
        injection hb with hb
        injection hb with hb _ _
        subst hb
        rw [rdc_e hr (by show 0 + l.length * 1 ≤ _; omega), List.drop_zero, List.take_of_length_le (by show _ ≤ l.length * 1; omega)]
    have hr := roomy_of (n := l.length + 1) (y := 8) (by omega) (by omega)
    refine ⟨slTo (l.length + 1) m1.next, m1.push ⟨1, l.map (Value.int .i64) ++ [.int .i64 x], none⟩, ?_, g1.trans (Mem.gt_push _ _), .inr ⟨m1.next, by omega, by simp [slTo], by rw [Mem.rd_push]; simp, by simp, by simp⟩, Mem.gt_push _ _⟩
    have hnn : Nat.ble l.length l.length = true := ble_t (Nat.le_refl _)
    have hnk : Nat.add l.length (Nat.succ 0) = l.length + 1 := rfl
    have hble : Nat.ble (l.length + 1) l.length = false := by
      cases hb : Nat.ble (l.length + 1) l.length with
      | false => rfl
      | true => have := Nat.le_of_ble_eq_true hb; omega
    unfold aappend
    rw [ael22]
    simp only [hx.1, natK_eq, hnn, hnk, hble, hr, hold, anew_eq]
end
section
variable (lf ce L : Nat) (ev : Value) (X : Nat → Prop) (m0 : Mem) (s : List Int) (J : List (List Int) → Mem → Prop)
/-- What is done with each arrangement. -/
def EachOk : Prop := ∀ (n : Nat) (m : Mem) (v : Value) (l : List Int) (done : List (List Int)) (k : Value → Mem → Option Unit), GtX X m0 m → J done m → (∃ D, allR s.length [] s = done ++ l :: D) → Opn v → IL m v l → l.Perm s → (∀ c, bid v = some c → ¬ X c ∧ c < m.next) →
  (∀ m', GtX X m m' → J (done ++ [l]) m' → k (.tuple ⟨[]⟩) m' = some ()) → oCallV (runT (tab lf) (n + ce)) ev [v] L m k = some ()
end
theorem fb_beq (g a b c : Nat) : bEq (some ⟨1, [.func (.func g) #[] ⟨[.pointer (some ⟨a, 0, none⟩), .pointer (some ⟨b, 0, none⟩), .pointer (some ⟨c, 0, none⟩)]⟩], none⟩) (some ⟨1, [.func (.func g) #[] ⟨[.pointer (some ⟨a, 0, none⟩), .pointer (some ⟨b, 0, none⟩), .pointer (some ⟨c, 0, none⟩)]⟩], none⟩) = true := by
  rw [bEq_ss, veqL_cons, veqL_nil]
  simp only [veq, pEqL, pEq, aEq_refl, Nat.beq_refl, Bool.and_self]
section
variable {lf ce L A B C : Nat} {ev sv : Value} {X : Nat → Prop} {m0 : Mem} {s : List Int} {J : List (List Int) → Mem → Prop}
set_option maxHeartbeats 2000000 in
theorem put_sp (hlf : 1000000 ≤ lf) (hs : s.Pairwise (· ≤ ·)) (h7 : s.length ≤ 7) (hs0 : ∀ x ∈ s, 0 ≤ x ∧ x ≤ 60) (hXA : ∀ c, X c → c < A) (hAB : A ≤ B) (hBC : B ≤ C)
    (hA : m0.rd A = some ⟨1, [sv], none⟩) (hB : m0.rd B = some ⟨1, [ev], none⟩) (hC : m0.rd C = some ⟨1, [.func (.func 90) #[] ⟨[.pointer (some ⟨A, 0, none⟩), .pointer (some ⟨B, 0, none⟩), .pointer (some ⟨C, 0, none⟩)]⟩], none⟩)
    (hsv : IL m0 sv s) (hsx : ∀ c, bid sv = some c → ¬ X c) (hE : EachOk lf ce L ev X m0 s J) (hJ : ∀ d m m', Gt m m' → J d m → J d m') :
    ∀ (kk : Nat) {n x used : Nat} {m : Mem} {lv : Value} {begun : List Int} {done : List (List Int)} {k : Value → Mem → Option Unit}, (Vl s x s.length).length = kk → (∀ i, i < s.length → x.testBit i = !used.testBit i) → used < 128 → begun.length + kk = s.length → (begun ++ Vl s x s.length).Perm s →
      GL A m lv begun → GtX X m0 m → J done m → (∃ D, allR s.length [] s = done ++ allR kk begun (Vl s x s.length) ++ D) → (∀ m', GtX X m m' → J (done ++ allR kk begun (Vl s x s.length)) m' → k (.tuple ⟨[]⟩) m' = some ()) →
      runT (tab lf) (n + kk + (ce + 1)) 90 [lv, .int .u64 (used : Int), .pointer (some ⟨A, 0, none⟩), .pointer (some ⟨B, 0, none⟩), .pointer (some ⟨C, 0, none⟩)] L m k = some () := by
  intro kk
  have nA : ¬ X A := fun h => by have := hXA A h; omega
  have nB : ¬ X B := fun h => by have := hXA B h; omega
  have nC : ¬ X C := fun h => by have := hXA C h; omega
  have lA := Mem.rd_lt hA
  have lB := Mem.rd_lt hB
  have lC := Mem.rd_lt hC
  have c0 : ∀ v : Value, ([v] : List Value)[0]? = some v := fun _ => rfl
  induction kk with
  | zero =>
    intro n x used m lv begun done k hkk hxu hu hbl hp hlv e hJ0 hAll hk
    rw [show n + 0 + (ce + 1) = (n + ce) + 1 by omega, r90]; dsimp only [S90, iofNat, inegSucc]
    have hA' := (e.kept A lA nA).trans hA
    have hB' := (e.kept B lB nB).trans hB
    have hV : Vl s x s.length = [] := List.length_eq_zero_iff.1 hkk
    have hsl : ln sv = some (.int .i64 (s.length : Int)) := hsv.ln
    rw [hV, List.append_nil] at hp
    try simp (disch := first | omega | with_unfolding_all exact id rfl | with_unfolding_all exact Nat.le_of_ble_eq_true rfl | (simp only [Jd, Je, Jr, Js, Jt, Nat.reduceAdd, allOne, oneCell, Bool.and_self, Jc]; first | done | omega)) only [hlv.ln, hA', hB', c0, hsl, decide_eq_true (show ((begun.length : Nat) : Int) = (s.length : Int) by omega), ↓Qa, ↓Qb, ↓Qc, Qd, Qe, Qf, Qg, Qh, Qi, Qj, Qk, Ql, Qm, Qn, Qo, Qp, Qq, Qr, Qs, Qt, Qu, Qv, Qw, Qx, Qy, ptrTo, Qz, QA, QB, QC, QD, QE, QF, QG, QH, QI, QJ, QK, QL, QM, QN, QO, QP, QQ, QR, QS, QT, QU, QV, QW, QX, QY, QZ, Ja, Jb, Jc, Jd, Je, Jf, Jg, Jh, Ji, Jj, Jk, Jl, Jm, Jn, Jo, Jp, Jq, Jr, Js, Jt, Nat.reduceAdd]
    refine hE n m lv begun done _ e hJ0 (by obtain ⟨D, hD⟩ := hAll; exact ⟨D, by rw [hD, List.append_assoc]; rfl⟩) hlv.opn hlv.il hp (fun c hc => ?_) fun m' e' hJ' => ?_
    · have := hlv.bid_lt c hc
      exact ⟨fun h => by have := hXA c h; omega, this.2⟩
    · rw [hV] at hk
      exact hk m' e' hJ'
  | succ kk ih =>
    intro n x used m lv begun done k hkk hxu hu hbl hp hlv e hJ0 hAll hk
    rw [show n + (kk + 1) + (ce + 1) = (n + kk + (ce + 1)) + 1 by omega, r90]; dsimp only [S90, iofNat, inegSucc]
    have hA' := (e.kept A lA nA).trans hA
    have hsl : ln sv = some (.int .i64 (s.length : Int)) := hsv.ln
    try simp (disch := first | omega | with_unfolding_all exact id rfl | with_unfolding_all exact Nat.le_of_ble_eq_true rfl | (simp only [Jd, Je, Jr, Js, Jt, Nat.reduceAdd, allOne, oneCell, Bool.and_self, Jc]; first | done | omega)) only [hlv.ln, hA', c0, hsl, decide_eq_false (show ¬ ((begun.length : Nat) : Int) = (s.length : Int) by omega), ↓Qa, ↓Qb, ↓Qc, Qd, Qe, Qf, Qg, Qh, Qi, Qj, Qk, Ql, Qm, Qn, Qo, Qp, Qq, Qr, Qs, Qt, Qu, Qv, Qw, Qx, Qy, ptrTo, Qz, QA, QB, QC, QD, QE, QF, QG, QH, QI, QJ, QK, QL, QM, QN, QO, QP, QQ, QR, QS, QT, QU, QV, QW, QX, QY, QZ, Ja, Jb, Jc, Jd, Je, Jf, Jg, Jh, Ji, Jj, Jk, Jl, Jm, Jn, Jo, Jp, Jq, Jr, Js, Jt, Nat.reduceAdd]
    have hall : allR (kk + 1) begun (Vl s x s.length) = allS (allR kk) begun [] (Vl s x s.length) := rfl
    rw [hall] at hk
    obtain ⟨D1, hD1⟩ := hAll
    rw [hall] at hD1
    refine loop_up s.length (fun i vs m' => ∃ (last : Int) (D : List (List Int)), vs = [.int .i64 last, .int .i64 (i : Int)] ∧ GtX X m m' ∧ J (done ++ D) m' ∧ D ++ allS (allR kk) begun (Vl s x i) (Vr s x (s.length - i) i) = allS (allR kk) begun [] (Vl s x s.length) ∧
      ((Vl s x i = [] ∧ last = -1) ∨ ∃ p, Vl s x i = p ++ [last])) (by omega) ⟨-1, [], rfl, GtX.refl _, by rw [List.append_nil]; exact hJ0, ?_, .inl ⟨rfl, rfl⟩⟩ ?_
    · have := Vlr s x s.length 0
      rw [Nat.zero_add] at this
      rw [this]; rfl
    · rintro i vs m2 hi ⟨last, D, rfl, e2, hJ2, hT, hlast⟩ self hself
      have n2 := e2.next
      have e02 := e.trans e2
      have n02 := e02.next
      try simp (disch := first | omega | with_unfolding_all exact id rfl | with_unfolding_all exact Nat.le_of_ble_eq_true rfl | (simp only [Jd, Je, Jr, Js, Jt, Nat.reduceAdd, allOne, oneCell, Bool.and_self, Jc]; first | done | omega)) only [↓Qa, ↓Qb, ↓Qc, Qd, Qe, Qf, Qg, Qh, Qi, Qj, Qk, Ql, Qm, Qn, Qo, Qp, Qq, Qr, Qs, Qt, Qu, Qv, Qw, Qx, Qy, ptrTo, Qz, QA, QB, QC, QD, QE, QF, QG, QH, QI, QJ, QK, QL, QM, QN, QO, QP, QQ, QR, QS, QT, QU, QV, QW, QX, QY, QZ, Ja, Jb, Jc, Jd, Je, Jf, Jg, Jh, Ji, Jj, Jk, Jl, Jm, Jn, Jo, Jp, Jq, Jr, Js, Jt, Nat.reduceAdd]
      refine oIf_dec (fun h => ?_) (fun h => ?_)
      · have hil : i < s.length := by omega
        have hsv2 : IL m2 sv s := hsv.keep fun c hc => e02.kept c (Sl.bid_lt hsv (by omega) c hc) (hsx c hc)
        have hgd : s.getD i 0 = s[i] := by rw [List.getD_eq_getElem?_getD, List.getElem?_eq_getElem hil]; rfl
        have hb0 := hs0 _ (List.getElem_mem hil)
        rw [hsv2.ia hil, oOpt_e, hsv2.ld hil, oOpt_e, shr_u, oOpt_e, bit_u (by omega) (by omega), eql_u]
        cases hb : x.testBit i with
        | false =>
          have hub : used.testBit i = true := by
            have := hxu i hil
            rw [hb] at this
            cases h : used.testBit i with
            | true => rfl
            | false => rw [h] at this; cases this
          rw [hub]
          try simp (disch := first | omega | with_unfolding_all exact id rfl | with_unfolding_all exact Nat.le_of_ble_eq_true rfl | (simp only [Jd, Je, Jr, Js, Jt, Nat.reduceAdd, allOne, oneCell, Bool.and_self, Jc]; first | done | omega)) only [show decide ((if (true : Bool) = true then (1 : Int) else 0) = 0) = false from rfl, ↓Qa, ↓Qb, ↓Qc, Qd, Qe, Qf, Qg, Qh, Qi, Qj, Qk, Ql, Qm, Qn, Qo, Qp, Qq, Qr, Qs, Qt, Qu, Qv, Qw, Qx, Qy, ptrTo, Qz, QA, QB, QC, QD, QE, QF, QG, QH, QI, QJ, QK, QL, QM, QN, QO, QP, QQ, QR, QS, QT, QU, QV, QW, QX, QY, QZ, Ja, Jb, Jc, Jd, Je, Jf, Jg, Jh, Ji, Jj, Jk, Jl, Jm, Jn, Jo, Jp, Jq, Jr, Js, Jt, Nat.reduceAdd]
          rw [oInt_add ⟨by omega, by omega⟩]
          refine hself hil _ _ ⟨last, D, rfl, e2, hJ2, ?_, ?_⟩
          · rw [Vl_off hb, ← Vr_off hil hb]; exact hT
          · rw [Vl_off hb]; exact hlast
        | true =>
          have hub : used.testBit i = false := by
            have := hxu i hil
            rw [hb] at this
            cases h : used.testBit i with
            | true => rw [h] at this; cases this
            | false => rfl
          rw [hub]
          have hT2 : D ++ ((if s.getD i 0 ∈ Vl s x i then [] else allR kk (begun ++ [s.getD i 0]) (Vl s x i ++ Vr s x (s.length - i - 1) (i + 1))) ++ allS (allR kk) begun (Vl s x i ++ [s.getD i 0]) (Vr s x (s.length - i - 1) (i + 1))) = allS (allR kk) begun [] (Vl s x s.length) := by
            rw [Vr_on hil hb] at hT
            exact hT
          have hle : ∀ z ∈ Vl s x i, z ≤ s[i] := by
            have key : ∀ j, j ≤ i → ∀ z ∈ Vl s x j, z ≤ s[i] := by
              intro j
              induction j with
              | zero => intro _ z hz; cases hz
              | succ j ihj =>
                intro hj z hz
                rcases List.mem_append.1 hz with hz | hz
                · exact ihj (by omega) z hz
                · unfold bt at hz
                  split at hz
                  · have hjl : j < s.length := by omega
                    have : z = s[j] := by
                      rw [List.getD_eq_getElem?_getD, List.getElem?_eq_getElem hjl] at hz
                      simpa using hz
                    rw [this]
                    exact List.pairwise_iff_getElem.1 hs j i hjl hil (by omega)
                  · cases hz
            exact key i (Nat.le_refl _)
          by_cases hx : s[i] = last
          · have hmem : s.getD i 0 ∈ Vl s x i := by
              rw [hgd, hx]
              rcases hlast with ⟨_, h2⟩ | ⟨p, h2⟩
              · omega
              · rw [h2]; simp
            rw [if_pos hmem, List.nil_append] at hT2
            try simp (disch := first | omega | with_unfolding_all exact id rfl | with_unfolding_all exact Nat.le_of_ble_eq_true rfl | (simp only [Jd, Je, Jr, Js, Jt, Nat.reduceAdd, allOne, oneCell, Bool.and_self, Jc]; first | done | omega)) only [show decide ((if (false : Bool) = true then (1 : Int) else 0) = 0) = true from rfl, decide_eq_true hx, ↓Qa, ↓Qb, ↓Qc, Qd, Qe, Qf, Qg, Qh, Qi, Qj, Qk, Ql, Qm, Qn, Qo, Qp, Qq, Qr, Qs, Qt, Qu, Qv, Qw, Qx, Qy, ptrTo, Qz, QA, QB, QC, QD, QE, QF, QG, QH, QI, QJ, QK, QL, QM, QN, QO, QP, QQ, QR, QS, QT, QU, QV, QW, QX, QY, QZ, Ja, Jb, Jc, Jd, Je, Jf, Jg, Jh, Ji, Jj, Jk, Jl, Jm, Jn, Jo, Jp, Jq, Jr, Js, Jt, Nat.reduceAdd]
            rw [oInt_add ⟨by omega, by omega⟩]
            refine hself hil _ _ ⟨last, D, rfl, e2, hJ2, ?_, .inr ⟨Vl s x i, by rw [Vl_on hb, hgd, hx]⟩⟩
            rw [Vl_on hb, show s.length - (i + 1) = s.length - i - 1 by omega]; exact hT2
          · have hmem : ¬ s.getD i 0 ∈ Vl s x i := by
              rw [hgd]
              intro hm
              rcases hlast with ⟨h1, _⟩ | ⟨p, h2⟩
              · rw [h1] at hm; cases hm
              · have h3 := hle last (by rw [h2]; simp)
                have hsorted : (Vl s x i).Pairwise (· ≤ ·) := by
                  have key : ∀ j, j ≤ i → (Vl s x j).Pairwise (· ≤ ·) ∧ ∀ z ∈ Vl s x j, ∀ q (hq : q < s.length), j ≤ q → z ≤ s[q] := by
                    intro j
                    induction j with
                    | zero => exact fun _ => ⟨List.Pairwise.nil, fun z hz => by cases hz⟩
                    | succ j ihj =>
                      intro hj
                      obtain ⟨g1, g2⟩ := ihj (by omega)
                      have hjl : j < s.length := by omega
                      have hbt : ∀ z ∈ bt s x j, z = s[j] := by
                        intro z hz
                        unfold bt at hz
                        split at hz
                        · rw [List.getD_eq_getElem?_getD, List.getElem?_eq_getElem hjl] at hz
                          simpa using hz
                        · cases hz
                      refine ⟨?_, fun z hz q hq hjq => ?_⟩
                      · show (Vl s x j ++ bt s x j).Pairwise _
                        rw [List.pairwise_append]
                        refine ⟨g1, ?_, fun a ha b hb => ?_⟩
                        · unfold bt; split <;> simp
                        · rw [hbt b hb]; exact g2 a ha j hjl (Nat.le_refl _)
                      · rcases List.mem_append.1 hz with hz | hz
                        · exact g2 z hz q hq (by omega)
                        · rw [hbt z hz]
                          exact List.pairwise_iff_getElem.1 hs j q hjl hq (by omega)
                  exact (key i (Nat.le_refl _)).1
                rw [h2] at hm hsorted
                rcases List.mem_append.1 hm with hm | hm
                · have := (List.pairwise_append.1 hsorted).2.2 _ hm last (by simp)
                  omega
                · exact hx (by simpa using hm)
            rw [if_neg hmem] at hT2
            have hC2 := (e02.kept C lC nC).trans hC
            have hcc : ([.func (.func 90) #[] ⟨[.pointer (some ⟨A, 0, none⟩), .pointer (some ⟨B, 0, none⟩), .pointer (some ⟨C, 0, none⟩)]⟩] : List Value)[0]? = some (.func (.func 90) #[] ⟨[.pointer (some ⟨A, 0, none⟩), .pointer (some ⟨B, 0, none⟩), .pointer (some ⟨C, 0, none⟩)]⟩) := rfl
            try simp (disch := first | omega | with_unfolding_all exact id rfl | with_unfolding_all exact Nat.le_of_ble_eq_true rfl | (simp only [Jd, Je, Jr, Js, Jt, Nat.reduceAdd, allOne, oneCell, Bool.and_self, Jc]; first | done | omega)) only [show decide ((if (false : Bool) = true then (1 : Int) else 0) = 0) = true from rfl, decide_eq_false hx, hC2, hcc, ↓Qa, ↓Qb, ↓Qc, Qd, Qe, Qf, Qg, Qh, Qi, Qj, Qk, Ql, Qm, Qn, Qo, Qp, Qq, Qr, Qs, Qt, Qu, Qv, Qw, Qx, Qy, ptrTo, Qz, QA, QB, QC, QD, QE, QF, QG, QH, QI, QJ, QK, QL, QM, QN, QO, QP, QQ, QR, QS, QT, QU, QV, QW, QX, QY, QZ, Ja, Jb, Jc, Jd, Je, Jf, Jg, Jh, Ji, Jj, Jk, Jl, Jm, Jn, Jo, Jp, Jq, Jr, Js, Jt, Nat.reduceAdd]
            have hlv2 : GL A m2 lv begun := hlv.keep fun c hc hc2 => e2.kept c (hlv.bid_lt c hc).2 fun h => by have := hXA c h; omega
            have hbl9 : begun.length < 1000 := by omega
            refine clip_sp hlv2 fun u hu' => ?_
            obtain ⟨w, m3, s1, s2, s3, s4⟩ := clip_app (L := L) s[i] hlv2 hbl9 hu'
            have n3 := s2.next
            have hC3 := (s2.kept C (by omega)).trans hC2
            have hC4 := ((Mem.gt_push m2 ⟨1, [.int .i64 s[i]], none⟩).kept C (by omega)).trans hC2
            rw [bs22, oRes_e, s1, oRes_e]
            have hsm : bEq ((m2.push ⟨1, [.int .i64 s[i]], none⟩).rd C) (m3.rd C) = true := by rw [hC3, hC4]; exact fb_beq ..
            rw [hsm, oIf_t, shl_u, oOpt_e, or_u (by omega) (by omega)]
            have hgo : ∀ K : Value → Mem → Option Unit, (∀ m', GtX X m3 m' → J ((done ++ D) ++ allR kk (begun ++ [s[i]]) (Vl s x i ++ Vr s x (s.length - i - 1) (i + 1))) m' → K (.tuple ⟨[]⟩) m' = some ()) →
                runT (tab lf) (n + kk + (ce + 1)) 90 [w, .int .u64 ((used ||| 2 ^ i : Nat) : Int), .pointer (some ⟨A, 0, none⟩), .pointer (some ⟨B, 0, none⟩), .pointer (some ⟨C, 0, none⟩)] L m3 K = some () := by
              intro K hK
              have hkl := Vl_clr_len hil hb hkk
              refine ih (x := clr x i) hkl (fun j hj => ?_) ?_ (by simp; omega) ?_ (s3.le (by omega)) (e02.trans (GtX.of s2)) (hJ _ _ _ s2 hJ2) ?_ fun m' e' hJ' => ?_
              · rw [clr_bit, Nat.testBit_or, Nat.testBit_two_pow, hxu j hj]
                cases used.testBit j <;> simp
              · have : 2 ^ i < 2 ^ 7 := Nat.pow_lt_pow_right (by omega) (by omega)
                exact Nat.or_lt_two_pow (n := 7) hu this
              · rw [Vl_clr hil]
                have e5 : Vl s x s.length = Vl s x i ++ s[i] :: Vr s x (s.length - i - 1) (i + 1) := by
                  have := Vlr s x (s.length - i) i
                  rw [show i + (s.length - i) = s.length by omega, Vr_on hil hb, hgd] at this
                  exact this
                rw [e5] at hp
                refine List.Perm.trans ?_ hp
                rw [List.append_assoc]
                exact List.Perm.append_left begun (show (s[i] :: (Vl s x i ++ Vr s x (s.length - i - 1) (i + 1))).Perm _ from List.perm_middle.symm)
              · rw [Vl_clr hil]
                refine ⟨allS (allR kk) begun (Vl s x i ++ [s.getD i 0]) (Vr s x (s.length - i - 1) (i + 1)) ++ D1, ?_⟩
                rw [hD1, ← hT2, hgd]
                simp only [List.append_assoc]
              · rw [Vl_clr hil] at hJ'
                exact hK m' e' hJ'
            refine hgo _ fun m4 e4 hJ4 => ?_
            try simp (disch := first | omega | with_unfolding_all exact id rfl | with_unfolding_all exact Nat.le_of_ble_eq_true rfl | (simp only [Jd, Je, Jr, Js, Jt, Nat.reduceAdd, allOne, oneCell, Bool.and_self, Jc]; first | done | omega)) only [↓Qa, ↓Qb, ↓Qc, Qd, Qe, Qf, Qg, Qh, Qi, Qj, Qk, Ql, Qm, Qn, Qo, Qp, Qq, Qr, Qs, Qt, Qu, Qv, Qw, Qx, Qy, ptrTo, Qz, QA, QB, QC, QD, QE, QF, QG, QH, QI, QJ, QK, QL, QM, QN, QO, QP, QQ, QR, QS, QT, QU, QV, QW, QX, QY, QZ, Ja, Jb, Jc, Jd, Je, Jf, Jg, Jh, Ji, Jj, Jk, Jl, Jm, Jn, Jo, Jp, Jq, Jr, Js, Jt, Nat.reduceAdd]
            rw [oInt_add ⟨by omega, by omega⟩]
            refine hself hil _ _ ⟨s[i], D ++ allR kk (begun ++ [s[i]]) (Vl s x i ++ Vr s x (s.length - i - 1) (i + 1)), rfl, (e2.trans (GtX.of s2)).trans e4, by rw [← List.append_assoc]; exact hJ4, ?_, .inr ⟨Vl s x i, by rw [Vl_on hb, hgd]⟩⟩
            rw [Vl_on hb, show s.length - (i + 1) = s.length - i - 1 by omega, ← hT2, hgd, List.append_assoc]
      · have hin : i = s.length := by omega
        subst hin
        rw [Nat.sub_self] at hT
        have hT2 : D ++ [] = allS (allR kk) begun [] (Vl s x s.length) := hT
        rw [List.append_nil] at hT2
        rw [← hT2] at hk
        exact hk m2 e2 hJ2
end
section
variable {lf n ce L : Nat} {m : Mem} {k : Value → Mem → Option Unit} {sv : Value} {X : Nat → Prop} {s : List Int} {J : List (List Int) → Mem → Prop}
theorem all51_sp {g : Nat} {caps : List Value} (hlf : 1000000 ≤ lf) (hL : L ≤ m.next) (hs : s.Pairwise (· ≤ ·)) (h7 : s.length ≤ 7) (hs0 : ∀ x ∈ s, 0 ≤ x ∧ x ≤ 60) (hX : ∀ c, X c → c < m.next)
    (hsv : IL m sv s) (hsx : ∀ c, bid sv = some c → ¬ X c) (hE : ∀ m0, Gt m m0 → EachOk lf ce L (.func (.func g) #[] ⟨caps⟩) X m0 s J) (hJ : ∀ d m m', Gt m m' → J d m → J d m') (hJ0 : J [] m)
    (hk : ∀ m', GtX X m m' → J (allR s.length [] s) m' → k (.tuple ⟨[]⟩) m' = some ()) :
    runT (tab lf) (n + s.length + (ce + 2)) 51 [sv, .func (.func g) #[] ⟨caps⟩] L m k = some () := by
  rw [show n + s.length + (ce + 2) = (n + s.length + (ce + 1)) + 1 by omega, r51]; dsimp only [S51, iofNat, inegSucc]
  obtain ⟨p, c, hsve⟩ := hsv.ex
  have hb1 : abox m sv = some (ptrTo m.next, m.push ⟨1, [sv], none⟩) := by rw [hsve]; exact abox_e _ _
  have hb2 : ∀ m' : Mem, abox m' (.func (.func g) #[] ⟨caps⟩) = some (ptrTo m'.next, m'.push ⟨1, [.func (.func g) #[] ⟨caps⟩], none⟩) := fun m' => abox_e _ _
  rw [uc_e, uc_e, un0_e, hb1, oRes_e, hb2, oRes_e, anew_eq, oRes_e]
  have e1 := Mem.gt_push m ⟨1, [sv], none⟩
  have q1 : (m.push ⟨1, [sv], none⟩).rd m.next = some ⟨1, [sv], none⟩ := Mem.rd_push _ _
  have n1 : (m.push ⟨1, [sv], none⟩).next = m.next + 1 := Mem.push_next _ _
  generalize m.push ⟨1, [sv], none⟩ = m1 at e1 q1 n1 ⊢
  have e2 := Mem.gt_push m1 ⟨1, [.func (.func g) #[] ⟨caps⟩], none⟩
  have q2 : (m1.push ⟨1, [.func (.func g) #[] ⟨caps⟩], none⟩).rd m1.next = some ⟨1, [.func (.func g) #[] ⟨caps⟩], none⟩ := Mem.rd_push _ _
  have n2 : (m1.push ⟨1, [.func (.func g) #[] ⟨caps⟩], none⟩).next = m1.next + 1 := Mem.push_next _ _
  generalize m1.push ⟨1, [.func (.func g) #[] ⟨caps⟩], none⟩ = m2 at e2 q2 n2 ⊢
  have hst : st1 1 L (m2.push ⟨1, [.nilFunc], none⟩) (ptrTo m2.next) (.func (.func 90) #[] ⟨[ptrTo m.next, ptrTo m1.next, ptrTo m2.next]⟩) = some (Go.undef, (m2.push ⟨1, [.nilFunc], none⟩).put m2.next (some ⟨1, [.func (.func 90) #[] ⟨[ptrTo m.next, ptrTo m1.next, ptrTo m2.next]⟩], none⟩)) := by
    show st1 1 L _ (.pointer (some ⟨m2.next, 0, none⟩)) _ = _
    rw [st1_u, Mem.rd_push]
    exact stw_e (by omega) rfl (Nat.le_refl _) rfl
  rw [hst, oRes_e]
  have e3 : Gt m2 ((m2.push ⟨1, [.nilFunc], none⟩).put m2.next (some ⟨1, [.func (.func 90) #[] ⟨[ptrTo m.next, ptrTo m1.next, ptrTo m2.next]⟩], none⟩)) := Mem.put_gt (Mem.gt_push _ _) _ (Nat.le_refl _)
  have q3 : ((m2.push ⟨1, [.nilFunc], none⟩).put m2.next (some ⟨1, [.func (.func 90) #[] ⟨[ptrTo m.next, ptrTo m1.next, ptrTo m2.next]⟩], none⟩)).rd m2.next = some ⟨1, [.func (.func 90) #[] ⟨[ptrTo m.next, ptrTo m1.next, ptrTo m2.next]⟩], none⟩ := Mem.rd_put_eq _ _ (by rw [Mem.push_next]; omega)
  generalize (m2.push ⟨1, [.nilFunc], none⟩).put m2.next (some ⟨1, [.func (.func 90) #[] ⟨[ptrTo m.next, ptrTo m1.next, ptrTo m2.next]⟩], none⟩) = m3 at e3 q3 ⊢
  have n3 := e3.next
  have e03 := (e1.trans e2).trans e3
  have hld : ld1 m3 (ptrTo m2.next) = some (.func (.func 90) #[] ⟨[ptrTo m.next, ptrTo m1.next, ptrTo m2.next]⟩) := by
    show ld1 m3 (.pointer (some ⟨m2.next, 0, none⟩)) = _
    rw [ld1_u, q3]; rfl
  rw [hld, oOpt_e, oCallV_e (hf := rfl)]
  have hV : Vl s (2 ^ s.length - 1) s.length = s := by rw [Vl_all s _ (Nat.le_refl _), List.take_length]
  have h := put_sp (m0 := m3) (A := m.next) (B := m1.next) (C := m2.next) hlf hs h7 hs0 hX (by omega) (by omega) (((e2.trans e3).kept _ (by omega)).trans q1) ((e3.kept _ (by omega)).trans q2) q3 (hsv.mono e03) hsx (hE m3 e03) hJ s.length (n := n) (x := 2 ^ s.length - 1) (used := 0) (m := m3) (lv := .slice none 0 0) (begun := []) (done := []) (k := fun t13 m14 => k (.tuple ⟨[]⟩) m14)
    (by rw [hV]) (fun i hi => by rw [Nat.testBit_two_pow_sub_one, decide_eq_true hi]; simp) (by omega) (by simp) (by rw [hV]; exact List.Perm.refl _) (GL.nil _ _) (GtX.refl _) (hJ _ _ _ e03 hJ0) ⟨[], by rw [hV, List.append_nil]; rfl⟩ (fun m' e' hJ' => by
      rw [hV] at hJ'
      exact hk m' ((GtX.of e03).trans e') hJ')
  exact h
end
end Go.Vit
