/- Walks: in how many ways carts can come: a recursion that is kept in a map. -/
import Derived.Test.YtnmmjbclidbdbaaDoorW12
import Derived.Test.YtnmmjbclidbdbaaDoorCoreD
set_option linter.unusedSimpArgs false
set_option linter.unusedVariables false
set_option maxRecDepth 20000
namespace Go.Vit
open Go Go.Proofs
attribute [local irreducible] runT loopS
/-- How many taken bays lie right before a bay. -/
def runB (T : Nat) : Nat → Nat
  | 0 => 0
  | b + 1 => if T.testBit b = true then runB T b + 1 else 0
theorem runB_le (T : Nat) : ∀ b, runB T b ≤ b
  | 0 => Nat.le_refl _
  | b + 1 => by
    have := runB_le T b
    show (if T.testBit b = true then runB T b + 1 else 0) ≤ b + 1
    split <;> omega
def sumC (f : Nat → Nat) : Nat → Nat
  | 0 => 0
  | b + 1 => sumC f b + f b
/-- In how many ways so many carts more can come. -/
def cntW (n : Nat) : Nat → Nat → Nat
  | 0, _ => 1
  | more + 1, T => sumC (fun b => if T.testBit b = true then 0 else (1 + runB T b) * cntW n more (T ||| 2 ^ b)) n
theorem sumC_le {f : Nat → Nat} {B : Nat} : ∀ n, (∀ b, b < n → f b ≤ B) → sumC f n ≤ n * B
  | 0, _ => Nat.zero_le _
  | n + 1, h => by
    have h1 := sumC_le n fun b hb => h b (by omega)
    have h2 := h n (by omega)
    show sumC f n + f n ≤ (n + 1) * B
    rw [Nat.succ_mul]; omega
theorem cntW_le {n : Nat} (hn : n ≤ 8) : ∀ more T, cntW n more T ≤ 64 ^ more
  | 0, _ => Nat.le_refl _
  | more + 1, T => by
    have h1 : ∀ b, b < n → (if T.testBit b = true then 0 else (1 + runB T b) * cntW n more (T ||| 2 ^ b)) ≤ 8 * 64 ^ more := fun b hb => by
      split
      · exact Nat.zero_le _
      · have h2 := runB_le T b
        exact Nat.mul_le_mul (by omega) (cntW_le hn more _)
    have h3 := sumC_le n h1
    show sumC _ n ≤ 64 ^ (more + 1)
    have h4 : n * (8 * 64 ^ more) ≤ 8 * (8 * 64 ^ more) := Nat.mul_le_mul_right _ hn
    rw [Nat.pow_succ]; omega
theorem bit_u {x : Nat} {b : Nat} (hx : x < 256) (hb : b < 8) : (ashr (.ofNat x) (nmin b 64)) = ((x >>> b : Nat) : Int) := by
  have : nmin b 64 = b := by
    have : ∀ b, b < 8 → nmin b 64 = b := by decide +kernel
    exact this b hb
  rw [this]; rfl
theorem u3 : Tryd.prog.underlying 3 = some (.int .i64) := by kernel_rfl
theorem u84 : Tryd.prog.underlying 84 = some (.map 99 3) := by kernel_rfl
theorem u99 : Tryd.prog.underlying 99 = some (.array 2 3) := by kernel_rfl
theorem eqg99 : Tryd.prog.eqGuardType Tryd.prog.depth 99 = false := by kernel_rfl
theorem tz3 : tzero Tryd.prog 3 = some (.int .i64 0) := by kernel_rfl
theorem isInt3 : isIntT Tryd.prog 3 = true := by kernel_rfl
def key2 (a b : Nat) : Value := .agg ⟨[.int .i64 (a : Int), .int .i64 (b : Int)]⟩
theorem keyEq2 (a b d e : Nat) : keyEq Tryd.prog 99 (key2 a b) (key2 d e) = some (decide (a = d ∧ b = e)) := by
  have h1 : keyEq Tryd.prog 99 (key2 a b) (key2 d e) = aggEq Tryd.prog 99 [.int .i64 (a : Int), .int .i64 (b : Int)] [.int .i64 (d : Int), .int .i64 (e : Int)] := by
    unfold keyEq
    rw [u99]; rfl
  have h2 : aggEq Tryd.prog 99 [.int .i64 (a : Int), .int .i64 (b : Int)] [.int .i64 (d : Int), .int .i64 (e : Int)] = eqAt [.int .i64 (a : Int), .int .i64 (b : Int)] [.int .i64 (d : Int), .int .i64 (e : Int)] [0, 1] := by
    unfold aggEq
    rw [u99]
    simp only [eqg99, isInt3, ts3]
    rfl
  rw [h1, h2]
  have h3 : ∀ x y : Int, eqCell (.int .i64 x) (.int .i64 y) = some (ieq x y) := fun _ _ => rfl
  simp only [eqAt, lget_eq, List.getElem?_cons_zero, List.getElem?_cons_succ, h3, ieq_e]
  by_cases g1 : a = d
  · by_cases g2 : b = e
    · simp [g1, g2]
    · have : ¬ (b : Int) = (e : Int) := by omega
      simp [g1, g2, this]
  · have : ¬ (a : Int) = (d : Int) := by omega
    simp [g1, this]
/-- The entries of the map: what is known is right. -/
def ents2 (n : Nat) (el : List (Nat × Nat)) : List (Value × Value) := el.map fun e => (key2 e.1 e.2, .int .i64 (cntW n e.2 e.1))
theorem find2 {n : Nat} (a b : Nat) : ∀ (el : List (Nat × Nat)) (i : Nat), mapFind Tryd.prog 99 (key2 a b) (ents2 n el) i = some none ∨ ∃ j, mapFind Tryd.prog 99 (key2 a b) (ents2 n el) i = some (some (j, .int .i64 (cntW n b a)))
  | [], _ => .inl rfl
  | e :: el, i => by
    obtain ⟨d, e'⟩ := e
    have hd : mapFind Tryd.prog 99 (key2 a b) (ents2 n ((d, e') :: el)) i = (match some (decide (a = d ∧ b = e')) with
      | some true => some (some (i, .int .i64 (cntW n e' d)))
      | some false => mapFind Tryd.prog 99 (key2 a b) (ents2 n el) (Nat.succ i)
      | none => none) := by
      rw [← keyEq2]; rfl
    by_cases h : a = d ∧ b = e'
    · rw [hd, decide_eq_true h]
      obtain ⟨rfl, rfl⟩ := h
      exact .inr ⟨i, rfl⟩
    · rw [hd, decide_eq_false h]
      exact find2 a b el (Nat.succ i)
section
variable {lf n L : Nat} {m : Mem} {k : Value → Mem → Option Unit}
theorem back_sp {N T b : Nat} (hlf : 1000000 ≤ lf) (hT : T < 256) (hb : b < 8) (hk : ∀ m', Gt m m' → k (.int .i64 ((1 + runB T b : Nat) : Int)) m' = some ()) :
    runT (tab lf) (n + 1) 72 [.agg ⟨[.int .i64 (N : Int), .int .u64 (T : Int)]⟩, .int .i64 (b : Int)] L m k = some () := by
  rw [r72]; dsimp only [S72, iofNat, inegSucc]
  rw [uc_e, uc_e, un0_e, show abox m (.agg ⟨[.int .i64 (N : Int), .int .u64 (T : Int)]⟩) = some (ptrTo m.next, m.push ⟨1, [.int .i64 (N : Int), .int .u64 (T : Int)], none⟩) from abox_e _ _, oRes_e]
  have e1 := Mem.gt_push m ⟨1, [.int .i64 (N : Int), .int .u64 (T : Int)], none⟩
  have q1 := Mem.rd_push m ⟨1, [.int .i64 (N : Int), .int .u64 (T : Int)], none⟩
  generalize m.push ⟨1, [.int .i64 (N : Int), .int .u64 (T : Int)], none⟩ = m1 at e1 q1 ⊢
  rw [oInt_sub ⟨by omega, by omega⟩]
  refine loop_up b (fun i vs m' => i ≤ b ∧ vs = [.int .i64 ((1 + i : Nat) : Int), .int .i64 ((b : Int) - 1 - (i : Int))] ∧ m' = m1 ∧ runB T b = i + runB T (b - i)) (by omega) ⟨Nat.zero_le _, by rw [show (b : Int) - 1 - ((0 : Nat) : Int) = (b : Int) - 1 by omega]; rfl, rfl, by rw [Nat.sub_zero, Nat.zero_add]⟩ ?_
  rintro i vs m' hi ⟨hib, rfl, rfl, hrun⟩ self hself
  rw [uc_e, uc_e, oInt_geq]
  have f1 : fa 1 (ptrTo m.next) = some (.pointer (some ⟨m.next, 1, none⟩)) := rfl
  have l1 : ld1 m' (.pointer (some ⟨m.next, 1, none⟩)) = some (.int .u64 (T : Int)) := by rw [ld1_u, q1]; rfl
  by_cases hc : i < b
  · obtain ⟨c, hcb⟩ : ∃ c, b - i = c + 1 := ⟨b - i - 1, by omega⟩
    have hd : decide ((b : Int) - 1 - (i : Int) ≥ 0) = true := decide_eq_true (by omega)
    rw [hd, join_e, oGT_t, f1, oOpt_e, l1, oOpt_e, show (b : Int) - 1 - (i : Int) = (c : Int) by omega, shr_u, oOpt_e, bit_e hT (by omega), eql_u]
    dsimp only
    rw [uc_e]
    have hrc : runB T (c + 1) = if T.testBit c = true then runB T c + 1 else 0 := rfl
    rw [hcb] at hrun
    cases hb2 : T.testBit c with
    | true =>
      rw [hb2, if_pos rfl] at hrc
      rw [show decide ((if (true : Bool) = true then (1 : Int) else 0) = 1) = true from rfl]
      try simp (disch := first | omega | with_unfolding_all exact id rfl | with_unfolding_all exact Nat.le_of_ble_eq_true rfl | (simp only [Jd, Je, Jr, Js, Jt, Nat.reduceAdd, allOne, oneCell, Bool.and_self, Jc]; first | done | omega)) only [↓Qa, ↓Qb, ↓Qc, Qd, Qe, Qf, Qg, Qh, Qi, Qj, Qk, Ql, Qm, Qn, Qo, Qp, Qq, Qr, Qs, Qt, Qu, Qv, Qw, Qx, Qy, ptrTo, Qz, QA, QB, QC, QD, QE, QF, QG, QH, QI, QJ, QK, QL, QM, QN, QO, QP, QQ, QR, QS, QT, QU, QV, QW, QX, QY, QZ, Ja, Jb, Jc, Jd, Je, Jf, Jg, Jh, Ji, Jj, Jk, Jl, Jm, Jn, Jo, Jp, Jq, Jr, Js, Jt, Nat.reduceAdd]
      rw [oInt_add ⟨by omega, by omega⟩, oInt_sub ⟨by omega, by omega⟩]
      exact hself hc _ _ ⟨by omega, by rw [show (c : Int) - 1 = (b : Int) - 1 - ((i + 1 : Nat) : Int) by omega, show ((1 + i : Nat) : Int) + 1 = ((1 + (i + 1) : Nat) : Int) by omega], rfl, by rw [show b - (i + 1) = c by omega]; omega⟩
    | false =>
      rw [hb2, if_neg (by simp)] at hrc
      rw [show decide ((if (false : Bool) = true then (1 : Int) else 0) = 1) = false from rfl]
      try simp (disch := first | omega | with_unfolding_all exact id rfl | with_unfolding_all exact Nat.le_of_ble_eq_true rfl | (simp only [Jd, Je, Jr, Js, Jt, Nat.reduceAdd, allOne, oneCell, Bool.and_self, Jc]; first | done | omega)) only [↓Qa, ↓Qb, ↓Qc, Qd, Qe, Qf, Qg, Qh, Qi, Qj, Qk, Ql, Qm, Qn, Qo, Qp, Qq, Qr, Qs, Qt, Qu, Qv, Qw, Qx, Qy, ptrTo, Qz, QA, QB, QC, QD, QE, QF, QG, QH, QI, QJ, QK, QL, QM, QN, QO, QP, QQ, QR, QS, QT, QU, QV, QW, QX, QY, QZ, Ja, Jb, Jc, Jd, Je, Jf, Jg, Jh, Ji, Jj, Jk, Jl, Jm, Jn, Jo, Jp, Jq, Jr, Js, Jt, Nat.reduceAdd]
      have := hk m' e1
      rw [hrun, hrc] at this
      exact this
  · have hib2 : i = b := by omega
    subst hib2
    have hd : decide ((i : Int) - 1 - (i : Int) ≥ 0) = false := decide_eq_false (by omega)
    rw [hd, join_e]
    try simp (disch := first | omega | with_unfolding_all exact id rfl | with_unfolding_all exact Nat.le_of_ble_eq_true rfl | (simp only [Jd, Je, Jr, Js, Jt, Nat.reduceAdd, allOne, oneCell, Bool.and_self, Jc]; first | done | omega)) only [↓Qa, ↓Qb, ↓Qc, Qd, Qe, Qf, Qg, Qh, Qi, Qj, Qk, Ql, Qm, Qn, Qo, Qp, Qq, Qr, Qs, Qt, Qu, Qv, Qw, Qx, Qy, ptrTo, Qz, QA, QB, QC, QD, QE, QF, QG, QH, QI, QJ, QK, QL, QM, QN, QO, QP, QQ, QR, QS, QT, QU, QV, QW, QX, QY, QZ, Ja, Jb, Jc, Jd, Je, Jf, Jg, Jh, Ji, Jj, Jk, Jl, Jm, Jn, Jo, Jp, Jq, Jr, Js, Jt, Nat.reduceAdd]
    rw [Nat.sub_self] at hrun
    have := hk m' e1
    rw [hrun] at this
    exact this
theorem bu76b (N T : Int) : bu Tryd.prog 76 [(0, .int .i64 N), (1, .int .u64 T)] = some (.agg ⟨[.int .i64 N, .int .u64 T]⟩) := by kernel_rfl
theorem bu99 (a b : Int) : bu Tryd.prog 99 [(0, .int .i64 a), (1, .int .i64 b)] = some (.agg ⟨[.int .i64 a, .int .i64 b]⟩) := by kernel_rfl
def mOk (N mb : Nat) (m : Mem) : Prop := ∃ el, m.rd mb = some ⟨0, [], some (ents2 N el)⟩
theorem mOk.lt {N mb : Nat} {m : Mem} (h : mOk N mb m) : mb < m.next := by obtain ⟨el, h⟩ := h; exact Mem.rd_lt h
theorem mOk.mono {N mb : Nat} {m m' : Mem} (h : mOk N mb m) (e : Gt m m') : mOk N mb m' := by
  have hl := h.lt
  obtain ⟨el, h⟩ := h
  exact ⟨el, (e.kept _ hl).trans h⟩
def cW (N mb : Nat) : List Value := [.int .i64 (N : Int), .map (some mb)]
set_option maxHeartbeats 2000000 in
theorem count70_sp {N mb : Nat} (hlf : 1000000 ≤ lf) (hN : N ≤ 8) : ∀ (j : Nat) {n L T : Nat} {m : Mem} {k : Value → Mem → Option Unit}, T < 256 → j ≤ 8 → mOk N mb m → L ≤ mb →
    (∀ m', GtX (· = mb) m m' → mOk N mb m' → k (.int .i64 (cntW N j T : Int)) m' = some ()) → runT (tab lf) (n + j + 2) 70 [.agg ⟨cW N mb⟩, .int .u64 (T : Int), .int .i64 (j : Int)] L m k = some () := by
  intro j
  induction j with
  | zero =>
    intro n L T m k hT hj hm hL hk
    rw [show n + 0 + 2 = (n + 1) + 1 by omega, r70]; dsimp only [S70, iofNat, inegSucc]
    rw [uc_e, uc_e, uc_e, un0_e, show abox m (.agg ⟨cW N mb⟩) = some (ptrTo m.next, m.push ⟨1, cW N mb, none⟩) from abox_e _ _, oRes_e, oInt_eql, show decide (((0 : Nat) : Int) = 0) = true from rfl, oIf_t]
    exact hk _ (GtX.of (Mem.gt_push _ _)) (hm.mono (Mem.gt_push _ _))
  | succ j ih =>
    intro n L T m k hT hj hm hL hk
    rw [show n + (j + 1) + 2 = (n + j + 2) + 1 by omega, r70]; dsimp only [S70, iofNat, inegSucc]
    have hmb := hm.lt
    rw [uc_e, uc_e, uc_e, un0_e, show abox m (.agg ⟨cW N mb⟩) = some (ptrTo m.next, m.push ⟨1, cW N mb, none⟩) from abox_e _ _, oRes_e, oInt_eql, decide_eq_false (by omega), oIf_f, oCv_nat (by omega), bu99, oOpt_e]
    have e1 := Mem.gt_push m ⟨1, cW N mb, none⟩
    have q1 := Mem.rd_push m ⟨1, cW N mb, none⟩
    have n1 : (m.push ⟨1, cW N mb, none⟩).next = m.next + 1 := Mem.push_next _ _
    generalize m.push ⟨1, cW N mb, none⟩ = m1 at e1 q1 n1 ⊢
    rw [anew_eq, oRes_e]
    have hst : st1 2 L (m1.push ⟨1, [.int .i64 0, .int .i64 0], none⟩) (ptrTo m1.next) (.agg ⟨[.int .i64 (T : Int), .int .i64 ((j + 1 : Nat) : Int)]⟩) = some (Go.undef, (m1.push ⟨1, [.int .i64 0, .int .i64 0], none⟩).put m1.next (some ⟨1, [.int .i64 (T : Int), .int .i64 ((j + 1 : Nat) : Int)], none⟩)) := by
      show st1 2 L _ (.pointer (some ⟨m1.next, 0, none⟩)) _ = _
      rw [st1_u, Mem.rd_push]
      exact stw_e (by omega) rfl (Nat.le_refl _) rfl
    rw [hst, oRes_e]
    have e2 : Gt m1 ((m1.push ⟨1, [.int .i64 0, .int .i64 0], none⟩).put m1.next (some ⟨1, [.int .i64 (T : Int), .int .i64 ((j + 1 : Nat) : Int)], none⟩)) := Mem.put_gt (Mem.gt_push _ _) _ (Nat.le_refl _)
    have q2 : ((m1.push ⟨1, [.int .i64 0, .int .i64 0], none⟩).put m1.next (some ⟨1, [.int .i64 (T : Int), .int .i64 ((j + 1 : Nat) : Int)], none⟩)).rd m1.next = some ⟨1, [.int .i64 (T : Int), .int .i64 ((j + 1 : Nat) : Int)], none⟩ := Mem.rd_put_eq _ _ (by rw [Mem.push_next]; omega)
    have n2 : ((m1.push ⟨1, [.int .i64 0, .int .i64 0], none⟩).put m1.next (some ⟨1, [.int .i64 (T : Int), .int .i64 ((j + 1 : Nat) : Int)], none⟩)).next = m1.next + 1 := rfl
    generalize (m1.push ⟨1, [.int .i64 0, .int .i64 0], none⟩).put m1.next (some ⟨1, [.int .i64 (T : Int), .int .i64 ((j + 1 : Nat) : Int)], none⟩) = m2 at e2 q2 n2 ⊢
    have q12 := (e2.kept _ (by omega)).trans q1
    have hm2 := (hm.mono e1).mono e2
    have f0 : fa 0 (ptrTo m.next) = some (.pointer (some ⟨m.next, 0, none⟩)) := rfl
    have f1 : fa 1 (ptrTo m.next) = some (.pointer (some ⟨m.next, 1, none⟩)) := rfl
    have l0 : ∀ M : Mem, M.rd m.next = some ⟨1, cW N mb, none⟩ → ld1 M (.pointer (some ⟨m.next, 0, none⟩)) = some (.int .i64 (N : Int)) := fun M h => by rw [ld1_u, h]; rfl
    have l1 : ∀ M : Mem, M.rd m.next = some ⟨1, cW N mb, none⟩ → ld1 M (.pointer (some ⟨m.next, 1, none⟩)) = some (.map (some mb)) := fun M h => by rw [ld1_u, h]; rfl
    have lK : ∀ M : Mem, M.rd m1.next = some ⟨1, [.int .i64 (T : Int), .int .i64 ((j + 1 : Nat) : Int)], none⟩ → ldN M 2 (ptrTo m1.next) = some (key2 T (j + 1)) := fun M h => by
      show ldN M 2 (.pointer (some ⟨m1.next, 0, none⟩)) = _
      rw [ldN_u, h]; kernel_rfl
    have lC : ∀ M : Mem, M.rd m.next = some ⟨1, cW N mb, none⟩ → ldN M 2 (ptrTo m.next) = some (.agg ⟨cW N mb⟩) := fun M h => by
      show ldN M 2 (.pointer (some ⟨m.next, 0, none⟩)) = _
      rw [ldN_u, h]; kernel_rfl
    have hkk : keyEq Tryd.prog 99 (key2 T (j + 1)) (key2 T (j + 1)) = some true := by rw [keyEq2]; simp
    obtain ⟨el, he⟩ := hm2
    rw [f1, oOpt_e, l1 m2 q12, oOpt_e, lK m2 q2, oOpt_e]
    rcases find2 (n := N) T (j + 1) el 0 with h | ⟨i0, h⟩
    · have hlk : alookup Tryd.prog m2 84 (.map (some mb)) (key2 T (j + 1)) true = some (.tuple ⟨[.int .i64 0, .bool false]⟩) := alookup_miss u84 hkk he h tz3 rfl
      rw [hlk, oOpt_e, show aextract (.tuple ⟨[.int .i64 0, .bool false]⟩) 0 = some (.int .i64 0) from rfl, oOpt_e, show aextract (.tuple ⟨[.int .i64 0, .bool false]⟩) 1 = some (.bool false) from rfl, oOpt_e, oIf_f, f0, oOpt_e, l0 m2 q12, oOpt_e]
      have hpow : 64 ^ j ≤ 4398046511104 := Nat.le_trans (Nat.pow_le_pow_right (by omega) (show j ≤ 7 by omega)) (by decide)
      obtain ⟨f, hf⟩ : ∃ f : Nat → Nat, f = fun b => if T.testBit b = true then 0 else (1 + runB T b) * cntW N j (T ||| 2 ^ b) := ⟨_, rfl⟩
      have hcW : cntW N (j + 1) T = sumC f N := by rw [hf]; rfl
      have hf8 : ∀ b, b < 8 → f b ≤ 8 * 4398046511104 := fun b hb => by
        rw [hf]
        show (if T.testBit b = true then 0 else (1 + runB T b) * cntW N j (T ||| 2 ^ b)) ≤ _
        split
        · exact Nat.zero_le _
        · have h2 := runB_le T b
          exact Nat.mul_le_mul (by omega) (Nat.le_trans (cntW_le hN j _) hpow)
      have hs8 : ∀ i, i ≤ 8 → sumC f i ≤ 8 * (8 * 4398046511104) := fun i hi => Nat.le_trans (sumC_le i fun b hb => hf8 b (by omega)) (Nat.mul_le_mul_right _ hi)
      refine loop_up N (fun i vs m' => vs = [.int .i64 (sumC f i : Int), .int .i64 (i : Int)] ∧ GtX (· = mb) m2 m' ∧ mOk N mb m') (by omega) ⟨rfl, GtX.refl _, el, he⟩ ?_
      rintro i vs m3 hi ⟨rfl, e3, hm3⟩ self hself
      have n3 := e3.next
      have q13 := (e3.kept m.next (by omega) (by omega)).trans q12
      have q23 := (e3.kept m1.next (by omega) (by omega)).trans q2
      have hsi := hs8 i (by omega)
      rw [uc_e, uc_e, oInt_lss]
      refine oIf_dec (fun hc => ?_) (fun hc => ?_)
      · have hiN : i < N := by omega
        have hfi := hf8 i (by omega)
        have hsum : sumC f (i + 1) = sumC f i + f i := rfl
        rw [shr_u, oOpt_e, bit_e hT (by omega), eql_u, join_e]
        cases hb : T.testBit i with
        | true =>
          rw [show decide ((if (true : Bool) = true then (1 : Int) else 0) = 0) = false from rfl, oIf_f]
          dsimp only
          rw [uc_e, oInt_add ⟨by omega, by omega⟩]
          have hfz : f i = 0 := by rw [hf]; show (if T.testBit i = true then 0 else _) = 0; rw [if_pos hb]
          refine hself hiN _ _ ⟨by rw [hsum, hfz]; rfl, e3, hm3⟩
        | false =>
          rw [show decide ((if (false : Bool) = true then (1 : Int) else 0) = 0) = true from rfl, oIf_t, oOpt_e, l0 m3 q13, oOpt_e, bu76b, oOpt_e]
          have hfv : f i = (1 + runB T i) * cntW N j (T ||| 2 ^ i) := by rw [hf]; show (if T.testBit i = true then 0 else _) = _; rw [if_neg (by rw [hb]; simp)]
          refine back_sp (n := n + j + 1) hlf hT (by omega) fun m4 e4 => ?_
          have n4 := e4.next
          have q14 := (e4.kept _ (by omega)).trans q13
          have hm4 := hm3.mono e4
          rw [lC m4 q14, oOpt_e, shl_u, oOpt_e, or_e hT (by omega), oInt_sub ⟨by omega, by omega⟩, show ((j + 1 : Nat) : Int) - 1 = (j : Int) by omega]
          refine ih (or_bit hT (by omega)) (by omega) hm4 hL fun m5 e5 hm5 => ?_
          have hmul : ((1 + runB T i : Nat) : Int) * (cntW N j (T ||| 2 ^ i) : Int) = (f i : Int) := by rw [hfv]; simp
          rw [oInt_mul ⟨by rw [hmul]; omega, by rw [hmul]; omega⟩, hmul, oInt_add ⟨by omega, by omega⟩]
          dsimp only
          rw [uc_e, oInt_add ⟨by omega, by omega⟩]
          refine hself hiN _ _ ⟨by rw [hsum]; rfl, (e3.trans (GtX.of e4)).trans e5, hm5⟩
      · have hiN : i = N := by omega
        subst hiN
        clear hself
        obtain ⟨el2, he2⟩ := hm3
        rw [oOpt_e, l1 m3 q13, oOpt_e, lK m3 q23, oOpt_e]
        have hput : ∃ el3, mapPut Tryd.prog 99 (key2 T (j + 1)) (.int .i64 (sumC f i : Int)) (ents2 i el2) = some (ents2 i el3) := by
          rw [← hcW]
          rcases find2 (n := i) T (j + 1) el2 0 with h | ⟨i0, h⟩
          · exact ⟨el2 ++ [(T, j + 1)], by rw [mapPut_new h]; simp [ents2]⟩
          · refine ⟨el2.set i0 (T, j + 1), ?_⟩
            rw [mapPut_old h]
            unfold ents2
            rw [List.map_set]
        obtain ⟨el3, hput⟩ := hput
        rw [amapUpdate_e u84 hkk hL he2 hput, oRes_e, ← hcW]
        exact hk _ (((GtX.of (e1.trans e2)).trans e3).put rfl _) ⟨el3, Mem.rd_put_eq _ _ (Mem.rd_lt he2)⟩
    · have hlk : alookup Tryd.prog m2 84 (.map (some mb)) (key2 T (j + 1)) true = some (.tuple ⟨[.int .i64 (cntW N (j + 1) T), .bool true]⟩) := alookup_hit u84 hkk he h
      rw [hlk]
      try simp (disch := first | omega | with_unfolding_all exact id rfl | with_unfolding_all exact Nat.le_of_ble_eq_true rfl | (simp only [Jd, Je, Jr, Js, Jt, Nat.reduceAdd, allOne, oneCell, Bool.and_self, Jc]; first | done | omega)) only [↓Qa, ↓Qb, ↓Qc, Qd, Qe, Qf, Qg, Qh, Qi, Qj, Qk, Ql, Qm, Qn, Qo, Qp, Qq, Qr, Qs, Qt, Qu, Qv, Qw, Qx, Qy, ptrTo, Qz, QA, QB, QC, QD, QE, QF, QG, QH, QI, QJ, QK, QL, QM, QN, QO, QP, QQ, QR, QS, QT, QU, QV, QW, QX, QY, QZ, Ja, Jb, Jc, Jd, Je, Jf, Jg, Jh, Ji, Jj, Jk, Jl, Jm, Jn, Jo, Jp, Jq, Jr, Js, Jt, Nat.reduceAdd]
      exact hk m2 (GtX.of (e1.trans e2)) ⟨el, he⟩
end
end Go.Vit
