/- Walks: the worth of all ways to go on, kept in a map. -/
import Derived.Test.YtffomiamkiakcaaW5
import Derived.Test.YtffomiamkiakcaaP5
import Derived.Test.YtffomiamkiakcaaCoreD
set_option linter.unusedSimpArgs false
set_option linter.unusedVariables false
set_option maxRecDepth 20000
namespace Go.Vit
open Go Go.Proofs
attribute [local irreducible] runT loopS
theorem u3 : Try.prog.underlying 3 = some (.int .i64) := by kernel_rfl
theorem u100 : Try.prog.underlying 100 = some (.map 111 3) := by kernel_rfl
theorem u110 : Try.prog.underlying 111 = some (.array 3 3) := by kernel_rfl
theorem eqg110 : Try.prog.eqGuardType Try.prog.depth 111 = false := by kernel_rfl
theorem tz3 : tzero Try.prog 3 = some (.int .i64 0) := by kernel_rfl
def key3 (a b c : Nat) : Value := .agg ⟨[.int .i64 (a : Int), .int .i64 (b : Int), .int .i64 (c : Int)]⟩
theorem keyEq3 (a b c d e f : Nat) : keyEq Try.prog 111 (key3 a b c) (key3 d e f) = some (decide (a = d ∧ b = e ∧ c = f)) := by
  have h1 : keyEq Try.prog 111 (key3 a b c) (key3 d e f) = aggEq Try.prog 111 [.int .i64 (a : Int), .int .i64 (b : Int), .int .i64 (c : Int)] [.int .i64 (d : Int), .int .i64 (e : Int), .int .i64 (f : Int)] := by
    unfold keyEq
    rw [u110]; rfl
  have h2 : aggEq Try.prog 111 [.int .i64 (a : Int), .int .i64 (b : Int), .int .i64 (c : Int)] [.int .i64 (d : Int), .int .i64 (e : Int), .int .i64 (f : Int)] = eqAt [.int .i64 (a : Int), .int .i64 (b : Int), .int .i64 (c : Int)] [.int .i64 (d : Int), .int .i64 (e : Int), .int .i64 (f : Int)] [0, 1, 2] := by
    unfold aggEq
    rw [u110]
    simp only [eqg110, isInt3, ts3]
    rfl
  rw [h1, h2]
  have h3 : ∀ x y : Int, eqCell (.int .i64 x) (.int .i64 y) = some (ieq x y) := fun _ _ => rfl
  simp only [eqAt, lget_eq, List.getElem?_cons_zero, List.getElem?_cons_succ, h3, ieq_e]
  by_cases g1 : a = d
  · by_cases g2 : b = e
    · by_cases g3 : c = f
      · simp [g1, g2, g3]
      · have : ¬ (c : Int) = (f : Int) := by omega
        simp [g1, g2, g3, this]
    · have : ¬ (b : Int) = (e : Int) := by omega
      simp [g1, g2, this]
  · have : ¬ (a : Int) = (d : Int) := by omega
    simp [g1, this]
section
variable (wo : Worth) (r : Bool) (s : List Int)
def ents3 (el : List (Nat × Nat × Nat)) : List (Value × Value) := el.map fun e => (key3 e.1 e.2.1 e.2.2, .int .i64 (Eix wo r s e.1 e.2.1 e.2.2))
end
variable {wo : Worth} {r : Bool} {s : List Int}
theorem find3 (a b c : Nat) : ∀ (el : List (Nat × Nat × Nat)) (i : Nat), mapFind Try.prog 111 (key3 a b c) (ents3 wo r s el) i = some none ∨ ∃ j, mapFind Try.prog 111 (key3 a b c) (ents3 wo r s el) i = some (some (j, .int .i64 (Eix wo r s a b c)))
  | [], _ => .inl rfl
  | e :: el, i => by
    obtain ⟨d, e', f⟩ := e
    have hd : mapFind Try.prog 111 (key3 a b c) (ents3 wo r s ((d, e', f) :: el)) i = (match some (decide (a = d ∧ b = e' ∧ c = f)) with
      | some true => some (some (i, .int .i64 (Eix wo r s d e' f)))
      | some false => mapFind Try.prog 111 (key3 a b c) (ents3 wo r s el) (Nat.succ i)
      | none => none) := by
      rw [← keyEq3]; rfl
    by_cases h : a = d ∧ b = e' ∧ c = f
    · rw [hd, decide_eq_true h]
      obtain ⟨rfl, rfl, rfl⟩ := h
      exact .inr ⟨i, rfl⟩
    · rw [hd, decide_eq_false h]
      exact find3 a b c el (Nat.succ i)
/-- A box that is to be filled, in memory. -/
structure Flr (wo : Worth) (r : Bool) (s : List Int) (g : Nat) (caps : List Value) (u : Value) (fb sb mb : Nat) (m : Mem) : Prop where
  qf : m.rd fb = some ⟨1, [.pointer (some ⟨sb, 0, none⟩), .func (.func g) #[] ⟨caps⟩, .map (some mb)], none⟩
  qs : m.rd sb = some ⟨1, [u, .bool r], none⟩
  qu : IL m u s
  qe : ∃ el, m.rd mb = some ⟨0, [], some (ents3 wo r s el)⟩
  qc : pEqL caps caps = true
  qb : bid u ≠ some mb
theorem Flr.mono {g : Nat} {caps : List Value} {u : Value} {fb sb mb : Nat} {m m' : Mem} (h : Flr wo r s g caps u fb sb mb m) (e : Gt m m') : Flr wo r s g caps u fb sb mb m' := by
  obtain ⟨el, he⟩ := h.qe
  exact ⟨(e.kept fb (Mem.rd_lt h.qf)).trans h.qf, (e.kept sb (Mem.rd_lt h.qs)).trans h.qs, h.qu.mono e, ⟨el, (e.kept mb (Mem.rd_lt he)).trans he⟩, h.qc, h.qb⟩
theorem Flr.keep {g N : Nat} {caps : List Value} {u : Value} {fb sb mb : Nat} {m m' : Mem} (h : Flr wo r s g caps u fb sb mb m) (hk : ∀ c, c < N → m'.rd c = m.rd c) (hf : fb < N) (hs : sb < N) (hb : mb < N) (hu : ∀ c, bid u = some c → c < N) : Flr wo r s g caps u fb sb mb m' := by
  obtain ⟨el, he⟩ := h.qe
  exact ⟨(hk fb hf).trans h.qf, (hk sb hs).trans h.qs, h.qu.keep fun c hc => hk c (hu c hc), ⟨el, (hk mb hb).trans he⟩, h.qc, h.qb⟩
theorem flr_beq {g mb : Nat} {caps : List Value} {p : Option Addr} (hc : pEqL caps caps = true) : bEq (some ⟨1, [.pointer p, .func (.func g) #[] ⟨caps⟩, .map (some mb)], none⟩) (some ⟨1, [.pointer p, .func (.func g) #[] ⟨caps⟩, .map (some mb)], none⟩) = true := by
  rw [bEq_ss, veqL_cons, veqL_cons, veqL_cons, veqL_nil, veq_ptr]
  show (true && ((Nat.beq g g && pEqL caps caps) && (Nat.beq mb mb && true))) = true
  rw [Nat.beq_refl, hc, Nat.beq_refl]; rfl
theorem Flr.sm {g : Nat} {caps : List Value} {u : Value} {fb sb mb : Nat} {m : Mem} (h : Flr wo r s g caps u fb sb mb m) : bEq (m.rd fb) (m.rd fb) = true := by
  rw [h.qf]; exact flr_beq h.qc
theorem shr3 (a x : Nat) (hx : x ≤ 64) : abin Try.prog .shr 3 (.int .i64 (a : Int)) (.int .i64 (x : Int)) = some (.int .i64 ((a >>> x : Nat) : Int)) := by
  show ashift .shr .i64 (Int.ofNat a) ((x : Nat) : Int) = _
  unfold ashift
  have h0 : ilt ((x : Nat) : Int) 0 = false := by rw [ilt_e]; simp
  rw [h0]
  show mkI .i64 (ashr (Int.ofNat a) (nmin (Int.toNat (x : Int)) 64)) = _
  have hmin : nmin x 64 = x := by unfold nmin; rw [ble_t hx]
  rw [Int.toNat_natCast, hmin, mkI_e]
  rfl
theorem bit_e (x i : Nat) : decide ((((x >>> i) &&& 1 : Nat) : Int) = 1) = x.testBit i := by
  rw [Nat.and_one_is_mod, Nat.testBit_eq_decide_div_mod_eq, Nat.shiftRight_eq_div_pow]
  refine decide_eq_decide.2 ?_
  omega
theorem shl3 {i : Nat} (h : i < 60) : abin Try.prog .shl 3 (.int .i64 1) (.int .i64 (i : Int)) = some (.int .i64 ((2 ^ i : Nat) : Int)) := by
  have h2 : 2 ^ i ≤ 2 ^ 60 := Nat.pow_le_pow_right (by omega) (by omega)
  have h3 : (1 : Int) * 2 ^ i = ((2 ^ i : Nat) : Int) := by simp
  rw [shl_e u3 (by omega) (by omega) (by rw [h3]; omega), h3]
theorem neg1 : (-(0 + 1) : Int) = -1 := id rfl
theorem bu111 (a b c : Int) : bu Try.prog 111 [(0, .int .i64 a), (1, .int .i64 b), (2, .int .i64 c)] = some (.agg ⟨[.int .i64 a, .int .i64 b, .int .i64 c]⟩) := by kernel_rfl
section
variable {lf n L g fb sb mb : Nat} {caps : List Value} {u : Value} {m m0 : Mem} {k : Value → Mem → Option Unit}
/-- What the way of filling does with a step more. -/
def MoreOk (wo : Worth) (lf g : Nat) (caps : List Value) (X : Nat → Prop) (m0 : Mem) : Prop := ∀ (n L : Nat) (a b : Int) (m : Mem) (k : Value → Mem → Option Unit), GtX X m0 m → 0 ≤ a ∧ a ≤ 1000 → 0 ≤ b ∧ b ≤ 60 → k (.int .i64 (wo.g a b)) m = some () →
  oCallV (runT (tab lf) (n + 1)) (.func (.func g) #[] ⟨caps⟩) [.int .i64 a, .int .i64 b] L m k = some ()
theorem filler_step_sp {a b : Nat} {w : Int} (hm : ∀ y ∈ s, 0 ≤ y ∧ y ≤ 60) (hF : Flr wo r s g caps u fb sb mb m) (hmo : MoreOk wo lf g caps (· = mb) m0) (e : GtX (· = mb) m0 m) (ha : a < s.length) (hb : b < s.length) (hw : -1 ≤ w ∧ w ≤ 1000)
    (hk : k (.int .i64 (stW wo (s.getD a 0) (s.getD b 0) w)) m = some ()) : runT (tab lf) (n + 3) 98 [.pointer (some ⟨fb, 0, none⟩), .int .i64 (a : Int), .int .i64 (b : Int), .int .i64 w] L m k = some () := by
  rw [r98]; dsimp only [S98, iofNat, inegSucc]
  have han : ∀ a : Addr, anil (.pointer (some a)) = some (.pointer (some a)) := fun _ => rfl
  have c0 : ([.pointer (some ⟨sb, 0, none⟩), .func (.func g) #[] ⟨caps⟩, .map (some mb)] : List Value)[0]? = some (.pointer (some ⟨sb, 0, none⟩)) := rfl
  have c1 : ([.pointer (some ⟨sb, 0, none⟩), .func (.func g) #[] ⟨caps⟩, .map (some mb)] : List Value)[0 + 1]? = some (.func (.func g) #[] ⟨caps⟩) := rfl
  have d0 : ([u, .bool r] : List Value)[0]? = some u := rfl
  try simp (disch := first | omega | with_unfolding_all exact id rfl | with_unfolding_all exact Nat.le_of_ble_eq_true rfl | (simp only [Jd, Je, Jr, Js, Jt, Nat.reduceAdd, allOne, oneCell, Bool.and_self, Jc]; first | done | omega)) only [↓Qa, ↓Qb, ↓Qc, Qd, Qe, Qf, Qg, Qh, Qi, Qj, Qk, Ql, Qm, Qn, Qo, Qp, Qq, Qr, Qs, Qt, Qu, Qv, Qw, Qx, Qy, ptrTo, Qz, QA, QB, QC, QD, QE, QF, QG, QH, QI, QJ, QK, QL, QM, QN, QO, QP, QQ, QR, QS, QT, QU, QV, QW, QX, QY, QZ, Ja, Jb, Jc, Jd, Je, Jf, Jg, Jh, Ji, Jj, Jk, Jl, Jm, Jn, Jo, Jp, Jq, Jr, Js, Jt, Nat.reduceAdd]
  unfold stW at hk
  by_cases h : w = -1
  · rw [if_pos h] at hk
    try simp (disch := first | omega | with_unfolding_all exact id rfl | with_unfolding_all exact Nat.le_of_ble_eq_true rfl | (simp only [Jd, Je, Jr, Js, Jt, Nat.reduceAdd, allOne, oneCell, Bool.and_self, Jc]; first | done | omega)) only [neg1, decide_eq_true h, ↓Qa, ↓Qb, ↓Qc, Qd, Qe, Qf, Qg, Qh, Qi, Qj, Qk, Ql, Qm, Qn, Qo, Qp, Qq, Qr, Qs, Qt, Qu, Qv, Qw, Qx, Qy, ptrTo, Qz, QA, QB, QC, QD, QE, QF, QG, QH, QI, QJ, QK, QL, QM, QN, QO, QP, QQ, QR, QS, QT, QU, QV, QW, QX, QY, QZ, Ja, Jb, Jc, Jd, Je, Jf, Jg, Jh, Ji, Jj, Jk, Jl, Jm, Jn, Jo, Jp, Jq, Jr, Js, Jt, Nat.reduceAdd]
    exact hk
  · rw [if_neg h] at hk
    have hg : ∀ i (hi : i < s.length), s.getD i 0 = s[i] := fun i hi => by rw [List.getD_eq_getElem?_getD, List.getElem?_eq_getElem hi]; rfl
    rw [hg a ha, hg b hb] at hk
    have ba := hm _ (List.getElem_mem ha)
    have bb := hm _ (List.getElem_mem hb)
    try simp (disch := first | omega | with_unfolding_all exact id rfl | with_unfolding_all exact Nat.le_of_ble_eq_true rfl | (simp only [Jd, Je, Jr, Js, Jt, Nat.reduceAdd, allOne, oneCell, Bool.and_self, Jc]; first | done | omega)) only [neg1, decide_eq_false h, han, hF.qf, c0, c1, hF.qs, d0, hF.qu.ia ha, hF.qu.ld ha, hF.qu.ia hb, hF.qu.ld hb, ↓Qa, ↓Qb, ↓Qc, Qd, Qe, Qf, Qg, Qh, Qi, Qj, Qk, Ql, Qm, Qn, Qo, Qp, Qq, Qr, Qs, Qt, Qu, Qv, Qw, Qx, Qy, ptrTo, Qz, QA, QB, QC, QD, QE, QF, QG, QH, QI, QJ, QK, QL, QM, QN, QO, QP, QQ, QR, QS, QT, QU, QV, QW, QX, QY, QZ, Ja, Jb, Jc, Jd, Je, Jf, Jg, Jh, Ji, Jj, Jk, Jl, Jm, Jn, Jo, Jp, Jq, Jr, Js, Jt, Nat.reduceAdd]
    refine apart_sp ba bb ?_
    rw [hF.qf, flr_beq hF.qc, oIf_t]
    exact hmo _ _ _ _ _ _ e ⟨by omega, by omega⟩ (ab_bd ba bb) hk
set_option maxHeartbeats 2000000 in
theorem ends_sp (hlf : 1000000 ≤ lf) (hm : ∀ y ∈ s, 0 ≤ y ∧ y ≤ 60) (h7 : s.length ≤ 7) (hmo : MoreOk wo lf g caps (· = mb) m0) : ∀ (j : Nat) {n L f a x : Nat} {m : Mem} {k : Value → Mem → Option Unit}, (Vl s x s.length).length = j → x < 2 ^ s.length → f < s.length → a < s.length →
    Flr wo r s g caps u fb sb mb m → GtX (· = mb) m0 m → L ≤ mb → (∀ m', GtX (· = mb) m m' → Flr wo r s g caps u fb sb mb m' → k (.int .i64 (Eix wo r s f a x)) m' = some ()) →
    runT (tab lf) (n + j + 3) 97 [.pointer (some ⟨fb, 0, none⟩), .int .i64 (f : Int), .int .i64 (a : Int), .int .i64 (x : Int)] L m k = some () := by
  intro j
  induction j with
  | zero =>
    intro n L f a x m k hj hx hf ha hF e hL hk
    have hx0 : x = 0 := Classical.byContradiction fun h => Vl_ne hx h (List.length_eq_zero_iff.1 hj)
    subst hx0
    rw [r97]; dsimp only [S97, iofNat, inegSucc]
    have han : ∀ a : Addr, anil (.pointer (some a)) = some (.pointer (some a)) := fun _ => rfl
    have c0 : ([.pointer (some ⟨sb, 0, none⟩), .func (.func g) #[] ⟨caps⟩, .map (some mb)] : List Value)[0]? = some (.pointer (some ⟨sb, 0, none⟩)) := rfl
    have c1 : ([.pointer (some ⟨sb, 0, none⟩), .func (.func g) #[] ⟨caps⟩, .map (some mb)] : List Value)[0 + 1]? = some (.func (.func g) #[] ⟨caps⟩) := rfl
    have d0 : ([u, .bool r] : List Value)[0]? = some u := rfl
    have d1 : ([u, .bool r] : List Value)[0 + 1]? = some (.bool r) := rfl
    have hE : Eix wo r s f a 0 = clW wo r (s.getD a 0) (s.getD f 0) := by
      unfold Eix
      rw [Vl_zero]; rfl
    have hk0 := hk m (GtX.refl _) hF
    rw [hE] at hk0
    unfold clW at hk0
    cases r with
    | false =>
      try simp (disch := first | omega | with_unfolding_all exact id rfl | with_unfolding_all exact Nat.le_of_ble_eq_true rfl | (simp only [Jd, Je, Jr, Js, Jt, Nat.reduceAdd, allOne, oneCell, Bool.and_self, Jc]; first | done | omega)) only [han, hF.qf, c0, c1, hF.qs, d0, d1, ↓Qa, ↓Qb, ↓Qc, Qd, Qe, Qf, Qg, Qh, Qi, Qj, Qk, Ql, Qm, Qn, Qo, Qp, Qq, Qr, Qs, Qt, Qu, Qv, Qw, Qx, Qy, ptrTo, Qz, QA, QB, QC, QD, QE, QF, QG, QH, QI, QJ, QK, QL, QM, QN, QO, QP, QQ, QR, QS, QT, QU, QV, QW, QX, QY, QZ, Ja, Jb, Jc, Jd, Je, Jf, Jg, Jh, Ji, Jj, Jk, Jl, Jm, Jn, Jo, Jp, Jq, Jr, Js, Jt, Nat.reduceAdd]
      exact hk0
    | true =>
      have hg : ∀ i (hi : i < s.length), s.getD i 0 = s[i] := fun i hi => by rw [List.getD_eq_getElem?_getD, List.getElem?_eq_getElem hi]; rfl
      rw [hg a ha, hg f hf, if_pos rfl] at hk0
      have ba := hm _ (List.getElem_mem ha)
      have bf := hm _ (List.getElem_mem hf)
      try simp (disch := first | omega | with_unfolding_all exact id rfl | with_unfolding_all exact Nat.le_of_ble_eq_true rfl | (simp only [Jd, Je, Jr, Js, Jt, Nat.reduceAdd, allOne, oneCell, Bool.and_self, Jc]; first | done | omega)) only [han, hF.qf, c0, c1, hF.qs, d0, d1, hF.qu.ia ha, hF.qu.ld ha, hF.qu.ia hf, hF.qu.ld hf, ↓Qa, ↓Qb, ↓Qc, Qd, Qe, Qf, Qg, Qh, Qi, Qj, Qk, Ql, Qm, Qn, Qo, Qp, Qq, Qr, Qs, Qt, Qu, Qv, Qw, Qx, Qy, ptrTo, Qz, QA, QB, QC, QD, QE, QF, QG, QH, QI, QJ, QK, QL, QM, QN, QO, QP, QQ, QR, QS, QT, QU, QV, QW, QX, QY, QZ, Ja, Jb, Jc, Jd, Je, Jf, Jg, Jh, Ji, Jj, Jk, Jl, Jm, Jn, Jo, Jp, Jq, Jr, Js, Jt, Nat.reduceAdd]
      refine apart_sp ba bf ?_
      rw [hF.qf, flr_beq hF.qc, oIf_t]
      exact hmo _ _ _ _ _ _ e ⟨by omega, by omega⟩ (ab_bd ba bf) hk0
  | succ j ih =>
    intro n L f a x m k hj hx hf ha hF e hL hk
    have hx0 : ¬ ((x : Nat) : Int) = 0 := fun h => by
      have : x = 0 := by omega
      rw [this, Vl_zero] at hj; simp at hj
    have hx128 : x < 128 := Nat.lt_of_lt_of_le hx (Nat.pow_le_pow_right (n := 2) (by omega) h7)
    rw [show n + (j + 1) + 3 = (n + j + 3) + 1 by omega, r97]; dsimp only [S97, iofNat, inegSucc]
    have han : ∀ a : Addr, anil (.pointer (some a)) = some (.pointer (some a)) := fun _ => rfl
    have c0 : ([.pointer (some ⟨sb, 0, none⟩), .func (.func g) #[] ⟨caps⟩, .map (some mb)] : List Value)[0]? = some (.pointer (some ⟨sb, 0, none⟩)) := rfl
    have c2 : ([.pointer (some ⟨sb, 0, none⟩), .func (.func g) #[] ⟨caps⟩, .map (some mb)] : List Value)[0 + 2]? = some (.map (some mb)) := rfl
    have d0 : ([u, .bool r] : List Value)[0]? = some u := rfl
    have hmb : mb < m.next := by
      obtain ⟨el, he⟩ := hF.qe
      exact Mem.rd_lt he
    rw [uc_e, uc_e, uc_e, uc_e, un0_e, oInt_eql, decide_eq_false hx0, oIf_f, bu111, oOpt_e, anew_eq, oRes_e]
    have hst : st1 3 L (m.push ⟨1, [.int .i64 0, .int .i64 0, .int .i64 0], none⟩) (ptrTo m.next) (.agg ⟨[.int .i64 (f : Int), .int .i64 (a : Int), .int .i64 (x : Int)]⟩) = some (Go.undef, (m.push ⟨1, [.int .i64 0, .int .i64 0, .int .i64 0], none⟩).put m.next (some ⟨1, [.int .i64 (f : Int), .int .i64 (a : Int), .int .i64 (x : Int)], none⟩)) := by
      show st1 3 L _ (.pointer (some ⟨m.next, 0, none⟩)) _ = _
      rw [st1_u, Mem.rd_push]
      exact stw_e (by omega) rfl (Nat.le_refl _) rfl
    rw [hst, oRes_e]
    have e1 : Gt m ((m.push ⟨1, [.int .i64 0, .int .i64 0, .int .i64 0], none⟩).put m.next (some ⟨1, [.int .i64 (f : Int), .int .i64 (a : Int), .int .i64 (x : Int)], none⟩)) := Mem.put_gt (Mem.gt_push _ _) _ (Nat.le_refl _)
    have q1 : ((m.push ⟨1, [.int .i64 0, .int .i64 0, .int .i64 0], none⟩).put m.next (some ⟨1, [.int .i64 (f : Int), .int .i64 (a : Int), .int .i64 (x : Int)], none⟩)).rd m.next = some ⟨1, [.int .i64 (f : Int), .int .i64 (a : Int), .int .i64 (x : Int)], none⟩ := Mem.rd_put_eq _ _ (by rw [Mem.push_next]; omega)
    have n1 : ((m.push ⟨1, [.int .i64 0, .int .i64 0, .int .i64 0], none⟩).put m.next (some ⟨1, [.int .i64 (f : Int), .int .i64 (a : Int), .int .i64 (x : Int)], none⟩)).next = m.next + 1 := rfl
    generalize (m.push ⟨1, [.int .i64 0, .int .i64 0, .int .i64 0], none⟩).put m.next (some ⟨1, [.int .i64 (f : Int), .int .i64 (a : Int), .int .i64 (x : Int)], none⟩) = m1 at e1 q1 n1 ⊢
    have hF1 := hF.mono e1
    have hN : ∀ m' : Mem, m'.rd m.next = some ⟨1, [.int .i64 (f : Int), .int .i64 (a : Int), .int .i64 (x : Int)], none⟩ → rdn (m'.rd m.next) 0 3 = some (key3 f a x) := by
      intro m' h
      rw [h]
      exact rdn_e _ _ _ _ (Nat.le_refl _)
    have hkk : keyEq Try.prog 111 (key3 f a x) (key3 f a x) = some true := by
      rw [keyEq3]; simp
    obtain ⟨el, he⟩ := hF1.qe
    have hfa : oOpt (fa 2 (.pointer (some ⟨fb, 0, none⟩))) = oOpt (some (.pointer (some ⟨fb, 0 + 2, none⟩))) (β := Value → Option Unit) := rfl
    try simp (disch := first | omega | with_unfolding_all exact id rfl | with_unfolding_all exact Nat.le_of_ble_eq_true rfl | (simp only [Jd, Je, Jr, Js, Jt, Nat.reduceAdd, allOne, oneCell, Bool.and_self, Jc]; first | done | omega)) only [han, hF1.qf, c2, hN m1 q1, ↓Qa, ↓Qb, ↓Qc, Qd, Qe, Qf, Qg, Qh, Qi, Qj, Qk, Ql, Qm, Qn, Qo, Qp, Qq, Qr, Qs, Qt, Qu, Qv, Qw, Qx, Qy, ptrTo, Qz, QA, QB, QC, QD, QE, QF, QG, QH, QI, QJ, QK, QL, QM, QN, QO, QP, QQ, QR, QS, QT, QU, QV, QW, QX, QY, QZ, Ja, Jb, Jc, Jd, Je, Jf, Jg, Jh, Ji, Jj, Jk, Jl, Jm, Jn, Jo, Jp, Jq, Jr, Js, Jt, Nat.reduceAdd]
    rcases find3 (wo := wo) (r := r) (s := s) f a x el 0 with h | ⟨i0, h⟩
    · have hlk : alookup Try.prog m1 100 (.map (some mb)) (key3 f a x) true = some (.tuple ⟨[.int .i64 0, .bool false]⟩) := alookup_miss u100 hkk he h tz3 rfl
      rw [hlk]
      try simp (disch := first | omega | with_unfolding_all exact id rfl | with_unfolding_all exact Nat.le_of_ble_eq_true rfl | (simp only [Jd, Je, Jr, Js, Jt, Nat.reduceAdd, allOne, oneCell, Bool.and_self, Jc]; first | done | omega)) only [han, hF1.qf, c0, hF1.qs, d0, hF1.qu.ln, ↓Qa, ↓Qb, ↓Qc, Qd, Qe, Qf, Qg, Qh, Qi, Qj, Qk, Ql, Qm, Qn, Qo, Qp, Qq, Qr, Qs, Qt, Qu, Qv, Qw, Qx, Qy, ptrTo, Qz, QA, QB, QC, QD, QE, QF, QG, QH, QI, QJ, QK, QL, QM, QN, QO, QP, QQ, QR, QS, QT, QU, QV, QW, QX, QY, QZ, Ja, Jb, Jc, Jd, Je, Jf, Jg, Jh, Ji, Jj, Jk, Jl, Jm, Jn, Jo, Jp, Jq, Jr, Js, Jt, Nat.reduceAdd]
      have hloop : ∀ i, i ≤ s.length → s.length - i + i = s.length := fun i hi => by omega
      refine loop_up s.length (fun i vs m' => ∃ acc : Int, vs = [.int .i64 acc, .int .i64 (i : Int)] ∧ GtX (· = mb) m1 m' ∧ Flr wo r s g caps u fb sb mb m' ∧ m'.rd m.next = some ⟨1, [.int .i64 (f : Int), .int .i64 (a : Int), .int .i64 (x : Int)], none⟩ ∧ (-1 ≤ acc ∧ acc ≤ 1000) ∧
        bestH (hX wo r s f a j) (Vl s x i) (Vr s x (s.length - i) i) acc = Eix wo r s f a x) (by omega) ⟨-1, rfl, GtX.refl _, hF1, q1, ⟨by omega, by omega⟩, ?_⟩ ?_
      · rw [Eix_succ hj]
        have := Vlr s x s.length 0
        rw [Nat.zero_add] at this
        rw [this]; rfl
      · rintro i vs m2 hi ⟨acc, rfl, e2, hF2, q2, hacc, hB⟩ self hself
        have n2 := e2.next
        have e02 : GtX (· = mb) m0 m2 := e.trans ((GtX.of e1).trans e2)
        try simp (disch := first | omega | with_unfolding_all exact id rfl | with_unfolding_all exact Nat.le_of_ble_eq_true rfl | (simp only [Jd, Je, Jr, Js, Jt, Nat.reduceAdd, allOne, oneCell, Bool.and_self, Jc]; first | done | omega)) only [↓Qa, ↓Qb, ↓Qc, Qd, Qe, Qf, Qg, Qh, Qi, Qj, Qk, Ql, Qm, Qn, Qo, Qp, Qq, Qr, Qs, Qt, Qu, Qv, Qw, Qx, Qy, ptrTo, Qz, QA, QB, QC, QD, QE, QF, QG, QH, QI, QJ, QK, QL, QM, QN, QO, QP, QQ, QR, QS, QT, QU, QV, QW, QX, QY, QZ, Ja, Jb, Jc, Jd, Je, Jf, Jg, Jh, Ji, Jj, Jk, Jl, Jm, Jn, Jo, Jp, Jq, Jr, Js, Jt, Nat.reduceAdd]
        refine oIf_dec (fun h1 => ?_) (fun h1 => ?_)
        · have hil : i < s.length := by omega
          have hsx : x >>> i ≤ x := by rw [Nat.shiftRight_eq_div_pow]; exact Nat.div_le_self _ _
          rw [shr3 x i (by omega), oOpt_e, show (1 : Int) = ((1 : Nat) : Int) from rfl, oInt_and (by omega) (by omega), oInt_eql, show ((1 : Nat) : Int) = 1 from rfl, bit_e]
          cases hb : x.testBit i with
          | false =>
            try simp (disch := first | omega | with_unfolding_all exact id rfl | with_unfolding_all exact Nat.le_of_ble_eq_true rfl | (simp only [Jd, Je, Jr, Js, Jt, Nat.reduceAdd, allOne, oneCell, Bool.and_self, Jc]; first | done | omega)) only [↓Qa, ↓Qb, ↓Qc, Qd, Qe, Qf, Qg, Qh, Qi, Qj, Qk, Ql, Qm, Qn, Qo, Qp, Qq, Qr, Qs, Qt, Qu, Qv, Qw, Qx, Qy, ptrTo, Qz, QA, QB, QC, QD, QE, QF, QG, QH, QI, QJ, QK, QL, QM, QN, QO, QP, QQ, QR, QS, QT, QU, QV, QW, QX, QY, QZ, Ja, Jb, Jc, Jd, Je, Jf, Jg, Jh, Ji, Jj, Jk, Jl, Jm, Jn, Jo, Jp, Jq, Jr, Js, Jt, Nat.reduceAdd]
            rw [oInt_add ⟨by omega, by omega⟩]
            refine hself hil _ _ ⟨acc, rfl, e2, hF2, q2, hacc, ?_⟩
            rw [Vl_off hb, ← Vr_off hil hb]
            exact hB
          | true =>
            try simp (disch := first | omega | with_unfolding_all exact id rfl | with_unfolding_all exact Nat.le_of_ble_eq_true rfl | (simp only [Jd, Je, Jr, Js, Jt, Nat.reduceAdd, allOne, oneCell, Bool.and_self, Jc]; first | done | omega)) only [↓Qa, ↓Qb, ↓Qc, Qd, Qe, Qf, Qg, Qh, Qi, Qj, Qk, Ql, Qm, Qn, Qo, Qp, Qq, Qr, Qs, Qt, Qu, Qv, Qw, Qx, Qy, ptrTo, Qz, QA, QB, QC, QD, QE, QF, QG, QH, QI, QJ, QK, QL, QM, QN, QO, QP, QQ, QR, QS, QT, QU, QV, QW, QX, QY, QZ, Ja, Jb, Jc, Jd, Je, Jf, Jg, Jh, Ji, Jj, Jk, Jl, Jm, Jn, Jo, Jp, Jq, Jr, Js, Jt, Nat.reduceAdd]
            rw [shl3 (by omega), oOpt_e, oInt_andNot (by omega) (by have : 2 ^ i ≤ 2 ^ 7 := Nat.pow_le_pow_right (by omega) (by omega); omega)]
            have hcl : x ^^^ (x &&& 2 ^ i) = clr x i := rfl
            rw [hcl]
            refine ih (Vl_clr_len hil hb hj) (clr_lt hx) hf hil hF2 e02 hL fun m3 e3 hF3 => ?_
            have hlow := Eix_low (wo := wo) (r := r) (s := s) f i (clr x i)
            have hup := Eix_up (wo := wo) (r := r) (s := s) (x := clr x i) hm h7 hf hil (by have := Vl_len s (clr x i) s.length; omega)
            refine filler_step_sp hm hF3 hmo (e02.trans e3) ha hil ⟨hlow, by omega⟩ ?_
            rw [maxI_e, oOpt_e]
            try simp (disch := first | omega | with_unfolding_all exact id rfl | with_unfolding_all exact Nat.le_of_ble_eq_true rfl | (simp only [Jd, Je, Jr, Js, Jt, Nat.reduceAdd, allOne, oneCell, Bool.and_self, Jc]; first | done | omega)) only [↓Qa, ↓Qb, ↓Qc, Qd, Qe, Qf, Qg, Qh, Qi, Qj, Qk, Ql, Qm, Qn, Qo, Qp, Qq, Qr, Qs, Qt, Qu, Qv, Qw, Qx, Qy, ptrTo, Qz, QA, QB, QC, QD, QE, QF, QG, QH, QI, QJ, QK, QL, QM, QN, QO, QP, QQ, QR, QS, QT, QU, QV, QW, QX, QY, QZ, Ja, Jb, Jc, Jd, Je, Jf, Jg, Jh, Ji, Jj, Jk, Jl, Jm, Jn, Jo, Jp, Jq, Jr, Js, Jt, Nat.reduceAdd]
            rw [oInt_add ⟨by omega, by omega⟩]
            have hst2 := stW_low (wo := wo) (a := s.getD a 0) (b := s.getD i 0) hlow
            have hgi : ∀ i, i < s.length → 0 ≤ s.getD i 0 ∧ s.getD i 0 ≤ 60 := by
              intro i hi
              rw [List.getD_eq_getElem?_getD, List.getElem?_eq_getElem hi]
              exact hm _ (List.getElem_mem hi)
            have hst3 : stW wo (s.getD a 0) (s.getD i 0) (Eix wo r s f i (clr x i)) ≤ 1000 := by
              have hab := ab_bd (hgi a ha) (hgi i hil)
              unfold stW
              split
              · omega
              · have := wo.up (show 0 ≤ Eix wo r s f i (clr x i) by omega) (ab_nn (s.getD a 0) (s.getD i 0))
                omega
            refine hself hil _ _ ⟨_, rfl, e2.trans e3, hF3, (e3.kept _ (by omega) (by omega)).trans q2, ⟨by omega, by omega⟩, ?_⟩
            rw [hX_eix hil hb hj, Vl_on hb]
            rw [Vr_on hil hb] at hB
            have e4 : s.length - (i + 1) = s.length - i - 1 := by omega
            rw [e4]
            exact hB
        · have hin : i = s.length := by omega
          subst hin
          rw [Nat.sub_self] at hB
          have hB' : acc = Eix wo r s f a x := hB
          subst hB'
          obtain ⟨el2, he2⟩ := hF2.qe
          try simp (disch := first | omega | with_unfolding_all exact id rfl | with_unfolding_all exact Nat.le_of_ble_eq_true rfl | (simp only [Jd, Je, Jr, Js, Jt, Nat.reduceAdd, allOne, oneCell, Bool.and_self, Jc]; first | done | omega)) only [han, hF2.qf, c2, hN m2 q2, ↓Qa, ↓Qb, ↓Qc, Qd, Qe, Qf, Qg, Qh, Qi, Qj, Qk, Ql, Qm, Qn, Qo, Qp, Qq, Qr, Qs, Qt, Qu, Qv, Qw, Qx, Qy, ptrTo, Qz, QA, QB, QC, QD, QE, QF, QG, QH, QI, QJ, QK, QL, QM, QN, QO, QP, QQ, QR, QS, QT, QU, QV, QW, QX, QY, QZ, Ja, Jb, Jc, Jd, Je, Jf, Jg, Jh, Ji, Jj, Jk, Jl, Jm, Jn, Jo, Jp, Jq, Jr, Js, Jt, Nat.reduceAdd]
          have hput : ∃ el3, mapPut Try.prog 111 (key3 f a x) (.int .i64 (Eix wo r s f a x)) (ents3 wo r s el2) = some (ents3 wo r s el3) := by
            rcases find3 (wo := wo) (r := r) (s := s) f a x el2 0 with h | ⟨i0, h⟩
            · exact ⟨el2 ++ [(f, a, x)], by rw [mapPut_new h]; simp [ents3]⟩
            · refine ⟨el2.set i0 (f, a, x), ?_⟩
              rw [mapPut_old h]
              unfold ents3
              rw [List.map_set]
          obtain ⟨el3, hput⟩ := hput
          rw [amapUpdate_e u100 hkk hL he2 hput, oRes_e]
          have hne1 : fb ≠ mb := fun h => by
            have h1 := hF2.qf
            rw [h, he2] at h1
            cases h1
          have hne2 : sb ≠ mb := fun h => by
            have h1 := hF2.qs
            rw [h, he2] at h1
            cases h1
          refine hk _ ((GtX.of e1).trans (e2.put rfl _)) ⟨?_, ?_, ?_, ⟨el3, ?_⟩, hF2.qc, hF2.qb⟩
          · rw [Mem.rd_put _ _ _ _ (Ne.symm hne1)]; exact hF2.qf
          · rw [Mem.rd_put _ _ _ _ (Ne.symm hne2)]; exact hF2.qs
          · exact hF2.qu.keep fun c hc => Mem.rd_put _ _ _ _ fun h => hF2.qb (by rw [hc, h])
          · exact Mem.rd_put_eq _ _ (Mem.rd_lt he2)
    · have hlk : alookup Try.prog m1 100 (.map (some mb)) (key3 f a x) true = some (.tuple ⟨[.int .i64 (Eix wo r s f a x), .bool true]⟩) := alookup_hit u100 hkk he h
      rw [hlk]
      try simp (disch := first | omega | with_unfolding_all exact id rfl | with_unfolding_all exact Nat.le_of_ble_eq_true rfl | (simp only [Jd, Je, Jr, Js, Jt, Nat.reduceAdd, allOne, oneCell, Bool.and_self, Jc]; first | done | omega)) only [↓Qa, ↓Qb, ↓Qc, Qd, Qe, Qf, Qg, Qh, Qi, Qj, Qk, Ql, Qm, Qn, Qo, Qp, Qq, Qr, Qs, Qt, Qu, Qv, Qw, Qx, Qy, ptrTo, Qz, QA, QB, QC, QD, QE, QF, QG, QH, QI, QJ, QK, QL, QM, QN, QO, QP, QQ, QR, QS, QT, QU, QV, QW, QX, QY, QZ, Ja, Jb, Jc, Jd, Je, Jf, Jg, Jh, Ji, Jj, Jk, Jl, Jm, Jn, Jo, Jp, Jq, Jr, Js, Jt, Nat.reduceAdd]
      exact hk m1 (GtX.of e1) hF1
end
end Go.Vit
