/- Walks: a box is filled. -/
import Derived.Test.YtffomiamkiakcaaW6
set_option linter.unusedSimpArgs false
set_option linter.unusedVariables false
set_option maxRecDepth 20000
namespace Go.Vit
open Go Go.Proofs
attribute [local irreducible] runT loopS
theorem bs220 (m : Mem) : bs Try.prog m 22 0 [] = some (slTo0 0 m.next, m.push ⟨1, [], none⟩) :=
  (show _ = anew m 1 [] (slTo0 0) by kernel_rfl).trans (anew_eq ..)
theorem bu102 (p : Option Addr) (g q' : Nat) (caps : List Value) : bu Try.prog 102 [(0, .pointer p), (1, .func (.func g) #[] ⟨caps⟩), (2, .map (some q'))] = some (.agg ⟨[.pointer p, .func (.func g) #[] ⟨caps⟩, .map (some q')]⟩) := by kernel_rfl
/-- Numbers are appended to an empty literal. -/
theorem app_e0 {L : Nat} {m : Mem} {b : Nat} {v : Value} {l : List Int} (hb : m.rd b = some ⟨1, [], none⟩) (hv : IL m v l) (h0 : 0 < l.length) (hl : l.length < 1000000) :
    aappend Try.prog L m 22 (slTo0 0 b) v = some (slTo l.length m.next, m.push ⟨1, l.map (Value.int .i64), none⟩) := by
  obtain ⟨j, hl0⟩ : ∃ j, l.length = j + 1 := ⟨l.length - 1, by omega⟩
  have h1 : Sl 1 m v l.length (l.map (Value.int .i64)) := hv
  have hr := roomy_of (n := l.length) (y := 8) (by omega) (by omega)
  unfold aappend slTo0
  rw [ael22]
  rw [hl0] at h1 hr ⊢
  simp only [h1.1, natK_eq]
  have hrd : rdc m b 0 (Nat.mul 0 1) = some [] := rdc_e (s := 1) hb (by decide)
  have hn0 : Nat.add 0 (Nat.succ j) = j + 1 := Nat.zero_add _
  simp only [hn0, hr, hrd, hb, Nat.ble_eq_true_of_le (Nat.le_refl 0), List.nil_append, anew_eq]
  rfl
theorem app_nil {L : Nat} {m : Mem} {b : Nat} {v : Value} (hv : IL m v []) : aappend Try.prog L m 22 (slTo0 0 b) v = some (slTo0 0 b, m) := by
  have h1 := hv.1
  unfold aappend slTo0
  rw [ael22]
  simp only [List.length_nil] at h1
  simp only [h1, natK_eq]
theorem gl_new {m : Mem} {l : List Int} (h0 : 0 < l.length) {L : Nat} (hL : L ≤ m.next) : GL L (m.push ⟨1, l.map (Value.int .i64), none⟩) (slTo l.length m.next) l :=
  .inr ⟨m.next, hL, rfl, Mem.rd_push m _, by simp, h0⟩
/-- A number more than a list, in a block of its own. -/
theorem app2 {L L' : Nat} {m : Mem} {v : Value} {e : List Int} (x : Int) (hL : L ≤ m.next) (hv : IL m v e) (hl : e.length < 1000) :
    ∃ w1 m1 u m2, aappend Try.prog L' (m.push ⟨1, [], none⟩) 22 (slTo0 0 m.next) v = some (w1, m1) ∧ Gt m m1 ∧ aappend Try.prog L (m1.push ⟨1, [.int .i64 x], none⟩) 22 w1 (slTo 1 m1.next) = some (u, m2) ∧ Gt m m2 ∧ GL m.next m2 u (e ++ [x]) := by
  have g1 := Mem.gt_push m ⟨1, [], none⟩
  have n1 : (m.push ⟨1, [], none⟩).next = m.next + 1 := Mem.push_next _ _
  have p1 : (m.push ⟨1, [], none⟩).rd m.next = some ⟨1, [], none⟩ := Mem.rd_push _ _
  have hv1 := hv.mono g1
  generalize m.push ⟨1, [], none⟩ = m1 at g1 n1 p1 hv1 ⊢
  by_cases h0 : e.length = 0
  · have := List.length_eq_zero_iff.1 h0
    subst this
    have g2 := Mem.gt_push m1 ⟨1, [.int .i64 x], none⟩
    have hx : IL (m1.push ⟨1, [.int .i64 x], none⟩) (slTo 1 m1.next) [x] := Gs.sl (L := m1.next) (.inr ⟨m1.next, Nat.le_refl _, rfl, Mem.rd_push _ _, rfl, Nat.zero_lt_one⟩)
    have p2 := (g2.kept m.next (by omega)).trans p1
    have n2 := g2.next
    refine ⟨_, m1, _, _, app_nil hv1, g1, app_e0 p2 hx Nat.zero_lt_one (show 1 < 1000000 by omega), (g1.trans g2).trans (Mem.gt_push _ _), gl_new (l := [x]) Nat.zero_lt_one (by omega)⟩
  · have G : Gt m (m1.push ⟨1, e.map (Value.int .i64), none⟩) := g1.trans (Mem.gt_push _ _)
    have hg := gl_new (m := m1) (l := e) (by omega) (L := m.next) (by omega)
    have ha := app_e0 (L := L') p1 hv1 (by omega) (by omega)
    generalize m1.push ⟨1, e.map (Value.int .i64), none⟩ = m2 at G hg ha
    obtain ⟨u, m3, q1, q2, q3, q4, _⟩ := GL.snocV (P := Try.prog) (L := L) (m0 := m) x ael22 (by omega) hg (by omega) hL G (Nat.le_refl _)
    exact ⟨_, m2, u, m3, ha, G, q1, q3, q2.le (by have := G.next; omega)⟩
theorem abin_snil (p : Option Addr) (n c : Nat) : abin Try.prog .eql 22 (.slice p n c) (.slice none 0 0) = some (.bool p.isNone) := by
  cases p with
  | none => kernel_rfl
  | some a => kernel_rfl
theorem gt0 (m : Mem) : Gt (⟨.e, 0⟩ : Mem) m := ⟨Nat.zero_le _, fun b h => absurd h (Nat.not_lt_zero b)⟩
variable {wo : Worth} {r : Bool} {s : List Int}
def fillS (wo : Worth) (r : Bool) (s : List Int) : List Int := if s.length = 1 then s else fillT wo r s
section
variable {lf n L g sb : Nat} {caps : List Value} {u : Value} {m : Mem} {k : Value → Mem → Option Unit}
theorem clone_sp {v : Value} {l : List Int} (hL : L ≤ m.next) (hv : IL m v l) (hl : l.length < 1000) (hne : 0 < l.length) (hk : ∀ u m', Gt m m' → GL m.next m' u l → k u m' = some ()) : runT (tab lf) (n + 1) 46 [v] L m k = some () := by
  rw [r46]; dsimp only [S46, iofNat, inegSucc]
  obtain ⟨q, c, rfl⟩ := hv.ex
  cases q with
  | none =>
    rcases hv with ⟨h1, h2 | ⟨b, o, x, c', h2⟩⟩
    · injection h2 with _ h3 _; omega
    · cases h2
  | some q =>
    try simp (disch := first | omega | with_unfolding_all exact id rfl | with_unfolding_all exact Nat.le_of_ble_eq_true rfl | (simp only [Jd, Je, Jr, Js, Jt, Nat.reduceAdd, allOne, oneCell, Bool.and_self, Jc]; first | done | omega)) only [abin_snil, Option.isNone_some, bs220, ↓Qa, ↓Qb, ↓Qc, Qd, Qe, Qf, Qg, Qh, Qi, Qj, Qk, Ql, Qm, Qn, Qo, Qp, Qq, Qr, Qs, Qt, Qu, Qv, Qw, Qx, Qy, ptrTo, Qz, QA, QB, QC, QD, QE, QF, QG, QH, QI, QJ, QK, QL, QM, QN, QO, QP, QQ, QR, QS, QT, QU, QV, QW, QX, QY, QZ, Ja, Jb, Jc, Jd, Je, Jf, Jg, Jh, Ji, Jj, Jk, Jl, Jm, Jn, Jo, Jp, Jq, Jr, Js, Jt, Nat.reduceAdd]
    have g1 := Mem.gt_push m ⟨1, [], none⟩
    have n1 : (m.push ⟨1, [], none⟩).next = m.next + 1 := Mem.push_next _ _
    have p1 : (m.push ⟨1, [], none⟩).rd m.next = some ⟨1, [], none⟩ := Mem.rd_push _ _
    have hx := hv.mono g1
    generalize m.push ⟨1, [], none⟩ = m1 at g1 n1 p1 hx ⊢
    rw [app_e0 p1 hx hne (by omega), oRes_e]
    exact hk _ _ (g1.trans (Mem.gt_push _ _)) (gl_new hne (by omega))
theorem ends10_sp {f a x fb mb : Nat} {m0 : Mem} (hlf : 1000000 ≤ lf) (hm : ∀ y ∈ s, 0 ≤ y ∧ y ≤ 60) (h7 : s.length ≤ 7) (hmo : MoreOk wo lf g caps (· = mb) m0) (hx : x < 2 ^ s.length) (hf : f < s.length) (ha : a < s.length)
    (hF : Flr wo r s g caps u fb sb mb m) (e : GtX (· = mb) m0 m) (hL : L ≤ mb) (hk : ∀ m', GtX (· = mb) m m' → Flr wo r s g caps u fb sb mb m' → k (.int .i64 (Eix wo r s f a x)) m' = some ()) :
    runT (tab lf) (n + 10) 97 [.pointer (some ⟨fb, 0, none⟩), .int .i64 (f : Int), .int .i64 (a : Int), .int .i64 (x : Int)] L m k = some () := by
  have hl := Vl_len s x s.length
  have h := ends_sp hlf hm h7 hmo _ (n := n + (7 - (Vl s x s.length).length)) (L := L) (k := k) rfl hx hf ha hF e hL hk
  rw [show n + (7 - (Vl s x s.length).length) + (Vl s x s.length).length + 3 = n + 10 by omega] at h
  exact h
set_option maxHeartbeats 4000000 in
theorem fill_sp (hlf : 1000000 ≤ lf) (hm : ∀ y ∈ s, 0 ≤ y ∧ y ≤ 60) (h1 : 1 ≤ s.length) (h7 : s.length ≤ 7) (hc : pEqL caps caps = true) (hr : m.rd sb = some ⟨1, [u, .bool r], none⟩) (hu : IL m u s) (hL : L ≤ m.next)
    (hmo : ∀ m0, Gt m m0 → MoreOk wo lf g caps (· = m.next) m0) (hk : ∀ v m', Gt m m' → GL m.next m' v (fillS wo r s) → k v m' = some ()) :
    runT (tab lf) (n + 11) 74 [.pointer (some ⟨sb, 0, none⟩), .func (.func g) #[] ⟨caps⟩] L m k = some () := by
  rw [r74]; dsimp only [S74, iofNat, inegSucc]
  have han : ∀ a : Addr, anil (.pointer (some a)) = some (.pointer (some a)) := fun _ => rfl
  have d0 : ([u, .bool r] : List Value)[0]? = some u := rfl
  try simp (disch := first | omega | with_unfolding_all exact id rfl | with_unfolding_all exact Nat.le_of_ble_eq_true rfl | (simp only [Jd, Je, Jr, Js, Jt, Nat.reduceAdd, allOne, oneCell, Bool.and_self, Jc]; first | done | omega)) only [han, hr, d0, hu.ln, ↓Qa, ↓Qb, ↓Qc, Qd, Qe, Qf, Qg, Qh, Qi, Qj, Qk, Ql, Qm, Qn, Qo, Qp, Qq, Qr, Qs, Qt, Qu, Qv, Qw, Qx, Qy, ptrTo, Qz, QA, QB, QC, QD, QE, QF, QG, QH, QI, QJ, QK, QL, QM, QN, QO, QP, QQ, QR, QS, QT, QU, QV, QW, QX, QY, QZ, Ja, Jb, Jc, Jd, Je, Jf, Jg, Jh, Ji, Jj, Jk, Jl, Jm, Jn, Jo, Jp, Jq, Jr, Js, Jt, Nat.reduceAdd]
  unfold fillS at hk
  by_cases hl1 : s.length = 1
  · rw [if_pos hl1] at hk
    rw [decide_eq_true (show ((s.length : Nat) : Int) = 1 by omega)]
    try simp (disch := first | omega | with_unfolding_all exact id rfl | with_unfolding_all exact Nat.le_of_ble_eq_true rfl | (simp only [Jd, Je, Jr, Js, Jt, Nat.reduceAdd, allOne, oneCell, Bool.and_self, Jc]; first | done | omega)) only [han, hr, d0, ↓Qa, ↓Qb, ↓Qc, Qd, Qe, Qf, Qg, Qh, Qi, Qj, Qk, Ql, Qm, Qn, Qo, Qp, Qq, Qr, Qs, Qt, Qu, Qv, Qw, Qx, Qy, ptrTo, Qz, QA, QB, QC, QD, QE, QF, QG, QH, QI, QJ, QK, QL, QM, QN, QO, QP, QQ, QR, QS, QT, QU, QV, QW, QX, QY, QZ, Ja, Jb, Jc, Jd, Je, Jf, Jg, Jh, Ji, Jj, Jk, Jl, Jm, Jn, Jo, Jp, Jq, Jr, Js, Jt, Nat.reduceAdd]
    exact clone_sp hL hu (by omega) (by omega) hk
  · rw [if_neg hl1] at hk
    rw [decide_eq_false (show ¬ ((s.length : Nat) : Int) = 1 by omega)]
    have h2 : 2 ≤ s.length := by omega
    have hpw : 2 ^ s.length ≤ 2 ^ 7 := Nat.pow_le_pow_right (by omega) h7
    have hpw1 : 1 ≤ 2 ^ s.length := Nat.one_le_two_pow
    rw [oIf_f, amakeMap_e, oRes_e, bu102, oOpt_e]
    try rw [abox_e, oRes_e]
    rw [cells_agg]
    have e1 := (Mem.gt_push m ⟨0, [], some []⟩).trans (Mem.gt_push (m.push ⟨0, [], some []⟩) ⟨1, [.pointer (some ⟨sb, 0, none⟩), .func (.func g) #[] ⟨caps⟩, .map (some m.next)], none⟩)
    have qf : ((m.push ⟨0, [], some []⟩).push ⟨1, [.pointer (some ⟨sb, 0, none⟩), .func (.func g) #[] ⟨caps⟩, .map (some m.next)], none⟩).rd (m.next + 1) = some ⟨1, [.pointer (some ⟨sb, 0, none⟩), .func (.func g) #[] ⟨caps⟩, .map (some m.next)], none⟩ := Mem.rd_push _ _
    have qm : ((m.push ⟨0, [], some []⟩).push ⟨1, [.pointer (some ⟨sb, 0, none⟩), .func (.func g) #[] ⟨caps⟩, .map (some m.next)], none⟩).rd m.next = some ⟨0, [], some []⟩ := (Mem.rd_push_lt _ _ (by rw [Mem.push_next]; omega)).trans (Mem.rd_push _ _)
    have n1 : ((m.push ⟨0, [], some []⟩).push ⟨1, [.pointer (some ⟨sb, 0, none⟩), .func (.func g) #[] ⟨caps⟩, .map (some m.next)], none⟩).next = m.next + 2 := rfl
    have hpn : (m.push ⟨0, [], some []⟩).next = m.next + 1 := rfl
    rw [hpn]
    generalize (m.push ⟨0, [], some []⟩).push ⟨1, [.pointer (some ⟨sb, 0, none⟩), .func (.func g) #[] ⟨caps⟩, .map (some m.next)], none⟩ = m1 at e1 qf qm n1 ⊢
    have hbu : bid u ≠ some m.next := fun h => by
      have := Sl.bid_lt hu (by omega) _ h
      omega
    have hF1 : Flr wo r s g caps u (m.next + 1) sb m.next m1 := ⟨qf, (e1.kept sb (Mem.rd_lt hr)).trans hr, hu.mono e1, ⟨[], qm⟩, hc, hbu⟩
    have hmo1 := hmo m1 e1
    have hall : ((2 ^ s.length : Nat) : Int) - 1 = ((2 ^ s.length - 1 : Nat) : Int) := by omega
    rw [shl3 (by omega), oOpt_e, oInt_sub ⟨by omega, by omega⟩, hall]
    have hclr : ∀ x i, x ^^^ (x &&& 2 ^ i) = clr x i := fun _ _ => rfl
    have hp2 : ∀ i, i < s.length → 2 ^ i ≤ 2 ^ 7 := fun i hi => Nat.pow_le_pow_right (by omega) (by omega)
    have hax : 2 ^ s.length - 1 < 2 ^ s.length := by omega
    have hjall : (Vl s (2 ^ s.length - 1) s.length).length = (s.length - 1) + 1 := by rw [Vl_all s _ (Nat.le_refl _), List.take_length]; omega
    have hbit : ∀ i, i < s.length → (2 ^ s.length - 1).testBit i = true := fun i hi => by rw [Nat.testBit_two_pow_sub_one]; exact decide_eq_true hi
    -- what the first cigar is worth
    have htop : ∀ i, i < s.length → Eix wo r s i i (clr (2 ^ s.length - 1) i) = topH wo r (s.length - 1) (s.getD i 0) (s.take i ++ s.drop (i + 1)) := by
      intro i hi
      unfold Eix topH
      rw [Vl_clr_len hi (hbit i hi) hjall, Vl_clr_all s hi]
    have hgd : ∀ i (hi : i < s.length), s.getD i 0 = s[i] := fun i hi => by rw [List.getD_eq_getElem?_getD, List.getElem?_eq_getElem hi]; rfl
    have hdrop : ∀ i, i < s.length → s.drop i = s.getD i 0 :: s.drop (i + 1) := fun i hi => by rw [hgd i hi, ← List.drop_eq_getElem_cons]
    have htake : ∀ i, i < s.length → s.take (i + 1) = s.take i ++ [s.getD i 0] := fun i hi => by rw [hgd i hi, List.take_add_one, List.getElem?_eq_getElem hi]; rfl
    have hEup : ∀ f a x, f < s.length → a < s.length → Eix wo r s f a x ≤ 480 := fun f a x hf ha => Eix_up hm h7 hf ha (by have := Vl_len s x s.length; omega)
    refine loop_up s.length (fun i vs m' => ∃ acc : Int, vs = [.int .i64 acc, .int .i64 (i : Int)] ∧ GtX (· = m.next) m1 m' ∧ Flr wo r s g caps u (m.next + 1) sb m.next m' ∧ (-1 ≤ acc ∧ acc ≤ 1000) ∧ bestH (topH wo r (s.length - 1)) (s.take i) (s.drop i) acc = mostW wo r s) (by omega) ⟨-1, rfl, GtX.refl _, hF1, ⟨by omega, by omega⟩, rfl⟩ ?_
    rintro i vs m2 hi ⟨acc, rfl, e2, hF2, hacc, hB⟩ self hself
    have n2 := e2.next
    try simp (disch := first | omega | with_unfolding_all exact id rfl | with_unfolding_all exact Nat.le_of_ble_eq_true rfl | (simp only [Jd, Je, Jr, Js, Jt, Nat.reduceAdd, allOne, oneCell, Bool.and_self, Jc]; first | done | omega)) only [↓Qa, ↓Qb, ↓Qc, Qd, Qe, Qf, Qg, Qh, Qi, Qj, Qk, Ql, Qm, Qn, Qo, Qp, Qq, Qr, Qs, Qt, Qu, Qv, Qw, Qx, Qy, ptrTo, Qz, QA, QB, QC, QD, QE, QF, QG, QH, QI, QJ, QK, QL, QM, QN, QO, QP, QQ, QR, QS, QT, QU, QV, QW, QX, QY, QZ, Ja, Jb, Jc, Jd, Je, Jf, Jg, Jh, Ji, Jj, Jk, Jl, Jm, Jn, Jo, Jp, Jq, Jr, Js, Jt, Nat.reduceAdd]
    refine oIf_dec (fun h => ?_) (fun h => ?_)
    · have hil : i < s.length := by omega
      have := hp2 i hil
      rw [shl3 (by omega), oOpt_e, oInt_andNot (by omega) (by omega), hclr]
      refine ends10_sp hlf hm h7 hmo1 (clr_lt hax) hil hil hF2 e2 (by omega) fun m3 e3 hF3 => ?_
      rw [maxI_e, oOpt_e, oInt_add ⟨by omega, by omega⟩]
      have hlow := Eix_low (wo := wo) (r := r) (s := s) i i (clr (2 ^ s.length - 1) i)
      have hup := hEup i i (clr (2 ^ s.length - 1) i) hil hil
      refine hself hil _ _ ⟨_, rfl, e2.trans e3, hF3, ⟨by omega, by omega⟩, ?_⟩
      rw [htop i hil, htake i hil]
      rw [hdrop i hil] at hB
      exact hB
    · have hin : i = s.length := by omega
      subst hin
      rw [List.drop_length] at hB
      have hB' : acc = mostW wo r s := hB
      subst hB'
      clear hself
      refine loop_up s.length (fun i vs m' => vs = [.int .i64 (i : Int)] ∧ GtX (· = m.next) m1 m' ∧ Flr wo r s g caps u (m.next + 1) sb m.next m' ∧ pickH (topH wo r (s.length - 1)) (mostW wo r s) (s.take i) (s.drop i) = pickH (topH wo r (s.length - 1)) (mostW wo r s) [] s) (by omega) ⟨rfl, e2, hF2, rfl⟩ ?_
      rintro i vs m3 hi ⟨rfl, e3, hF3, hP⟩ self hself
      have n3 := e3.next
      try simp (disch := first | omega | with_unfolding_all exact id rfl | with_unfolding_all exact Nat.le_of_ble_eq_true rfl | (simp only [Jd, Je, Jr, Js, Jt, Nat.reduceAdd, allOne, oneCell, Bool.and_self, Jc]; first | done | omega)) only [↓Qa, ↓Qb, ↓Qc, Qd, Qe, Qf, Qg, Qh, Qi, Qj, Qk, Ql, Qm, Qn, Qo, Qp, Qq, Qr, Qs, Qt, Qu, Qv, Qw, Qx, Qy, ptrTo, Qz, QA, QB, QC, QD, QE, QF, QG, QH, QI, QJ, QK, QL, QM, QN, QO, QP, QQ, QR, QS, QT, QU, QV, QW, QX, QY, QZ, Ja, Jb, Jc, Jd, Je, Jf, Jg, Jh, Ji, Jj, Jk, Jl, Jm, Jn, Jo, Jp, Jq, Jr, Js, Jt, Nat.reduceAdd]
      refine oIf_dec (fun h => ?_) (fun h => ?_)
      · have hil : i < s.length := by omega
        have := hp2 i hil
        rw [hdrop i hil] at hP
        have hP2 : (if topH wo r (s.length - 1) (s.getD i 0) (s.take i ++ s.drop (i + 1)) = mostW wo r s then some (s.getD i 0, s.take i ++ s.drop (i + 1)) else pickH (topH wo r (s.length - 1)) (mostW wo r s) (s.take i ++ [s.getD i 0]) (s.drop (i + 1))) = pickH (topH wo r (s.length - 1)) (mostW wo r s) [] s := hP
        rw [shl3 (by omega), oOpt_e, oInt_andNot (by omega) (by omega), hclr]
        refine ends10_sp hlf hm h7 hmo1 (clr_lt hax) hil hil hF3 e3 (by omega) fun m4 e4 hF4 => ?_
        rw [htop i hil, oInt_neq]
        by_cases hq : topH wo r (s.length - 1) (s.getD i 0) (s.take i ++ s.drop (i + 1)) = mostW wo r s
        · rw [if_pos hq] at hP2
          have hgoal : fillT wo r s = s.getD i 0 :: fillR wo r (s.length - 1) (s.getD i 0) (s.getD i 0) (s.take i ++ s.drop (i + 1)) := by
            unfold fillT
            rw [← hP2]
          rw [hgoal] at hk
          clear hself hP hP2 hgoal
          rw [decide_eq_true hq]
          try simp (disch := first | omega | with_unfolding_all exact id rfl | with_unfolding_all exact Nat.le_of_ble_eq_true rfl | (simp only [Jd, Je, Jr, Js, Jt, Nat.reduceAdd, allOne, oneCell, Bool.and_self, Jc]; first | done | omega)) only [han, hF4.qs, d0, hF4.qu.ia hil, hF4.qu.ld hil, ↓Qa, ↓Qb, ↓Qc, Qd, Qe, Qf, Qg, Qh, Qi, Qj, Qk, Ql, Qm, Qn, Qo, Qp, Qq, Qr, Qs, Qt, Qu, Qv, Qw, Qx, Qy, ptrTo, Qz, QA, QB, QC, QD, QE, QF, QG, QH, QI, QJ, QK, QL, QM, QN, QO, QP, QQ, QR, QS, QT, QU, QV, QW, QX, QY, QZ, Ja, Jb, Jc, Jd, Je, Jf, Jg, Jh, Ji, Jj, Jk, Jl, Jm, Jn, Jo, Jp, Jq, Jr, Js, Jt, Nat.reduceAdd]
          rw [bs22, oRes_e]
          try rw [shl3 (by omega)]
          try rw [oOpt_e]
          rw [oInt_andNot (by omega) (by omega), hclr, oInt_sub ⟨by omega, by omega⟩, show ((s.length : Nat) : Int) - 1 = ((s.length - 1 : Nat) : Int) by omega]
          have e04 := e3.trans e4
          have g5 := Mem.gt_push m4 ⟨1, [.int .i64 s[i]], none⟩
          have n5 : (m4.push ⟨1, [.int .i64 s[i]], none⟩).next = m4.next + 1 := Mem.push_next _ _
          have o5 : GL (m.next + 2) (m4.push ⟨1, [.int .i64 s[i]], none⟩) (slTo 1 m4.next) [s.getD i 0] := by
            rw [hgd i hil]
            exact .inr ⟨m4.next, by have := e04.next; omega, rfl, Mem.rd_push _ _, rfl, by simp⟩
          have hF5 := hF4.mono g5
          have e05 := e04.trans (GtX.of g5)
          generalize m4.push ⟨1, [.int .i64 s[i]], none⟩ = m5 at g5 n5 o5 hF5 e05 ⊢
          have n05 := e05.next
          refine loop_up (s.length - 1) (fun j vs m' => ∃ (out : Value) (o : List Int) (a x : Nat), vs = [out, .int .i64 (a : Int), .int .i64 (x : Int), .int .i64 (j : Int)] ∧ GtX (· = m.next) m1 m' ∧ Flr wo r s g caps u (m.next + 1) sb m.next m' ∧ GL (m.next + 2) m' out o ∧ o.length = j + 1 ∧ a < s.length ∧ x < 2 ^ s.length ∧
            (Vl s x s.length).length = s.length - 1 - j ∧ o ++ fillR wo r (s.length - 1 - j) (s.getD i 0) (s.getD a 0) (Vl s x s.length) = s.getD i 0 :: fillR wo r (s.length - 1) (s.getD i 0) (s.getD i 0) (s.take i ++ s.drop (i + 1))) (by omega)
            ⟨slTo 1 m4.next, [s.getD i 0], i, clr (2 ^ s.length - 1) i, rfl, e05, hF5, o5, by simp, hil, clr_lt hax, Vl_clr_len hil (hbit i hil) hjall, by rw [Vl_clr_all s hil]; rfl⟩ ?_
          rintro j vs m6 hj ⟨out, o, a, x, rfl, e6, hF6, ho, hol, ha, hx, hjl, hR⟩ self hself
          have n6 := e6.next
          have hx128 : x < 128 := Nat.lt_of_lt_of_le hx hpw
          try simp (disch := first | omega | with_unfolding_all exact id rfl | with_unfolding_all exact Nat.le_of_ble_eq_true rfl | (simp only [Jd, Je, Jr, Js, Jt, Nat.reduceAdd, allOne, oneCell, Bool.and_self, Jc]; first | done | omega)) only [↓Qa, ↓Qb, ↓Qc, Qd, Qe, Qf, Qg, Qh, Qi, Qj, Qk, Ql, Qm, Qn, Qo, Qp, Qq, Qr, Qs, Qt, Qu, Qv, Qw, Qx, Qy, ptrTo, Qz, QA, QB, QC, QD, QE, QF, QG, QH, QI, QJ, QK, QL, QM, QN, QO, QP, QQ, QR, QS, QT, QU, QV, QW, QX, QY, QZ, Ja, Jb, Jc, Jd, Je, Jf, Jg, Jh, Ji, Jj, Jk, Jl, Jm, Jn, Jo, Jp, Jq, Jr, Js, Jt, Nat.reduceAdd]
          refine oIf_dec (fun h3 => ?_) (fun h3 => ?_)
          · obtain ⟨jj, hjj⟩ : ∃ jj, s.length - 1 - j = jj + 1 := ⟨s.length - 1 - j - 1, by omega⟩
            rw [hjj] at hjl hR
            have hE : En wo r (jj + 1) (s.getD i 0) (s.getD a 0) (Vl s x s.length) = Eix wo r s i a x := by unfold Eix; rw [hjl]
            obtain ⟨C, y, D, hs1, hs2⟩ := bestH_att (h := hX wo r s i a jj) (fun x L => stW_low (En_low _ _ _ _)) (rest := Vl s x s.length) (pre := []) (fun h => by rw [h] at hjl; simp at hjl)
            obtain ⟨C2, y2, D2, p1, p2, p3, p4⟩ := pickH_some (hX wo r s i a jj) (Eix wo r s i a x) (Vl s x s.length) [] ⟨C, y, D, hs1, by rw [← hs2, ← Eix_succ hjl]⟩
            have hfr : fillR wo r (jj + 1) (s.getD i 0) (s.getD a 0) (Vl s x s.length) = y2 :: fillR wo r jj (s.getD i 0) y2 ([] ++ C2 ++ D2) := by
              show (match pickH (hX wo r s i a jj) (En wo r (jj + 1) (s.getD i 0) (s.getD a 0) (Vl s x s.length)) [] (Vl s x s.length) with
                | none => []
                | some (x, L') => x :: fillR wo r jj (s.getD i 0) x L') = _
              rw [hE, p1]
            rw [hfr] at hR
            generalize [] ++ C2 ++ D2 = L2 at p1 hR
            clear p2 p3 p4 hs1 hs2 hfr
            refine ends10_sp hlf hm h7 hmo1 hx hil ha hF6 e6 (by omega) fun m7 e7 hF7 => ?_
            have ho7 : GL (m.next + 2) m7 out o := ho.keep fun c hc hc2 => e7.kept c (ho.bid_lt c hc).2 (by omega)
            have e07 := e6.trans e7
            try simp (disch := first | omega | with_unfolding_all exact id rfl | with_unfolding_all exact Nat.le_of_ble_eq_true rfl | (simp only [Jd, Je, Jr, Js, Jt, Nat.reduceAdd, allOne, oneCell, Bool.and_self, Jc]; first | done | omega)) only [↓Qa, ↓Qb, ↓Qc, Qd, Qe, Qf, Qg, Qh, Qi, Qj, Qk, Ql, Qm, Qn, Qo, Qp, Qq, Qr, Qs, Qt, Qu, Qv, Qw, Qx, Qy, ptrTo, Qz, QA, QB, QC, QD, QE, QF, QG, QH, QI, QJ, QK, QL, QM, QN, QO, QP, QQ, QR, QS, QT, QU, QV, QW, QX, QY, QZ, Ja, Jb, Jc, Jd, Je, Jf, Jg, Jh, Ji, Jj, Jk, Jl, Jm, Jn, Jo, Jp, Jq, Jr, Js, Jt, Nat.reduceAdd]
            refine loop_up s.length (fun q vs m' => vs = [out, .int .i64 (a : Int), .int .i64 (x : Int), .int .i64 (q : Int)] ∧ GtX (· = m.next) m1 m' ∧ Flr wo r s g caps u (m.next + 1) sb m.next m' ∧ GL (m.next + 2) m' out o ∧
              pickH (hX wo r s i a jj) (Eix wo r s i a x) (Vl s x q) (Vr s x (s.length - q) q) = some (y2, L2)) (by omega) ⟨rfl, e07, hF7, ho7, ?_⟩ ?_
            · rw [← p1]
              have := Vlr s x s.length 0
              rw [Nat.zero_add] at this
              rw [this]; rfl
            · rintro q vs m8 hq8 ⟨rfl, e8, hF8, ho8, hP8⟩ self2 hself2
              have n8 := e8.next
              try simp (disch := first | omega | with_unfolding_all exact id rfl | with_unfolding_all exact Nat.le_of_ble_eq_true rfl | (simp only [Jd, Je, Jr, Js, Jt, Nat.reduceAdd, allOne, oneCell, Bool.and_self, Jc]; first | done | omega)) only [↓Qa, ↓Qb, ↓Qc, Qd, Qe, Qf, Qg, Qh, Qi, Qj, Qk, Ql, Qm, Qn, Qo, Qp, Qq, Qr, Qs, Qt, Qu, Qv, Qw, Qx, Qy, ptrTo, Qz, QA, QB, QC, QD, QE, QF, QG, QH, QI, QJ, QK, QL, QM, QN, QO, QP, QQ, QR, QS, QT, QU, QV, QW, QX, QY, QZ, Ja, Jb, Jc, Jd, Je, Jf, Jg, Jh, Ji, Jj, Jk, Jl, Jm, Jn, Jo, Jp, Jq, Jr, Js, Jt, Nat.reduceAdd]
              refine oIf_dec (fun h4 => ?_) (fun h4 => ?_)
              · have hql : q < s.length := by omega
                have hsx : x >>> q ≤ x := by rw [Nat.shiftRight_eq_div_pow]; exact Nat.div_le_self _ _
                rw [shr3 x q (by omega), oOpt_e, show (1 : Int) = ((1 : Nat) : Int) from rfl, oInt_and (by omega) (by omega), oInt_eql, show ((1 : Nat) : Int) = 1 from rfl, bit_e]
                cases hb : x.testBit q with
                | false =>
                  try simp (disch := first | omega | with_unfolding_all exact id rfl | with_unfolding_all exact Nat.le_of_ble_eq_true rfl | (simp only [Jd, Je, Jr, Js, Jt, Nat.reduceAdd, allOne, oneCell, Bool.and_self, Jc]; first | done | omega)) only [↓Qa, ↓Qb, ↓Qc, Qd, Qe, Qf, Qg, Qh, Qi, Qj, Qk, Ql, Qm, Qn, Qo, Qp, Qq, Qr, Qs, Qt, Qu, Qv, Qw, Qx, Qy, ptrTo, Qz, QA, QB, QC, QD, QE, QF, QG, QH, QI, QJ, QK, QL, QM, QN, QO, QP, QQ, QR, QS, QT, QU, QV, QW, QX, QY, QZ, Ja, Jb, Jc, Jd, Je, Jf, Jg, Jh, Ji, Jj, Jk, Jl, Jm, Jn, Jo, Jp, Jq, Jr, Js, Jt, Nat.reduceAdd]
                  rw [oInt_add ⟨by omega, by omega⟩]
                  refine hself2 hql _ _ ⟨rfl, e8, hF8, ho8, ?_⟩
                  rw [Vl_off hb, ← Vr_off hql hb]
                  exact hP8
                | true =>
                  have := hp2 q hql
                  try simp (disch := first | omega | with_unfolding_all exact id rfl | with_unfolding_all exact Nat.le_of_ble_eq_true rfl | (simp only [Jd, Je, Jr, Js, Jt, Nat.reduceAdd, allOne, oneCell, Bool.and_self, Jc]; first | done | omega)) only [↓Qa, ↓Qb, ↓Qc, Qd, Qe, Qf, Qg, Qh, Qi, Qj, Qk, Ql, Qm, Qn, Qo, Qp, Qq, Qr, Qs, Qt, Qu, Qv, Qw, Qx, Qy, ptrTo, Qz, QA, QB, QC, QD, QE, QF, QG, QH, QI, QJ, QK, QL, QM, QN, QO, QP, QQ, QR, QS, QT, QU, QV, QW, QX, QY, QZ, Ja, Jb, Jc, Jd, Je, Jf, Jg, Jh, Ji, Jj, Jk, Jl, Jm, Jn, Jo, Jp, Jq, Jr, Js, Jt, Nat.reduceAdd]
                  rw [shl3 (by omega), oOpt_e, oInt_andNot (by omega) (by omega), hclr]
                  refine ends10_sp hlf hm h7 hmo1 (clr_lt hx) hil hql hF8 e8 (by omega) fun m9 e9 hF9 => ?_
                  have hlow := Eix_low (wo := wo) (r := r) (s := s) i q (clr x q)
                  have hup := hEup i q (clr x q) hil hql
                  have e09 := e8.trans e9
                  have n9 := e09.next
                  have ho9 : GL (m.next + 2) m9 out o := ho8.keep fun c hc hc2 => e9.kept c (ho8.bid_lt c hc).2 (by omega)
                  refine filler_step_sp hm hF9 hmo1 e09 ha hql ⟨hlow, by omega⟩ ?_
                  rw [hX_eix hql hb hjl, oInt_eql]
                  rw [Vr_on hql hb] at hP8
                  have hP9 : (if hX wo r s i a jj (s.getD q 0) (Vl s x q ++ Vr s x (s.length - q - 1) (q + 1)) = Eix wo r s i a x then some (s.getD q 0, Vl s x q ++ Vr s x (s.length - q - 1) (q + 1)) else pickH (hX wo r s i a jj) (Eix wo r s i a x) (Vl s x q ++ [s.getD q 0]) (Vr s x (s.length - q - 1) (q + 1))) = some (y2, L2) := hP8
                  by_cases hqq : hX wo r s i a jj (s.getD q 0) (Vl s x q ++ Vr s x (s.length - q - 1) (q + 1)) = Eix wo r s i a x
                  · rw [if_pos hqq] at hP9
                    injection hP9 with hP9
                    injection hP9 with hy2 hL2
                    rw [← Vl_clr hql] at hL2
                    rw [decide_eq_true hqq]
                    try simp (disch := first | omega | with_unfolding_all exact id rfl | with_unfolding_all exact Nat.le_of_ble_eq_true rfl | (simp only [Jd, Je, Jr, Js, Jt, Nat.reduceAdd, allOne, oneCell, Bool.and_self, Jc]; first | done | omega)) only [han, hF9.qs, d0, hF9.qu.ia hql, hF9.qu.ld hql, ↓Qa, ↓Qb, ↓Qc, Qd, Qe, Qf, Qg, Qh, Qi, Qj, Qk, Ql, Qm, Qn, Qo, Qp, Qq, Qr, Qs, Qt, Qu, Qv, Qw, Qx, Qy, ptrTo, Qz, QA, QB, QC, QD, QE, QF, QG, QH, QI, QJ, QK, QL, QM, QN, QO, QP, QQ, QR, QS, QT, QU, QV, QW, QX, QY, QZ, Ja, Jb, Jc, Jd, Je, Jf, Jg, Jh, Ji, Jj, Jk, Jl, Jm, Jn, Jo, Jp, Jq, Jr, Js, Jt, Nat.reduceAdd]
                    obtain ⟨v', m10, s1, s2, s3, s4, s5⟩ := GL.snocV (P := Try.prog) (L := L) (m0 := ⟨.e, 0⟩) s[q] ael22 (by omega) ho9 (by omega) (by omega) (gt0 _) (Nat.zero_le _)
                    rw [bs22, oRes_e, s1, oRes_e]
                    try rw [shl3 (by omega)]
                    try rw [oOpt_e]
                    rw [oInt_andNot (by omega) (by omega), hclr]
                    rw [oInt_add ⟨by omega, by omega⟩]
                    have hkp : ∀ c, c < m.next + 2 → m10.rd c = m9.rd c := fun c hc => s5 c (by omega) fun h => by have := ho9.fr c h; omega
                    refine hself (by omega) _ _ ⟨v', o ++ [s[q]], q, clr x q, rfl, ⟨by omega, fun c hc hcx => (hkp c (by omega)).trans (e09.kept c hc hcx)⟩, hF9.keep hkp (by omega) (by have := Mem.rd_lt hr; omega) (by omega) (fun c hc => by have := Sl.bid_lt hu (by omega) c hc; omega), s2.le (by omega), by rw [List.length_append, hol]; rfl, hql, clr_lt hx, ?_, ?_⟩
                    · rw [Vl_clr_len hql hb hjl]; omega
                    · rw [show s.length - 1 - (j + 1) = jj by omega, ← hR, ← hy2, hL2, hgd q hql, List.append_assoc]; rfl
                  · rw [if_neg hqq] at hP9
                    rw [decide_eq_false hqq]
                    try simp (disch := first | omega | with_unfolding_all exact id rfl | with_unfolding_all exact Nat.le_of_ble_eq_true rfl | (simp only [Jd, Je, Jr, Js, Jt, Nat.reduceAdd, allOne, oneCell, Bool.and_self, Jc]; first | done | omega)) only [↓Qa, ↓Qb, ↓Qc, Qd, Qe, Qf, Qg, Qh, Qi, Qj, Qk, Ql, Qm, Qn, Qo, Qp, Qq, Qr, Qs, Qt, Qu, Qv, Qw, Qx, Qy, ptrTo, Qz, QA, QB, QC, QD, QE, QF, QG, QH, QI, QJ, QK, QL, QM, QN, QO, QP, QQ, QR, QS, QT, QU, QV, QW, QX, QY, QZ, Ja, Jb, Jc, Jd, Je, Jf, Jg, Jh, Ji, Jj, Jk, Jl, Jm, Jn, Jo, Jp, Jq, Jr, Js, Jt, Nat.reduceAdd]
                    rw [oInt_add ⟨by omega, by omega⟩]
                    refine hself2 hql _ _ ⟨rfl, e09, hF9, ho9, ?_⟩
                    rw [Vl_on hb, show s.length - (q + 1) = s.length - q - 1 by omega]
                    exact hP9
              · have hqn : q = s.length := by omega
                subst hqn
                rw [Nat.sub_self] at hP8
                cases hP8
          · have hjn : j = s.length - 1 := by omega
            subst hjn
            rw [Nat.sub_self] at hR
            have hR' : o = s.getD i 0 :: fillR wo r (s.length - 1) (s.getD i 0) (s.getD i 0) (s.take i ++ s.drop (i + 1)) := by rw [← hR]; simp [fillR]
            rw [← hR'] at hk
            exact hk _ _ (GtX.gt e1 e6 fun c hc => by omega) (ho.le (by omega))
        · rw [if_neg hq] at hP2
          rw [decide_eq_false hq]
          try simp (disch := first | omega | with_unfolding_all exact id rfl | with_unfolding_all exact Nat.le_of_ble_eq_true rfl | (simp only [Jd, Je, Jr, Js, Jt, Nat.reduceAdd, allOne, oneCell, Bool.and_self, Jc]; first | done | omega)) only [↓Qa, ↓Qb, ↓Qc, Qd, Qe, Qf, Qg, Qh, Qi, Qj, Qk, Ql, Qm, Qn, Qo, Qp, Qq, Qr, Qs, Qt, Qu, Qv, Qw, Qx, Qy, ptrTo, Qz, QA, QB, QC, QD, QE, QF, QG, QH, QI, QJ, QK, QL, QM, QN, QO, QP, QQ, QR, QS, QT, QU, QV, QW, QX, QY, QZ, Ja, Jb, Jc, Jd, Je, Jf, Jg, Jh, Ji, Jj, Jk, Jl, Jm, Jn, Jo, Jp, Jq, Jr, Js, Jt, Nat.reduceAdd]
          rw [oInt_add ⟨by omega, by omega⟩]
          refine hself hil _ _ ⟨rfl, e3.trans e4, hF4, ?_⟩
          rw [htake i hil]
          exact hP2
      · have hin : i = s.length := by omega
        subst hin
        rw [List.drop_length] at hP
        have hP' : none = pickH (topH wo r (s.length - 1)) (mostW wo r s) [] s := hP
        have hgoal : fillT wo r s = [] := by
          unfold fillT
          rw [← hP']
        rw [hgoal] at hk
        exact hk _ _ (GtX.gt e1 e3 fun c hc => by omega) (GL.nil _ _)
end
end Go.Vit
