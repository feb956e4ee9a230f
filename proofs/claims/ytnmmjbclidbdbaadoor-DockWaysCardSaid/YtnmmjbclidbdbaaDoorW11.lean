/- Walks: the law's carts, and how they come in the law's words. -/
import Derived.Test.YtnmmjbclidbdbaaDoorW9
set_option linter.unusedSimpArgs false
set_option linter.unusedVariables false
set_option maxRecDepth 20000
namespace Go.Vit
open Go Go.Proofs
attribute [local irreducible] runT loopS
def sealV (a0 a1 : Nat) (gl : List Nat) : Value := .agg ⟨.int .u8 (a0 : Int) :: .int .u8 (a1 : Int) :: gl.map fun (g : Nat) => .int .u8 (g : Int)⟩
theorem seal_of {ns : List (IntKind × Int)} (h : ns.map (·.1) = [.u8, .u8, .u8, .u8, .u8, .u8, .u8, .u8, .u8, .u8] ∧ ∀ p ∈ ns, p.1.has p.2) : ∃ (a0 a1 : Nat) (gl : List Nat), Value.agg ⟨intsV ns⟩ = sealV a0 a1 gl ∧ a0 < 256 ∧ a1 < 256 ∧ gl.length = 8 ∧ ∀ g ∈ gl, g < 256 := by
  obtain ⟨l, h1, h2, h3⟩ := u8s_of (n := 10) h.1 h.2
  match l, h2 with
  | a0 :: a1 :: gl, h2 =>
    refine ⟨a0, a1, gl, ?_, h3 _ (by simp), h3 _ (by simp), by simpa using h2, fun g hg => h3 g (by simp [hg])⟩
    rw [h1]; rfl
theorem rdn_all {s : Nat} {cs : List Value} {n : Nat} (h : cs.length = n) : rdn (some ⟨s, cs, none⟩) 0 n = some (.agg ⟨cs⟩) := by
  rw [rdn_e _ _ _ _ (by omega), List.drop_zero, List.take_of_length_le (by omega)]
theorem iaA_u {b n o i : Nat} (h : i < n) : iaA n 1 (.pointer (some ⟨b, o, none⟩)) (.int .i64 (i : Int)) = some (.pointer (some ⟨b, o + i, none⟩)) := by
  show iaA n 1 _ (.int .i64 (Int.ofNat i)) = _
  have hb : Nat.blt i n = true := by simpa using h
  simp only [iaA, hb, natK_eq]
  rw [show Nat.add o (Nat.mul i 1) = o + i by show o + i * 1 = o + i; omega]
/-- The carts of a law. -/
def madeN (a0 most : Nat) : Nat := 1 + a0 % most
def madeL (a1 : Nat) (gl : List Nat) (n more : Nat) : List Nat := (gl.take (a1 % (n + 1))).map fun g => g % (n + more)
theorem madeL_len (a1 : Nat) (gl : List Nat) (n more : Nat) : (madeL a1 gl n more).length ≤ n := by
  unfold madeL
  rw [List.length_map, List.length_take]
  have := Nat.mod_lt a1 (show 0 < n + 1 by omega)
  omega
theorem madeL_lt {a1 n more : Nat} {gl : List Nat} (h : 0 < n + more) : ∀ x ∈ madeL a1 gl n more, x < n + more := fun x hx => by
  obtain ⟨g, _, rfl⟩ := List.mem_map.1 hx
  exact Nat.mod_lt _ h
def FA (n : Nat) (acc : List Int) (j : Nat) : Bool := decide (j < n) && !decide ((j : Int) ∈ acc)
section
variable {lf n L : Nat} {m : Mem} {k : Value → Mem → Option Unit}
theorem made_sp {a0 a1 most more : Nat} {gl : List Nat} (hlf : 1000000 ≤ lf) (hL : L ≤ m.next) (h0 : a0 < 256) (h1 : a1 < 256) (hlen : gl.length = 8) (hg : ∀ g ∈ gl, g < 256) (hm : 0 < most) (hm8 : most ≤ 8) (hmo : more ≤ 1)
    (hk : ∀ u m', Gt m m' → GN m.next m' u (madeL a1 gl (madeN a0 most) more) → k (.tuple ⟨[.int .i64 (madeN a0 most : Int), u]⟩) m' = some ()) :
    runT (tab lf) (n + 1) 49 [sealV a0 a1 gl, .int .i64 (most : Int), .int .i64 (more : Int)] L m k = some () := by
  rw [r49]; dsimp only [S49, iofNat, inegSucc]
  unfold sealV
  have hb : At (m.push ⟨1, .int .u8 (a0 : Int) :: .int .u8 (a1 : Int) :: gl.map (fun (g : Nat) => .int .u8 (g : Int)), none⟩) m.next _ := At.push m _
  have g1 := Mem.gt_push m ⟨1, .int .u8 (a0 : Int) :: .int .u8 (a1 : Int) :: gl.map (fun (g : Nat) => .int .u8 (g : Int)), none⟩
  try simp (disch := first | omega | with_unfolding_all exact id rfl | with_unfolding_all exact Nat.le_of_ble_eq_true rfl | (simp only [Jd, Je, Jr, Js, Jt, Nat.reduceAdd, allOne, oneCell, Bool.and_self, Jc]; first | done | omega)) only [↓Qa, ↓Qb, ↓Qc, Qd, Qe, Qf, Qg, Qh, Qi, Qj, Qk, Ql, Qm, Qn, Qo, Qp, Qq, Qr, Qs, Qt, Qu, Qv, Qw, Qx, Qy, ptrTo, Qz, QA, QB, QC, QD, QE, QF, QG, QH, QI, QJ, QK, QL, QM, QN, QO, QP, QQ, QR, QS, QT, QU, QV, QW, QX, QY, QZ, Ja, Jb, Jc, Jd, Je, Jf, Jg, Jh, Ji, Jj, Jk, Jl, Jm, Jn, Jo, Jp, Jq, Jr, Js, Jt, Nat.reduceAdd]
  generalize m.push ⟨1, .int .u8 (a0 : Int) :: .int .u8 (a1 : Int) :: gl.map (fun (g : Nat) => .int .u8 (g : Int)), none⟩ = m1 at hb g1 ⊢
  have g1n := g1.next
  have hn1 := Nat.mod_lt a0 hm
  have hc0 : (Value.int .u8 (a0 : Int) :: .int .u8 (a1 : Int) :: gl.map (fun (g : Nat) => Value.int .u8 (g : Int)))[0]? = some (.int .u8 (a0 : Int)) := rfl
  have hc1 : (Value.int .u8 (a0 : Int) :: .int .u8 (a1 : Int) :: gl.map (fun (g : Nat) => Value.int .u8 (g : Int)))[0 + 1]? = some (.int .u8 (a1 : Int)) := rfl
  try simp (disch := first | omega | with_unfolding_all exact id rfl | with_unfolding_all exact Nat.le_of_ble_eq_true rfl | (simp only [Jd, Je, Jr, Js, Jt, Nat.reduceAdd, allOne, oneCell, Bool.and_self, Jc]; first | done | omega)) only [hb.rd, hc0, ↓Qa, ↓Qb, ↓Qc, Qd, Qe, Qf, Qg, Qh, Qi, Qj, Qk, Ql, Qm, Qn, Qo, Qp, Qq, Qr, Qs, Qt, Qu, Qv, Qw, Qx, Qy, ptrTo, Qz, QA, QB, QC, QD, QE, QF, QG, QH, QI, QJ, QK, QL, QM, QN, QO, QP, QQ, QR, QS, QT, QU, QV, QW, QX, QY, QZ, Ja, Jb, Jc, Jd, Je, Jf, Jg, Jh, Ji, Jj, Jk, Jl, Jm, Jn, Jo, Jp, Jq, Jr, Js, Jt, Nat.reduceAdd]
  rw [oCv_nat (by omega), oInt_remN hm, oInt_add ⟨by omega, by omega⟩, show (1 : Int) + ((a0 % most : Nat) : Int) = ((madeN a0 most : Nat) : Int) by unfold madeN; omega]
  have hN8 : madeN a0 most ≤ 8 := by unfold madeN; omega
  generalize madeN a0 most = N at hN8 hk ⊢
  try simp (disch := first | omega | with_unfolding_all exact id rfl | with_unfolding_all exact Nat.le_of_ble_eq_true rfl | (simp only [Jd, Je, Jr, Js, Jt, Nat.reduceAdd, allOne, oneCell, Bool.and_self, Jc]; first | done | omega)) only [hb.rd, hc1, ↓Qa, ↓Qb, ↓Qc, Qd, Qe, Qf, Qg, Qh, Qi, Qj, Qk, Ql, Qm, Qn, Qo, Qp, Qq, Qr, Qs, Qt, Qu, Qv, Qw, Qx, Qy, ptrTo, Qz, QA, QB, QC, QD, QE, QF, QG, QH, QI, QJ, QK, QL, QM, QN, QO, QP, QQ, QR, QS, QT, QU, QV, QW, QX, QY, QZ, Ja, Jb, Jc, Jd, Je, Jf, Jg, Jh, Ji, Jj, Jk, Jl, Jm, Jn, Jo, Jp, Jq, Jr, Js, Jt, Nat.reduceAdd]
  rw [oCv_nat (by omega), oInt_add ⟨by omega, by omega⟩, show (N : Int) + 1 = ((N + 1 : Nat) : Int) by omega, oInt_remN (by omega)]
  have hq := Nat.mod_lt a1 (show 0 < N + 1 by omega)
  have hlist : madeL a1 gl N more = (gl.take (a1 % (N + 1))).map fun g => g % (N + more) := rfl
  rw [hlist] at hk
  generalize a1 % (N + 1) = q at hq hk ⊢
  refine loop_up q (fun i vs m' => ∃ x, vs = [x, .int .i64 (i : Int)] ∧ Gt m1 m' ∧ GN m1.next m' x ((gl.take i).map fun g => g % (N + more))) (by omega) ⟨_, rfl, Gt.refl _, GN.nil _ _⟩ ?_
  rintro i vs m2 hi ⟨x, rfl, e2, hx⟩ self hself
  have hb2 := hb.mono e2
  have e2n := e2.next
  try simp (disch := first | omega | with_unfolding_all exact id rfl | with_unfolding_all exact Nat.le_of_ble_eq_true rfl | (simp only [Jd, Je, Jr, Js, Jt, Nat.reduceAdd, allOne, oneCell, Bool.and_self, Jc]; first | done | omega)) only [↓Qa, ↓Qb, ↓Qc, Qd, Qe, Qf, Qg, Qh, Qi, Qj, Qk, Ql, Qm, Qn, Qo, Qp, Qq, Qr, Qs, Qt, Qu, Qv, Qw, Qx, Qy, ptrTo, Qz, QA, QB, QC, QD, QE, QF, QG, QH, QI, QJ, QK, QL, QM, QN, QO, QP, QQ, QR, QS, QT, QU, QV, QW, QX, QY, QZ, Ja, Jb, Jc, Jd, Je, Jf, Jg, Jh, Ji, Jj, Jk, Jl, Jm, Jn, Jo, Jp, Jq, Jr, Js, Jt, Nat.reduceAdd]
  refine oIf_dec (fun h2 => ?_) (fun h2 => ?_)
  · have h3 : i < q := by omega
    have h4 : i < gl.length := by omega
    have h5 := hg _ (List.getElem_mem h4)
    have hcell : (.int .u8 (a0 : Int) :: .int .u8 (a1 : Int) :: gl.map (fun (g : Nat) => Value.int .u8 (g : Int)))[0 + 2 + i]? = some (.int .u8 (gl[i] : Int)) := by
      rw [show 0 + 2 + i = i + 1 + 1 by omega, List.getElem?_cons_succ, List.getElem?_cons_succ, List.getElem?_map, List.getElem?_eq_getElem h4]; rfl
    have hNm : 0 < N + more := by
      have := q
      rcases Nat.eq_zero_or_pos N with h | h
      · omega
      · omega
    rw [iaA_u (by omega), oOpt_e, ld1_u, hb2.rd, rdo_e, hcell, oOpt_e, oCv_nat (by omega), oInt_add ⟨by omega, by omega⟩, show (N : Int) + (more : Int) = ((N + more : Nat) : Int) by omega, oInt_remN hNm]
    obtain ⟨x2, m3, h8, h9, e7, h10⟩ := GN.snoc (P := Tryd.prog) (t := 22) (L := L) (m0 := m1) (gl[i] % (N + more)) ael22 (by omega) hx (by rw [List.length_map, List.length_take]; omega) (by omega) e2 (Nat.le_refl _)
    rw [bs22, oRes_e, h8, oRes_e, oInt_add ⟨by omega, by omega⟩]
    refine hself h3 _ _ ⟨x2, rfl, e7, ?_⟩
    rw [List.take_add_one, List.getElem?_eq_getElem h4, Option.toList_some, List.map_append]
    exact h9.le e2n
  · have : i = q := by omega
    subst this
    exact hk x m2 (g1.trans e2) (hx.le g1n)
/-- Carts come, in the law's words. -/
theorem lcome_sp {a : Nat} {v : Value} {w : List Nat} (hlf : 1000000 ≤ lf) (hL : L ≤ m.next) (ha : a ≤ 8) (hw : ∀ x ∈ w, x < a) (hwl : w.length < 1000) (hv : IN m v w)
    (hk : ∀ u m', Gt m m' → GL m.next m' u (parkL a w) → k u m' = some ()) : runT (tab lf) (n + 1) 47 [.int .i64 (a : Int), v] L m k = some () := by
  rw [r47]; dsimp only [S47, iofNat, inegSucc]
  rw [uc_e, uc_e, un0_e, anew_eq, oRes_e]
  have hb9 : [Value.bool false, .bool false, .bool false, .bool false, .bool false, .bool false, .bool false, .bool false, .bool false] = bl 9 (fun j => decide (j < 0)) := rfl
  rw [hb9]
  have e1 := Mem.gt_push m ⟨1, bl 9 (fun j => decide (j < 0)), none⟩
  have q1 : (m.push ⟨1, bl 9 (fun j => decide (j < 0)), none⟩).rd m.next = some ⟨1, bl 9 (fun j => decide (j < 0)), none⟩ := Mem.rd_push _ _
  generalize m.push ⟨1, bl 9 (fun j => decide (j < 0)), none⟩ = m1 at e1 q1 ⊢
  have l1 := Mem.rd_lt q1
  have hvb : ∀ c, bid v = some c → 0 < w.length → c < m.next := fun c hc h0 => Sl.bid_lt hv (by rw [ci_length]; exact h0) c hc
  refine loop_up a (fun i vs m' => vs = [.int .i64 (i : Int)] ∧ Gt m m' ∧ m.next < m'.next ∧ m'.rd m.next = some ⟨1, bl 9 (fun j => decide (j < i)), none⟩) (by omega) ⟨rfl, e1, l1, q1⟩ ?_
  rintro i vs m2 hi ⟨rfl, e2, l2, q2⟩ self hself
  try simp (disch := first | omega | with_unfolding_all exact id rfl | with_unfolding_all exact Nat.le_of_ble_eq_true rfl | (simp only [Jd, Je, Jr, Js, Jt, Nat.reduceAdd, allOne, oneCell, Bool.and_self, Jc]; first | done | omega)) only [↓Qa, ↓Qb, ↓Qc, Qd, Qe, Qf, Qg, Qh, Qi, Qj, Qk, Ql, Qm, Qn, Qo, Qp, Qq, Qr, Qs, Qt, Qu, Qv, Qw, Qx, Qy, ptrTo, Qz, QA, QB, QC, QD, QE, QF, QG, QH, QI, QJ, QK, QL, QM, QN, QO, QP, QQ, QR, QS, QT, QU, QV, QW, QX, QY, QZ, Ja, Jb, Jc, Jd, Je, Jf, Jg, Jh, Ji, Jj, Jk, Jl, Jm, Jn, Jo, Jp, Jq, Jr, Js, Jt, Nat.reduceAdd]
  refine oIf_dec (fun h => ?_) (fun h => ?_)
  · have hia : i < a := by omega
    rw [iaA_u (show i < 9 by omega), oOpt_e, Nat.zero_add, bl_st q2 (by omega) hL, oRes_e, oInt_add ⟨by omega, by omega⟩]
    refine hself hia _ _ ⟨rfl, Mem.put_gt e2 _ (Nat.le_refl _), l2, ?_⟩
    rw [Mem.rd_put_eq _ _ l2]
    congr 2
    unfold bl
    refine congrArg (fun f => (List.range 9).map f) (funext fun x => ?_)
    show Value.bool (if x = i then true else decide (x < i)) = Value.bool (decide (x < i + 1))
    by_cases hx : x = i
    · subst hx; rw [if_pos rfl, decide_eq_true (by omega)]
    · rw [if_neg hx]
      congr 1
      exact decide_eq_decide.2 (by omega)
  · have hia : i = a := by omega
    subst hia
    have hF0 : (fun j => decide (j < i)) = FA i [] := by
      funext j; unfold FA; simp
    rw [hF0] at q2
    have hv2 := hv.mono e2
    try simp (disch := first | omega | with_unfolding_all exact id rfl | with_unfolding_all exact Nat.le_of_ble_eq_true rfl | (simp only [Jd, Je, Jr, Js, Jt, Nat.reduceAdd, allOne, oneCell, Bool.and_self, Jc]; first | done | omega)) only [hv2.ln, ↓Qa, ↓Qb, ↓Qc, Qd, Qe, Qf, Qg, Qh, Qi, Qj, Qk, Ql, Qm, Qn, Qo, Qp, Qq, Qr, Qs, Qt, Qu, Qv, Qw, Qx, Qy, ptrTo, Qz, QA, QB, QC, QD, QE, QF, QG, QH, QI, QJ, QK, QL, QM, QN, QO, QP, QQ, QR, QS, QT, QU, QV, QW, QX, QY, QZ, Ja, Jb, Jc, Jd, Je, Jf, Jg, Jh, Ji, Jj, Jk, Jl, Jm, Jn, Jo, Jp, Jq, Jr, Js, Jt, Nat.reduceAdd]
    refine loop_up w.length (fun q vs m' => ∃ u, vs = [u, .int .i64 (q : Int)] ∧ Gt m m' ∧ IN m' v w ∧ m.next < m'.next ∧ m'.rd m.next = some ⟨1, bl 9 (FA i (parkL i (w.take q))), none⟩ ∧ GL (m.next + 1) m' u (parkL i (w.take q))) (by omega) ⟨_, rfl, e2, hv2, l2, q2, GL.nil _ _⟩ ?_
    rintro q vs m3 hq ⟨u, rfl, e3, hv3, l3, q3, hu⟩ self2 hself2
    have n3 := e3.next
    try simp (disch := first | omega | with_unfolding_all exact id rfl | with_unfolding_all exact Nat.le_of_ble_eq_true rfl | (simp only [Jd, Je, Jr, Js, Jt, Nat.reduceAdd, allOne, oneCell, Bool.and_self, Jc]; first | done | omega)) only [↓Qa, ↓Qb, ↓Qc, Qd, Qe, Qf, Qg, Qh, Qi, Qj, Qk, Ql, Qm, Qn, Qo, Qp, Qq, Qr, Qs, Qt, Qu, Qv, Qw, Qx, Qy, ptrTo, Qz, QA, QB, QC, QD, QE, QF, QG, QH, QI, QJ, QK, QL, QM, QN, QO, QP, QQ, QR, QS, QT, QU, QV, QW, QX, QY, QZ, Ja, Jb, Jc, Jd, Je, Jf, Jg, Jh, Ji, Jj, Jk, Jl, Jm, Jn, Jo, Jp, Jq, Jr, Js, Jt, Nat.reduceAdd]
    refine oIf_dec (fun h2 => ?_) (fun h2 => ?_)
    · have hqw : q < w.length := by omega
      have hwq := hw _ (List.getElem_mem hqw)
      have hpt := parkL_take (n := i) hqw
      have hpl : (parkL i (w.take q)).length = q := by rw [parkL_len, List.length_take]; omega
      rw [hpt] at hself2
      try simp (disch := first | omega | with_unfolding_all exact id rfl | with_unfolding_all exact Nat.le_of_ble_eq_true rfl | (simp only [Jd, Je, Jr, Js, Jt, Nat.reduceAdd, allOne, oneCell, Bool.and_self, Jc]; first | done | omega)) only [hv3.ia hqw, hv3.ld hqw, ↓Qa, ↓Qb, ↓Qc, Qd, Qe, Qf, Qg, Qh, Qi, Qj, Qk, Ql, Qm, Qn, Qo, Qp, Qq, Qr, Qs, Qt, Qu, Qv, Qw, Qx, Qy, ptrTo, Qz, QA, QB, QC, QD, QE, QF, QG, QH, QI, QJ, QK, QL, QM, QN, QO, QP, QQ, QR, QS, QT, QU, QV, QW, QX, QY, QZ, Ja, Jb, Jc, Jd, Je, Jf, Jg, Jh, Ji, Jj, Jk, Jl, Jm, Jn, Jo, Jp, Jq, Jr, Js, Jt, Nat.reduceAdd]
      generalize w[q] = p at hwq hself2 ⊢
      generalize parkL i (w.take q) = acc at q3 hu hpl hself2
      refine loop_up (i - p) (fun j vs m' => vs = [.int .i64 ((p + j : Nat) : Int)] ∧ m' = m3 ∧ ∀ c, p ≤ c → c < p + j → decide ((c : Int) ∈ acc) = true) (by omega) ⟨rfl, rfl, fun c h1 h2 => by omega⟩ ?_
      rintro j vs m' hj ⟨rfl, rfl, hno⟩ self3 hself3
      try simp (disch := first | omega | with_unfolding_all exact id rfl | with_unfolding_all exact Nat.le_of_ble_eq_true rfl | (simp only [Jd, Je, Jr, Js, Jt, Nat.reduceAdd, allOne, oneCell, Bool.and_self, Jc]; first | done | omega)) only [↓Qa, ↓Qb, ↓Qc, Qd, Qe, Qf, Qg, Qh, Qi, Qj, Qk, Ql, Qm, Qn, Qo, Qp, Qq, Qr, Qs, Qt, Qu, Qv, Qw, Qx, Qy, ptrTo, Qz, QA, QB, QC, QD, QE, QF, QG, QH, QI, QJ, QK, QL, QM, QN, QO, QP, QQ, QR, QS, QT, QU, QV, QW, QX, QY, QZ, Ja, Jb, Jc, Jd, Je, Jf, Jg, Jh, Ji, Jj, Jk, Jl, Jm, Jn, Jo, Jp, Jq, Jr, Js, Jt, Nat.reduceAdd]
      refine oGT_dec (fun h3 => ?_) (fun h3 => ?_)
      · rw [iaA_u (show p + j < 9 by omega), oOpt_e, Nat.zero_add, bl_ld q3 (show p + j < 9 by omega), oOpt_e]
        have hFA : FA i acc (p + j) = !decide (((p + j : Nat) : Int) ∈ acc) := by
          unfold FA
          rw [decide_eq_true (show p + j < i by omega), Bool.true_and]
        rw [hFA]
        by_cases hin : ((p + j : Nat) : Int) ∈ acc
        · rw [decide_eq_true hin]
          try simp (disch := first | omega | with_unfolding_all exact id rfl | with_unfolding_all exact Nat.le_of_ble_eq_true rfl | (simp only [Jd, Je, Jr, Js, Jt, Nat.reduceAdd, allOne, oneCell, Bool.and_self, Jc]; first | done | omega)) only [decide_eq_true h3, ↓Qa, ↓Qb, ↓Qc, Qd, Qe, Qf, Qg, Qh, Qi, Qj, Qk, Ql, Qm, Qn, Qo, Qp, Qq, Qr, Qs, Qt, Qu, Qv, Qw, Qx, Qy, ptrTo, Qz, QA, QB, QC, QD, QE, QF, QG, QH, QI, QJ, QK, QL, QM, QN, QO, QP, QQ, QR, QS, QT, QU, QV, QW, QX, QY, QZ, Ja, Jb, Jc, Jd, Je, Jf, Jg, Jh, Ji, Jj, Jk, Jl, Jm, Jn, Jo, Jp, Jq, Jr, Js, Jt, Nat.reduceAdd]
          rw [oInt_add ⟨by omega, by omega⟩, show ((p + j : Nat) : Int) + 1 = ((p + (j + 1) : Nat) : Int) by omega]
          refine hself3 (by omega) _ _ ⟨rfl, rfl, fun c h4 h5 => ?_⟩
          by_cases hc : c = p + j
          · subst hc; exact decide_eq_true hin
          · exact hno c h4 (by omega)
        · have hby : bayOf i acc p = ((p + j : Nat) : Int) := by
            unfold bayOf
            rw [fbay_of (b := p + j) (by omega) (by omega) (decide_eq_false hin) hno]
          rw [decide_eq_false hin]
          rw [hby] at hself2
          try simp (disch := first | omega | with_unfolding_all exact id rfl | with_unfolding_all exact Nat.le_of_ble_eq_true rfl | (simp only [Jd, Je, Jr, Js, Jt, Nat.reduceAdd, allOne, oneCell, Bool.and_self, Jc]; first | done | omega)) only [decide_eq_true h3, ↓Qa, ↓Qb, ↓Qc, Qd, Qe, Qf, Qg, Qh, Qi, Qj, Qk, Ql, Qm, Qn, Qo, Qp, Qq, Qr, Qs, Qt, Qu, Qv, Qw, Qx, Qy, ptrTo, Qz, QA, QB, QC, QD, QE, QF, QG, QH, QI, QJ, QK, QL, QM, QN, QO, QP, QQ, QR, QS, QT, QU, QV, QW, QX, QY, QZ, Ja, Jb, Jc, Jd, Je, Jf, Jg, Jh, Ji, Jj, Jk, Jl, Jm, Jn, Jo, Jp, Jq, Jr, Js, Jt, Nat.reduceAdd]
          rw [decide_eq_false (show ¬ ((p + j : Nat) : Int) = (i : Int) by omega)]
          try simp (disch := first | omega | with_unfolding_all exact id rfl | with_unfolding_all exact Nat.le_of_ble_eq_true rfl | (simp only [Jd, Je, Jr, Js, Jt, Nat.reduceAdd, allOne, oneCell, Bool.and_self, Jc]; first | done | omega)) only [↓Qa, ↓Qb, ↓Qc, Qd, Qe, Qf, Qg, Qh, Qi, Qj, Qk, Ql, Qm, Qn, Qo, Qp, Qq, Qr, Qs, Qt, Qu, Qv, Qw, Qx, Qy, ptrTo, Qz, QA, QB, QC, QD, QE, QF, QG, QH, QI, QJ, QK, QL, QM, QN, QO, QP, QQ, QR, QS, QT, QU, QV, QW, QX, QY, QZ, Ja, Jb, Jc, Jd, Je, Jf, Jg, Jh, Ji, Jj, Jk, Jl, Jm, Jn, Jo, Jp, Jq, Jr, Js, Jt, Nat.reduceAdd]
          have hst := bl_st (L := L) q3 (show p + j < 9 by omega) hL false
          rw [st1_u, show (Value.bool false).cells.toList = [Value.bool false] from rfl] at hst
          rw [hst, oRes_e]
          have e4 : Gt m (m'.put m.next (some ⟨1, bl 9 (fun x => if x = p + j then false else FA i acc x), none⟩)) := Mem.put_gt e3 _ (Nat.le_refl _)
          have q4 : (m'.put m.next (some ⟨1, bl 9 (fun x => if x = p + j then false else FA i acc x), none⟩)).rd m.next = some ⟨1, bl 9 (FA i (acc ++ [((p + j : Nat) : Int)])), none⟩ := by
            rw [Mem.rd_put_eq _ _ l3]
            congr 2
            unfold bl
            refine congrArg (fun f => (List.range 9).map f) (funext fun x => ?_)
            show Value.bool (if x = p + j then false else FA i acc x) = Value.bool (FA i (acc ++ [((p + j : Nat) : Int)]) x)
            unfold FA
            by_cases hx : x = p + j
            · subst hx
              rw [if_pos rfl, decide_eq_true (show ((p + j : Nat) : Int) ∈ acc ++ [((p + j : Nat) : Int)] by simp)]
              simp
            · rw [if_neg hx]
              congr 2
              congr 1
              refine decide_eq_decide.2 ?_
              rw [List.mem_append, List.mem_singleton]
              exact ⟨.inl, fun h => h.elim id fun h => absurd h (by omega)⟩
          have hv4 : IN (m'.put m.next (some ⟨1, bl 9 (fun x => if x = p + j then false else FA i acc x), none⟩)) v w := IN.put hv3 (fun hb => by have := hvb _ hb (by omega); omega) _
          have hu4 : GL (m.next + 1) (m'.put m.next (some ⟨1, bl 9 (fun x => if x = p + j then false else FA i acc x), none⟩)) u acc := hu.keep fun c hc hc2 => Mem.rd_put _ _ _ _ (by omega)
          have l4 : m.next < (m'.put m.next (some ⟨1, bl 9 (fun x => if x = p + j then false else FA i acc x), none⟩)).next := l3
          generalize m'.put m.next (some ⟨1, bl 9 (fun x => if x = p + j then false else FA i acc x), none⟩) = m4 at e4 q4 hv4 hu4 l4 ⊢
          obtain ⟨u', m5, s1, s2, s3, s4, s5⟩ := GL.snocV (P := Tryd.prog) (L := L) (m0 := m) ((p + j : Nat) : Int) ael22 (by omega) hu4 (by omega) (by omega) e4 (by omega)
          rw [bs22, oRes_e, s1, oRes_e, oInt_add ⟨by omega, by omega⟩]
          refine hself2 hqw _ _ ⟨u', rfl, s3, hv4.keep fun c hc => ?_, by omega, ?_, s2.le (by omega)⟩
          · have hc1 := hvb c hc (by omega)
            exact s5 c (by omega) fun hb => by have := hu4.fr c hb; omega
          · rw [s5 _ l4 fun hb => by have := hu4.fr _ hb; omega]; exact q4
      · have hpj : p + j = i := by omega
        have hby : bayOf i acc p = -1 := by
          unfold bayOf
          rw [fbay_no fun c h4 h5 => hno c h4 (by omega)]
        rw [hby] at hself2
        try simp (disch := first | omega | with_unfolding_all exact id rfl | with_unfolding_all exact Nat.le_of_ble_eq_true rfl | (simp only [Jd, Je, Jr, Js, Jt, Nat.reduceAdd, allOne, oneCell, Bool.and_self, Jc]; first | done | omega)) only [decide_eq_false h3, ↓Qa, ↓Qb, ↓Qc, Qd, Qe, Qf, Qg, Qh, Qi, Qj, Qk, Ql, Qm, Qn, Qo, Qp, Qq, Qr, Qs, Qt, Qu, Qv, Qw, Qx, Qy, ptrTo, Qz, QA, QB, QC, QD, QE, QF, QG, QH, QI, QJ, QK, QL, QM, QN, QO, QP, QQ, QR, QS, QT, QU, QV, QW, QX, QY, QZ, Ja, Jb, Jc, Jd, Je, Jf, Jg, Jh, Ji, Jj, Jk, Jl, Jm, Jn, Jo, Jp, Jq, Jr, Js, Jt, Nat.reduceAdd]
        rw [decide_eq_true (show ((p + j : Nat) : Int) = (i : Int) by omega)]
        try simp (disch := first | omega | with_unfolding_all exact id rfl | with_unfolding_all exact Nat.le_of_ble_eq_true rfl | (simp only [Jd, Je, Jr, Js, Jt, Nat.reduceAdd, allOne, oneCell, Bool.and_self, Jc]; first | done | omega)) only [↓Qa, ↓Qb, ↓Qc, Qd, Qe, Qf, Qg, Qh, Qi, Qj, Qk, Ql, Qm, Qn, Qo, Qp, Qq, Qr, Qs, Qt, Qu, Qv, Qw, Qx, Qy, ptrTo, Qz, QA, QB, QC, QD, QE, QF, QG, QH, QI, QJ, QK, QL, QM, QN, QO, QP, QQ, QR, QS, QT, QU, QV, QW, QX, QY, QZ, Ja, Jb, Jc, Jd, Je, Jf, Jg, Jh, Ji, Jj, Jk, Jl, Jm, Jn, Jo, Jp, Jq, Jr, Js, Jt, Nat.reduceAdd]
        obtain ⟨u', m5, s1, s2, s3, s4, s5⟩ := GL.snocV (P := Tryd.prog) (L := L) (m0 := m) (-1) ael22 (by omega) hu (by omega) (by omega) e3 (by omega)
        rw [show (-(0 + 1) : Int) = -1 from rfl, bs22, oRes_e, s1, oRes_e, oInt_add ⟨by omega, by omega⟩]
        refine hself2 hqw _ _ ⟨u', rfl, s3, hv3.keep fun c hc => ?_, by omega, ?_, s2.le (by omega)⟩
        · have hc1 := hvb c hc (by omega)
          exact s5 c (by omega) fun hb => by have := hu.fr c hb; omega
        · rw [s5 _ l3 fun hb => by have := hu.fr _ hb; omega, q3]
          congr 2
          unfold bl
          refine congrArg (fun f => (List.range 9).map f) (funext fun x => ?_)
          congr 1
          unfold FA
          congr 2
          refine decide_eq_decide.2 ?_
          rw [List.mem_append, List.mem_singleton]
          exact ⟨.inl, fun h => h.elim id fun h => absurd h (by omega)⟩
    · have hqw : q = w.length := by omega
      subst hqw
      rw [List.take_length] at hu
      exact hk u m3 e3 (hu.le (by omega))
end
end Go.Vit
