/- The law DockProved: its walk. -/
import Derived.Test.YtnmmjbclidbdbaaDoorW8
import Derived.Test.YtnmmjbclidbdbaaDoorW11
import Derived.Test.YtnmmjbclidbdbaaDoorP4
set_option linter.unusedSimpArgs false
set_option linter.unusedVariables false
set_option maxRecDepth 20000
namespace Go.Vit
open Go Go.Proofs
attribute [local irreducible] runT loopS
theorem neqb (b c : Bool) : abin Tryd.prog .neq 4 (.bool b) (.bool c) = some (.bool (b != c)) := by cases b <;> cases c <;> kernel_rfl
/-- The least number of last bays that are crowded, of those that were looked at. -/
def leastK (a : Nat) (l : List Int) (j : Nat) : Nat := ((fbay (a + 1) (fun k => !crd a l k) (j + 1)).getD 0)
theorem leastK_top (a : Nat) (l : List Int) : leastK a l a = 0 := by
  unfold leastK
  rw [fbay_no fun c h1 h2 => by omega]; rfl
theorem leastK_step {a j : Nat} {l : List Int} (hj : j + 1 ≤ a) : leastK a l j = if crd a l (j + 1) then j + 1 else leastK a l (j + 1) := by
  unfold leastK
  cases h : crd a l (j + 1) with
  | true =>
    rw [fbay_of (b := j + 1) (by omega) (Nat.le_refl _) (by simp [h]) fun c h1 h2 => by omega]
    simp
  | false =>
    have : fbay (a + 1) (fun k => !crd a l k) (j + 1) = fbay (a + 1) (fun k => !crd a l k) (j + 1 + 1) := by
      cases hf : fbay (a + 1) (fun k => !crd a l k) (j + 1 + 1) with
      | none =>
        have := fbay_none hf
        refine fbay_no fun c h1 h2 => ?_
        by_cases hc : c = j + 1
        · rw [hc, h]; rfl
        · exact this c (by omega) h2
      | some e =>
        obtain ⟨g1, g2, g3, g4⟩ := fbay_some hf
        refine fbay_of g1 (by omega) g3 fun c h1 h2 => ?_
        by_cases hc : c = j + 1
        · rw [hc, h]; rfl
        · exact g4 c (by omega) h2
    rw [this]; rfl
theorem leastK_zero (a : Nat) (l : List Int) : (agK a l = none ∧ leastK a l 0 = 0) ∨ ∃ k, agK a l = some k ∧ leastK a l 0 = k ∧ 0 < k := by
  unfold leastK
  show (fbay (a + 1) (fun k => !crd a l k) 1 = none ∧ _) ∨ ∃ k, fbay (a + 1) (fun k => !crd a l k) 1 = some k ∧ _
  cases h : fbay (a + 1) (fun k => !crd a l k) 1 with
  | none => exact .inl ⟨rfl, rfl⟩
  | some k => exact .inr ⟨k, rfl, rfl, by have := fbay_some h; omega⟩
theorem madeN_bd {a0 most : Nat} (h : 0 < most) : 1 ≤ madeN a0 most ∧ madeN a0 most ≤ most := by
  unfold madeN
  have := Nat.mod_lt a0 h
  omega
section
variable {lf n L : Nat} {m : Mem} {k : Value → Mem → Option Unit}
/-- A law's carts are boxed, and made. -/
theorem carts_sp {a0 a1 most more : Nat} {gl : List Nat} (hlf : 1000000 ≤ lf) (hL : L ≤ m.next) (h0 : a0 < 256) (h1 : a1 < 256) (hlen : gl.length = 8) (hg : ∀ g ∈ gl, g < 256) (hm : 0 < most) (hm8 : most ≤ 8) (hmo : more ≤ 1)
    (hk : ∀ u m', Gt m m' → GN m.next m' u (madeL a1 gl (madeN a0 most) more) → k (.tuple ⟨[.int .i64 (madeN a0 most : Int), u]⟩) m' = some ()) :
    (oRes (abox m (sealV a0 a1 gl)) fun t2 m3 => oOpt (ldN m3 10 t2) fun t4 => runT (tab lf) (n + 1) 49 [t4, .int .i64 (most : Int), .int .i64 (more : Int)] L m3 k) = some () := by
  have hcl : (Value.int .u8 (a0 : Int) :: .int .u8 (a1 : Int) :: gl.map fun (g : Nat) => .int .u8 (g : Int)).length = 10 := by simp [hlen]
  have hsv : sealV a0 a1 gl = .agg ⟨.int .u8 (a0 : Int) :: .int .u8 (a1 : Int) :: gl.map fun (g : Nat) => .int .u8 (g : Int)⟩ := rfl
  rw [hsv, abox_e, cells_agg, oRes_e]
  have g1 := Mem.gt_push m ⟨1, .int .u8 (a0 : Int) :: .int .u8 (a1 : Int) :: gl.map (fun (g : Nat) => .int .u8 (g : Int)), none⟩
  have q1 : (m.push ⟨1, .int .u8 (a0 : Int) :: .int .u8 (a1 : Int) :: gl.map (fun (g : Nat) => .int .u8 (g : Int)), none⟩).rd m.next = some ⟨1, _, none⟩ := Mem.rd_push _ _
  generalize m.push ⟨1, .int .u8 (a0 : Int) :: .int .u8 (a1 : Int) :: gl.map (fun (g : Nat) => .int .u8 (g : Int)), none⟩ = m1 at g1 q1 ⊢
  have n1 := g1.next
  show oOpt (ldN m1 10 (.pointer (some ⟨m.next, 0, none⟩))) _ = _
  rw [ldN_u, q1, rdn_all hcl, oOpt_e]
  rw [← hsv]
  exact made_sp hlf (by omega) h0 h1 hlen hg hm hm8 hmo fun u m' e hu => hk u m' (g1.trans e) (hu.le n1)
set_option maxHeartbeats 4000000 in
theorem proved_sp {a0 a1 : Nat} {gl : List Nat} (hlf : 1000000 ≤ lf) (hL : L ≤ m.next) (hT : TabOk mTab m) (h0 : a0 < 256) (h1 : a1 < 256) (hlen : gl.length = 8) (hg : ∀ g ∈ gl, g < 256)
    (hk : ∀ m', Gt m m' → k (.bool true) m' = some ()) : runT (tab lf) (n + 10) 11 [sealV a0 a1 gl] L m k = some () := by
  rw [r11]; dsimp only [S11, iofNat, inegSucc]
  rw [uc_e, un0_e]
  refine carts_sp (n := n + 8) (most := 8) (more := 0) hlf hL h0 h1 hlen hg (by omega) (by omega) (by omega) fun v m1 e1 hv => ?_
  have n1 := e1.next
  have hN := madeN_bd (a0 := a0) (most := 8) (by omega)
  have hwl := madeL_len a1 gl (madeN a0 8) 0
  have hw := madeL_lt (a1 := a1) (gl := gl) (n := madeN a0 8) (more := 0) (by omega)
  generalize madeL a1 gl (madeN a0 8) 0 = w at hv hwl hw ⊢
  generalize madeN a0 8 = a at hN hwl hw ⊢
  obtain ⟨ha1, ha8⟩ := hN
  rw [Nat.add_zero] at hw
  have hcw := ci_length w
  have hok : chkD (a : Int) ((a : Int) - 1) (ci w) = 0 := chkD_nat ha1 ha8 hwl hw
  have hpk : pkX (a : Int) (ci w) = parkL a w := pkX_yes hok
  have hpl := parkL_len a w
  try simp (disch := first | omega | with_unfolding_all exact id rfl | with_unfolding_all exact Nat.le_of_ble_eq_true rfl | (simp only [Jd, Je, Jr, Js, Jt, Nat.reduceAdd, allOne, oneCell, Bool.and_self, Jc]; first | done | omega)) only [↓Qa, ↓Qb, Qd, Qe, Qf, Qg, Qh, Qi, Qj, Qk, Ql, Qm, Qn, Qo, Qp, Qq, Qr, Qs, Qt, Qu, Qv, Qw, Qx, Qy, ptrTo, Qz, QA, QB, QC, QD, QE, QF, QG, QH, QI, QJ, QK, QL, QM, QN, QO, QP, QQ, QR, QS, QT, QU, QV, QW, QX, QY, QZ, Ja, Jb, Jc, Jd, Je, Jf, Jg, Jh, Ji, Jj, Jk, Jl, Jm, Jn, Jo, Jp, Jq, Jr, Js, Jt, Nat.reduceAdd]
  refine park_sp hlf (by omega) (hT.mono e1) (show IL _ _ (ci w) from hv.inn) (by omega) fun u1 m2 e2 hu1 => ?_
  rw [hpk] at hu1
  rw [hok]
  have n2 := e2.next
  have e12 := e1.trans e2
  have hv2 := hv.inn.mono e2
  try simp (disch := first | omega | with_unfolding_all exact id rfl | with_unfolding_all exact Nat.le_of_ble_eq_true rfl | (simp only [Jd, Je, Jr, Js, Jt, Nat.reduceAdd, allOne, oneCell, Bool.and_self, Jc]; first | done | omega)) only [↓Qa, ↓Qb, Qd, Qe, Qf, Qg, Qh, Qi, Qj, Qk, Ql, Qm, Qn, Qo, Qp, Qq, Qr, Qs, Qt, Qu, Qv, Qw, Qx, Qy, ptrTo, Qz, QA, QB, QC, QD, QE, QF, QG, QH, QI, QJ, QK, QL, QM, QN, QO, QP, QQ, QR, QS, QT, QU, QV, QW, QX, QY, QZ, Ja, Jb, Jc, Jd, Je, Jf, Jg, Jh, Ji, Jj, Jk, Jl, Jm, Jn, Jo, Jp, Jq, Jr, Js, Jt, Nat.reduceAdd]
  rw [join_e]
  try simp (disch := first | omega | with_unfolding_all exact id rfl | with_unfolding_all exact Nat.le_of_ble_eq_true rfl | (simp only [Jd, Je, Jr, Js, Jt, Nat.reduceAdd, allOne, oneCell, Bool.and_self, Jc]; first | done | omega)) only [↓Qa, ↓Qb, Qd, Qe, Qf, Qg, Qh, Qi, Qj, Qk, Ql, Qm, Qn, Qo, Qp, Qq, Qr, Qs, Qt, Qu, Qv, Qw, Qx, Qy, ptrTo, Qz, QA, QB, QC, QD, QE, QF, QG, QH, QI, QJ, QK, QL, QM, QN, QO, QP, QQ, QR, QS, QT, QU, QV, QW, QX, QY, QZ, Ja, Jb, Jc, Jd, Je, Jf, Jg, Jh, Ji, Jj, Jk, Jl, Jm, Jn, Jo, Jp, Jq, Jr, Js, Jt, Nat.reduceAdd]
  refine lcome_sp hlf (by omega) ha8 hw (by omega) hv2 fun u2 m3 e3 hu2 => ?_
  have n3 := e3.next
  have e13 := e12.trans e3
  have hv3 := hv2.mono e3
  have hu13 := hu1.il.mono e3
  refine same_sp hlf hu13 hu2.il (by omega) ?_
  rw [decide_eq_true rfl]
  try simp (disch := first | omega | with_unfolding_all exact id rfl | with_unfolding_all exact Nat.le_of_ble_eq_true rfl | (simp only [Jd, Je, Jr, Js, Jt, Nat.reduceAdd, allOne, oneCell, Bool.and_self, Jc]; first | done | omega)) only [↓Qa, ↓Qb, Qd, Qe, Qf, Qg, Qh, Qi, Qj, Qk, Ql, Qm, Qn, Qo, Qp, Qq, Qr, Qs, Qt, Qu, Qv, Qw, Qx, Qy, ptrTo, Qz, QA, QB, QC, QD, QE, QF, QG, QH, QI, QJ, QK, QL, QM, QN, QO, QP, QQ, QR, QS, QT, QU, QV, QW, QX, QY, QZ, Ja, Jb, Jc, Jd, Je, Jf, Jg, Jh, Ji, Jj, Jk, Jl, Jm, Jn, Jo, Jp, Jq, Jr, Js, Jt, Nat.reduceAdd]
  refine loop_up a (fun i vs m' => vs = [.int .i64 (leastK a (ci w) (a - i) : Int), .int .i64 ((a : Int) - i)] ∧ Gt m3 m') (by omega) ⟨by rw [Nat.sub_zero, leastK_top]; simp, Gt.refl _⟩ ?_
  rintro i vs m4 hi ⟨rfl, e4⟩ self hself
  have n4 := e4.next
  have hv4 := hv3.mono e4
  have e14 := e13.trans e4
  try simp (disch := first | omega | with_unfolding_all exact id rfl | with_unfolding_all exact Nat.le_of_ble_eq_true rfl | (simp only [Jd, Je, Jr, Js, Jt, Nat.reduceAdd, allOne, oneCell, Bool.and_self, Jc]; first | done | omega)) only [↓Qa, ↓Qb, Qd, Qe, Qf, Qg, Qh, Qi, Qj, Qk, Ql, Qm, Qn, Qo, Qp, Qq, Qr, Qs, Qt, Qu, Qv, Qw, Qx, Qy, ptrTo, Qz, QA, QB, QC, QD, QE, QF, QG, QH, QI, QJ, QK, QL, QM, QN, QO, QP, QQ, QR, QS, QT, QU, QV, QW, QX, QY, QZ, Ja, Jb, Jc, Jd, Je, Jf, Jg, Jh, Ji, Jj, Jk, Jl, Jm, Jn, Jo, Jp, Jq, Jr, Js, Jt, Nat.reduceAdd]
  refine oIf_dec (fun h => ?_) (fun h => ?_)
  · obtain ⟨q, hq⟩ : ∃ q, a = i + 1 + q := ⟨a - i - 1, by omega⟩
    have hqi : (a : Int) - i = ((q + 1 : Nat) : Int) := by omega
    rw [hqi]
    try simp (disch := first | omega | with_unfolding_all exact id rfl | with_unfolding_all exact Nat.le_of_ble_eq_true rfl | (simp only [Jd, Je, Jr, Js, Jt, Nat.reduceAdd, allOne, oneCell, Bool.and_self, Jc]; first | done | omega)) only [hv4.ln, ↓Qa, ↓Qb, Qd, Qe, Qf, Qg, Qh, Qi, Qj, Qk, Ql, Qm, Qn, Qo, Qp, Qq, Qr, Qs, Qt, Qu, Qv, Qw, Qx, Qy, ptrTo, Qz, QA, QB, QC, QD, QE, QF, QG, QH, QI, QJ, QK, QL, QM, QN, QO, QP, QQ, QR, QS, QT, QU, QV, QW, QX, QY, QZ, Ja, Jb, Jc, Jd, Je, Jf, Jg, Jh, Ji, Jj, Jk, Jl, Jm, Jn, Jo, Jp, Jq, Jr, Js, Jt, Nat.reduceAdd]
    refine loop_up w.length (fun j vs m' => vs = [.int .i64 (cntGe ((a : Int) - ((q + 1 : Nat) : Int)) ((ci w).take j) : Int), .int .i64 (j : Int)] ∧ m' = m4) (by omega) ⟨rfl, rfl⟩ ?_
    rintro j vs m' hj ⟨rfl, rfl⟩ self2 hself2
    have hcb := cntGe_le ((a : Int) - ((q + 1 : Nat) : Int)) ((ci w).take j)
    rw [List.length_take] at hcb
    try simp (disch := first | omega | with_unfolding_all exact id rfl | with_unfolding_all exact Nat.le_of_ble_eq_true rfl | (simp only [Jd, Je, Jr, Js, Jt, Nat.reduceAdd, allOne, oneCell, Bool.and_self, Jc]; first | done | omega)) only [↓Qa, ↓Qb, Qd, Qe, Qf, Qg, Qh, Qi, Qj, Qk, Ql, Qm, Qn, Qo, Qp, Qq, Qr, Qs, Qt, Qu, Qv, Qw, Qx, Qy, ptrTo, Qz, QA, QB, QC, QD, QE, QF, QG, QH, QI, QJ, QK, QL, QM, QN, QO, QP, QQ, QR, QS, QT, QU, QV, QW, QX, QY, QZ, Ja, Jb, Jc, Jd, Je, Jf, Jg, Jh, Ji, Jj, Jk, Jl, Jm, Jn, Jo, Jp, Jq, Jr, Js, Jt, Nat.reduceAdd]
    refine oIf_dec (fun h2 => ?_) (fun h2 => ?_)
    · have hjw : j < w.length := by omega
      have hcj : (ci w)[j]'(by omega) = ((w[j] : Nat) : Int) := List.getElem_map _
      rw [cntGe_take (l := ci w) (by omega), hcj] at hself2
      rw [hv4.ia hjw, oOpt_e, hv4.ld hjw, oOpt_e, oInt_sub ⟨by omega, by omega⟩]
      try simp (disch := first | omega | with_unfolding_all exact id rfl | with_unfolding_all exact Nat.le_of_ble_eq_true rfl | (simp only [Jd, Je, Jr, Js, Jt, Nat.reduceAdd, allOne, oneCell, Bool.and_self, Jc]; first | done | omega)) only [↓Qa, ↓Qb, ↓Qc, Qd, Qe, Qf, Qg, Qh, Qi, Qj, Qk, Ql, Qm, Qn, Qo, Qp, Qq, Qr, Qs, Qt, Qu, Qv, Qw, Qx, Qy, ptrTo, Qz, QA, QB, QC, QD, QE, QF, QG, QH, QI, QJ, QK, QL, QM, QN, QO, QP, QQ, QR, QS, QT, QU, QV, QW, QX, QY, QZ, Ja, Jb, Jc, Jd, Je, Jf, Jg, Jh, Ji, Jj, Jk, Jl, Jm, Jn, Jo, Jp, Jq, Jr, Js, Jt, Nat.reduceAdd]
      refine oIf_dec (fun h3 => ?_) (fun h3 => ?_)
      · rw [if_pos h3] at hself2
        rw [oInt_add ⟨by omega, by omega⟩, oInt_add ⟨by omega, by omega⟩]
        exact hself2 hjw _ _ ⟨rfl, rfl⟩
      · rw [if_neg h3] at hself2
        rw [oInt_add ⟨by omega, by omega⟩]
        exact hself2 hjw _ _ ⟨rfl, rfl⟩
    · have hjw : j = w.length := by omega
      subst hjw
      rw [show (ci w).take w.length = ci w from List.take_of_length_le (by omega)]
      refine proves_sp hlf (show IL _ _ (ci w) from hv4) (by omega) fun m5 e5 => ?_
      have hpr : prE (a : Int) (ci w) ((q + 1 : Nat) : Int) = if crd a (ci w) (q + 1) then 0 else 14 := by
        unfold prE
        rw [if_pos hok, if_pos ⟨by omega, by omega⟩, Int.toNat_natCast, Int.toNat_natCast]
      have hcr : decide ((((q + 1 : Nat) : Int)) < (cntGe ((a : Int) - ((q + 1 : Nat) : Int)) (ci w) : Int)) = crd a (ci w) (q + 1) := by
        unfold crd
        exact decide_eq_decide.2 (by omega)
      have hst := leastK_step (a := a) (j := q) (l := ci w) (by omega)
      have hai : a - i = q + 1 := by omega
      have hai1 : a - (i + 1) = q := by omega
      rw [hai1, hst] at hself
      rw [hpr, hai]
      cases hc : crd a (ci w) (q + 1) with
      | true =>
        rw [hc] at hcr hself
        try simp (disch := first | omega | with_unfolding_all exact id rfl | with_unfolding_all exact Nat.le_of_ble_eq_true rfl | (simp only [Jd, Je, Jr, Js, Jt, Nat.reduceAdd, allOne, oneCell, Bool.and_self, Jc]; first | done | omega)) only [neqb, hcr, ↓Qa, ↓Qb, ↓Qc, Qd, Qe, Qf, Qg, Qh, Qi, Qj, Qk, Ql, Qm, Qn, Qo, Qp, Qq, Qr, Qs, Qt, Qu, Qv, Qw, Qx, Qy, ptrTo, Qz, QA, QB, QC, QD, QE, QF, QG, QH, QI, QJ, QK, QL, QM, QN, QO, QP, QQ, QR, QS, QT, QU, QV, QW, QX, QY, QZ, Ja, Jb, Jc, Jd, Je, Jf, Jg, Jh, Ji, Jj, Jk, Jl, Jm, Jn, Jo, Jp, Jq, Jr, Js, Jt, Nat.reduceAdd]
        rw [oInt_sub ⟨by omega, by omega⟩]
        refine hself (by omega) _ _ ⟨?_, e4.trans e5⟩
        rw [show ((q + 1 : Nat) : Int) - 1 = (a : Int) - ((i + 1 : Nat) : Int) by omega]
        rfl
      | false =>
        rw [hc] at hcr hself
        try simp (disch := first | omega | with_unfolding_all exact id rfl | with_unfolding_all exact Nat.le_of_ble_eq_true rfl | (simp only [Jd, Je, Jr, Js, Jt, Nat.reduceAdd, allOne, oneCell, Bool.and_self, Jc]; first | done | omega)) only [neqb, hcr, ↓Qa, ↓Qb, ↓Qc, Qd, Qe, Qf, Qg, Qh, Qi, Qj, Qk, Ql, Qm, Qn, Qo, Qp, Qq, Qr, Qs, Qt, Qu, Qv, Qw, Qx, Qy, ptrTo, Qz, QA, QB, QC, QD, QE, QF, QG, QH, QI, QJ, QK, QL, QM, QN, QO, QP, QQ, QR, QS, QT, QU, QV, QW, QX, QY, QZ, Ja, Jb, Jc, Jd, Je, Jf, Jg, Jh, Ji, Jj, Jk, Jl, Jm, Jn, Jo, Jp, Jq, Jr, Js, Jt, Nat.reduceAdd]
        rw [oInt_sub ⟨by omega, by omega⟩]
        refine hself (by omega) _ _ ⟨?_, e4.trans e5⟩
        rw [show ((q + 1 : Nat) : Int) - 1 = (a : Int) - ((i + 1 : Nat) : Int) by omega]
        rfl
  · have hia : i = a := by omega
    subst hia
    rw [Nat.sub_self]
    refine against_sp hlf (by omega) (show IL _ _ (ci w) from hv4) (by omega) fun m5 e5 => ?_
    have e15 := e14.trans e5
    try simp (disch := first | omega | with_unfolding_all exact id rfl | with_unfolding_all exact Nat.le_of_ble_eq_true rfl | (simp only [Jd, Je, Jr, Js, Jt, Nat.reduceAdd, allOne, oneCell, Bool.and_self, Jc]; first | done | omega)) only [↓Qa, ↓Qb, Qd, Qe, Qf, Qg, Qh, Qi, Qj, Qk, Ql, Qm, Qn, Qo, Qp, Qq, Qr, Qs, Qt, Qu, Qv, Qw, Qx, Qy, ptrTo, Qz, QA, QB, QC, QD, QE, QF, QG, QH, QI, QJ, QK, QL, QM, QN, QO, QP, QQ, QR, QS, QT, QU, QV, QW, QX, QY, QZ, Ja, Jb, Jc, Jd, Je, Jf, Jg, Jh, Ji, Jj, Jk, Jl, Jm, Jn, Jo, Jp, Jq, Jr, Js, Jt, Nat.reduceAdd]
    rw [show (-(0 + 1) : Int) = -1 from rfl]
    refine contains_sp hlf (hu13.mono (e4.trans e5)) (by omega) ?_
    have hag : agV (i : Int) (ci w) = (match agK i (ci w) with | some k => (k : Int) | none => 0) := by unfold agV; rw [if_pos hok, Int.toNat_natCast]; cases agK i (ci w) <;> rfl
    have hae : agE (i : Int) (ci w) = (match agK i (ci w) with | some _ => 0 | none => 13) := by unfold agE; rw [if_pos hok, Int.toNat_natCast]; cases agK i (ci w) <;> rfl
    have hser := agK_served (n := i) (l := w) hw
    rw [hag, hae]
    rcases leastK_zero i (ci w) with ⟨hn, hz⟩ | ⟨kk, hs, hz, hkp⟩
    · rw [hn, hz]
      rw [decide_eq_false (hser.1 hn), decide_eq_false (show ¬ (0 : Int) < ((0 : Nat) : Int) by omega), decide_eq_true (show ((0 : Nat) : Int) = 0 by omega)]
      try simp (disch := first | omega | with_unfolding_all exact id rfl | with_unfolding_all exact Nat.le_of_ble_eq_true rfl | (simp only [Jd, Je, Jr, Js, Jt, Nat.reduceAdd, allOne, oneCell, Bool.and_self, Jc]; first | done | omega)) only [neqb, ↓Qa, ↓Qb, Qd, Qe, Qf, Qg, Qh, Qi, Qj, Qk, Ql, Qm, Qn, Qo, Qp, Qq, Qr, Qs, Qt, Qu, Qv, Qw, Qx, Qy, ptrTo, Qz, QA, QB, QC, QD, QE, QF, QG, QH, QI, QJ, QK, QL, QM, QN, QO, QP, QQ, QR, QS, QT, QU, QV, QW, QX, QY, QZ, Ja, Jb, Jc, Jd, Je, Jf, Jg, Jh, Ji, Jj, Jk, Jl, Jm, Jn, Jo, Jp, Jq, Jr, Js, Jt, Nat.reduceAdd]
      repeat (rw [join_e]; try simp (disch := first | omega | with_unfolding_all exact id rfl | with_unfolding_all exact Nat.le_of_ble_eq_true rfl | (simp only [Jd, Je, Jr, Js, Jt, Nat.reduceAdd, allOne, oneCell, Bool.and_self, Jc]; first | done | omega)) only [↓Qa, ↓Qb, Qd, Qe, Qf, Qg, Qh, Qi, Qj, Qk, Ql, Qm, Qn, Qo, Qp, Qq, Qr, Qs, Qt, Qu, Qv, Qw, Qx, Qy, ptrTo, Qz, QA, QB, QC, QD, QE, QF, QG, QH, QI, QJ, QK, QL, QM, QN, QO, QP, QQ, QR, QS, QT, QU, QV, QW, QX, QY, QZ, Ja, Jb, Jc, Jd, Je, Jf, Jg, Jh, Ji, Jj, Jk, Jl, Jm, Jn, Jo, Jp, Jq, Jr, Js, Jt, Nat.reduceAdd])
      rw [r15]
      exact SClosed_sp (cK := runT (tab lf) (n + 9)) (L := L) (hT.mono e15) (hk _ e15)
    · have hin : (-1 : Int) ∈ parkL i w := Classical.byContradiction fun hh => by
        have := hser.2 hh
        rw [hs] at this; cases this
      rw [hs, hz, decide_eq_true hin, decide_eq_true (show (0 : Int) < (kk : Int) by omega), decide_eq_false (show ¬ (kk : Int) = 0 by omega)]
      try simp (disch := first | omega | with_unfolding_all exact id rfl | with_unfolding_all exact Nat.le_of_ble_eq_true rfl | (simp only [Jd, Je, Jr, Js, Jt, Nat.reduceAdd, allOne, oneCell, Bool.and_self, Jc]; first | done | omega)) only [neqb, ↓Qa, ↓Qb, Qd, Qe, Qf, Qg, Qh, Qi, Qj, Qk, Ql, Qm, Qn, Qo, Qp, Qq, Qr, Qs, Qt, Qu, Qv, Qw, Qx, Qy, ptrTo, Qz, QA, QB, QC, QD, QE, QF, QG, QH, QI, QJ, QK, QL, QM, QN, QO, QP, QQ, QR, QS, QT, QU, QV, QW, QX, QY, QZ, Ja, Jb, Jc, Jd, Je, Jf, Jg, Jh, Ji, Jj, Jk, Jl, Jm, Jn, Jo, Jp, Jq, Jr, Js, Jt, Nat.reduceAdd]
      repeat (rw [join_e]; try simp (disch := first | omega | with_unfolding_all exact id rfl | with_unfolding_all exact Nat.le_of_ble_eq_true rfl | (simp only [Jd, Je, Jr, Js, Jt, Nat.reduceAdd, allOne, oneCell, Bool.and_self, Jc]; first | done | omega)) only [↓Qa, ↓Qb, Qd, Qe, Qf, Qg, Qh, Qi, Qj, Qk, Ql, Qm, Qn, Qo, Qp, Qq, Qr, Qs, Qt, Qu, Qv, Qw, Qx, Qy, ptrTo, Qz, QA, QB, QC, QD, QE, QF, QG, QH, QI, QJ, QK, QL, QM, QN, QO, QP, QQ, QR, QS, QT, QU, QV, QW, QX, QY, QZ, Ja, Jb, Jc, Jd, Je, Jf, Jg, Jh, Ji, Jj, Jk, Jl, Jm, Jn, Jo, Jp, Jq, Jr, Js, Jt, Nat.reduceAdd])
      rw [r15]
      exact SClosed_sp (cK := runT (tab lf) (n + 9)) (L := L) (hT.mono e15) (hk _ e15)
end
end Go.Vit
