/- The law ShadeProved: its walk. -/
import Derived.Test.YtffomiamkiakcaaW12
import Derived.Test.YtffomiamkiakcaaP7
set_option linter.unusedSimpArgs false
set_option linter.unusedVariables false
set_option maxRecDepth 20000
namespace Go.Vit
open Go Go.Proofs
attribute [local irreducible] runT loopS
theorem neqb (x : Int) : decide (x = x) = true := decide_eq_true rfl
theorem eqlB (x y : Bool) : abin Try.prog .eql 4 (.bool x) (.bool y) = some (.bool (x == y)) := by cases x <;> cases y <;> kernel_rfl
theorem gap_bd {l : List Int} {q i : Nat} (hle : ∀ x ∈ l, 0 ≤ x ∧ x ≤ 60) (hi : i + q < (isortI l).length) : gapS (isortI l) q i = (isortI l).getD (i + q) 0 - (isortI l).getD i 0 := rfl
/-- What an arrangement's step, and one more, proves. -/
theorem prS_more {l p : List Int} {r : Bool} {x : Int} (h : chkS l = 0) (hp : p.Perm l) : prS l r x (maxX p r + 1) = if inI x 0 ((l.length : Int) - 1 - reachN l r) then 14 else 1 := by
  unfold prS
  rw [if_pos h]
  by_cases hx : inI x 0 ((l.length : Int) - 1 - reachN l r)
  · rw [if_pos hx, if_pos hx, if_pos]
    have hil := isortI_length l
    have hrn : reachN (isortI l) r = reachN l r := reachN_len _ _ _ hil
    have := reach_low (i := x.toNat) (r := r) (isortI_sorted l) (hp.trans (isortI_perm l).symm) (by rw [hrn, hil]; have := hx.1; have := hx.2; omega)
    rw [hrn] at this
    have hm : maxX p r = cM r p := by
      unfold maxX
      rw [if_pos ((chkS_perm hp).trans h)]; rfl
    rw [hm]
    unfold gapS at this
    omega
  · rw [if_neg hx, if_neg hx]
theorem prS_zero {l : List Int} {r : Bool} {x : Int} (h : chkS l = 0) : prS l r x 0 = if inI x 0 ((l.length : Int) - 1 - reachN l r) then 0 else 1 := by
  unfold prS
  rw [if_pos h]
  by_cases hx : inI x 0 ((l.length : Int) - 1 - reachN l r)
  · rw [if_pos hx, if_pos hx, if_neg]
    have hil := isortI_length l
    have := gap_nn (i := x.toNat) (isortI_sorted l) (reachN_bd l r).1 (by rw [hil]; have := hx.1; have := hx.2; omega)
    unfold gapS at this
    omega
  · rw [if_neg hx, if_neg hx]
theorem leX_le {l p : List Int} {r : Bool} (h : chkS l = 0) (hp : p.Perm l) : leX l r ≤ maxX p r := by
  unfold leX maxX
  rw [if_pos h, if_pos ((chkS_perm hp).trans h)]
  exact least_low (isortI_sorted l) (hp.trans (isortI_perm l).symm)
section
variable {lf n L : Nat} {m : Mem} {k : Value → Mem → Option Unit}
set_option maxHeartbeats 8000000 in
theorem provedL_sp {a0 y : Nat} {gl bs : List Nat} {r : Bool} (hlf : 1000000 ≤ lf) (hL : L ≤ m.next) (hT : TabOk mTab m) (h0 : a0 < 256) (hlen : gl.length = 7) (hg : ∀ g ∈ gl, g < 256) (hy : y < 256) (hbl : bs.length = 7) (hbb : ∀ b ∈ bs, b < 256)
    (hk : ∀ m', Gt m m' → k (.bool true) m' = some ()) : runT (tab lf) (n + 40) 13 [trayV a0 gl, .bool r, .int .u8 (y : Int), .agg ⟨bs.map fun (g : Nat) => .int .u8 (g : Int)⟩] L m k = some () := by
  rw [r13]; dsimp only [S13, iofNat, inegSucc]
  have hl8 : (Value.int .u8 (a0 : Int) :: gl.map (fun (g : Nat) => Value.int .u8 (g : Int))).length = 8 := by simp [hlen]
  have hrd := rdn_all (s := 1) hl8
  unfold trayV
  rw [uc_e, uc_e, uc_e, uc_e, un0_e, abox_e, oRes_e, abox_e, oRes_e]
  rw [cells_agg, cells_agg]
  have e1 := (Mem.gt_push m ⟨1, .int .u8 (a0 : Int) :: gl.map (fun (g : Nat) => .int .u8 (g : Int)), none⟩).trans (Mem.gt_push (m.push ⟨1, .int .u8 (a0 : Int) :: gl.map (fun (g : Nat) => .int .u8 (g : Int)), none⟩) ⟨1, bs.map (fun (g : Nat) => .int .u8 (g : Int)), none⟩)
  have qb : ((m.push ⟨1, .int .u8 (a0 : Int) :: gl.map (fun (g : Nat) => .int .u8 (g : Int)), none⟩).push ⟨1, bs.map (fun (g : Nat) => .int .u8 (g : Int)), none⟩).rd (m.next + 1) = some ⟨1, bs.map (fun (g : Nat) => .int .u8 (g : Int)), none⟩ := Mem.rd_push _ _
  have qt : ((m.push ⟨1, .int .u8 (a0 : Int) :: gl.map (fun (g : Nat) => .int .u8 (g : Int)), none⟩).push ⟨1, bs.map (fun (g : Nat) => .int .u8 (g : Int)), none⟩).rd m.next = some ⟨1, .int .u8 (a0 : Int) :: gl.map (fun (g : Nat) => .int .u8 (g : Int)), none⟩ := (Mem.rd_push_lt _ _ (by rw [Mem.push_next]; omega)).trans (Mem.rd_push _ _)
  have hpn : (m.push ⟨1, .int .u8 (a0 : Int) :: gl.map (fun (g : Nat) => .int .u8 (g : Int)), none⟩).next = m.next + 1 := rfl
  rw [hpn]
  generalize (m.push ⟨1, .int .u8 (a0 : Int) :: gl.map (fun (g : Nat) => .int .u8 (g : Int)), none⟩).push ⟨1, bs.map (fun (g : Nat) => .int .u8 (g : Int)), none⟩ = m1 at e1 qb qt ⊢
  have n1 := e1.next
  try simp (disch := first | omega | with_unfolding_all exact id rfl | with_unfolding_all exact Nat.le_of_ble_eq_true rfl | (simp only [Jd, Je, Jr, Js, Jt, Nat.reduceAdd, allOne, oneCell, Bool.and_self, Jc]; first | done | omega)) only [qt, hrd, ↓Qa, ↓Qb, Qd, Qe, Qf, Qg, Qh, Qi, Qj, Qk, Ql, Qm, Qn, Qo, Qp, Qq, Qr, Qs, Qt, Qu, Qv, Qw, Qx, Qy, ptrTo, Qz, QA, QB, QC, QD, QE, QF, QG, QH, QI, QJ, QK, QL, QM, QN, QO, QP, QQ, QR, QS, QT, QU, QV, QW, QX, QY, QZ, Ja, Jb, Jc, Jd, Je, Jf, Jg, Jh, Ji, Jj, Jk, Jl, Jm, Jn, Jo, Jp, Jq, Jr, Js, Jt, Nat.reduceAdd]
  refine made_sp (a0 := a0) (gl := gl) (most := 7) hlf (by omega) h0 hlen hg (by omega) (by omega) fun u m2 e2 hu => ?_
  have n2 := e2.next
  have e02 := e1.trans e2
  obtain ⟨l1, l7⟩ := madeT_len (a0 := a0) (most := 7) hlen (by omega) (by omega)
  have hc := madeT_ok (a0 := a0) (most := 7) hlen (by omega) (by omega)
  have hbd : ∀ z ∈ madeT a0 gl 7, 0 ≤ z ∧ z ≤ 60 := madeT_bd
  generalize madeT a0 gl 7 = l at hu l1 l7 hc hbd
  have qbl := Mem.rd_lt qb
  have qb2 := (e2.kept _ qbl).trans qb
  refine clone_sp (by omega) hu.il (by omega) (by omega) fun c m3 e3 hcl => ?_
  have n3 := e3.next
  try simp (disch := first | omega | with_unfolding_all exact id rfl | with_unfolding_all exact Nat.le_of_ble_eq_true rfl | (simp only [Jd, Je, Jr, Js, Jt, Nat.reduceAdd, allOne, oneCell, Bool.and_self, Jc]; first | done | omega)) only [hcl.ln, ↓Qa, ↓Qb, Qd, Qe, Qf, Qg, Qh, Qi, Qj, Qk, Ql, Qm, Qn, Qo, Qp, Qq, Qr, Qs, Qt, Qu, Qv, Qw, Qx, Qy, ptrTo, Qz, QA, QB, QC, QD, QE, QF, QG, QH, QI, QJ, QK, QL, QM, QN, QO, QP, QQ, QR, QS, QT, QU, QV, QW, QX, QY, QZ, Ja, Jb, Jc, Jd, Je, Jf, Jg, Jh, Ji, Jj, Jk, Jl, Jm, Jn, Jo, Jp, Jq, Jr, Js, Jt, Nat.reduceAdd]
  refine loop_up l.length (fun i vs m' => vs = [.int .i64 (i : Int)] ∧ Gt m2 m' ∧ ∃ o : List Int, GL m2.next m' c o ∧ o.Perm l) (by omega) ⟨rfl, e3, l, hcl, List.Perm.refl _⟩ ?_
  rintro i vs m4 hi ⟨rfl, e4, o, ho, hop⟩ self hself
  have n4 := e4.next
  have hol := hop.length_eq
  have hadd : ∀ (i : Nat), i < 100 → ∀ K : Value → Option Unit, oInt .add .i64 (.int .i64 (i : Int)) (.int .i64 1) K = K (.int .i64 ((i + 1 : Nat) : Int)) := fun i hi K => by rw [oInt_add ⟨by omega, by omega⟩]; rfl
  try simp (disch := first | omega | with_unfolding_all exact id rfl | with_unfolding_all exact Nat.le_of_ble_eq_true rfl | (simp only [Jd, Je, Jr, Js, Jt, Nat.reduceAdd, allOne, oneCell, Bool.and_self, Jc]; first | done | omega)) only [↓Qa, ↓Qb, Qd, Qe, Qf, Qg, Qh, Qi, Qj, Qk, Ql, Qm, Qn, Qo, Qp, Qq, Qr, Qs, Qt, Qu, Qv, Qw, Qx, Qy, ptrTo, Qz, QA, QB, QC, QD, QE, QF, QG, QH, QI, QJ, QK, QL, QM, QN, QO, QP, QQ, QR, QS, QT, QU, QV, QW, QX, QY, QZ, Ja, Jb, Jc, Jd, Je, Jf, Jg, Jh, Ji, Jj, Jk, Jl, Jm, Jn, Jo, Jp, Jq, Jr, Js, Jt, Nat.reduceAdd]
  refine oIf_dec (fun h => ?_) (fun h => ?_)
  · have hil : i < l.length := by omega
    have hio : i < o.length := by omega
    have hib : i < bs.length := by omega
    have h5 := hbb _ (List.getElem_mem hib)
    have hcell : (bs.map (fun (g : Nat) => Value.int .u8 (g : Int)))[0 + i]? = some (.int .u8 (bs[i] : Int)) := by
      rw [Nat.zero_add, List.getElem?_map, List.getElem?_eq_getElem hib]; rfl
    have qb4 := (e4.kept _ (by omega)).trans qb2
    have hq := Nat.mod_lt bs[i] (show 0 < i + 1 by omega)
    have hqo : bs[i] % (i + 1) < o.length := by omega
    rw [iaA_u (show i < 7 by omega), oOpt_e, ld1_u, qb4, rdo_e, hcell, oOpt_e, oCv_nat (by omega), hadd i (by omega), oInt_remN (by omega)]
    generalize bs[i] % (i + 1) = q at hq hqo ⊢
    have hoi := ho.il
    rw [hoi.ia hqo, oOpt_e, hoi.ld hqo, oOpt_e, hoi.ia hio, oOpt_e, hoi.ld hio, oOpt_e]
    try rw [oOpt_e]
    obtain ⟨m5, s2, u2, e5, n5, _⟩ := ho.set (L := L) (m0 := m2) o[q] hio (by omega) e4 (Nat.le_refl _)
    rw [s2, oRes_e]
    try rw [oOpt_e]
    have hqs : q < (o.set i o[q]).length := by rw [List.length_set]; exact hqo
    obtain ⟨m6, s3, u3, e6, n6, _⟩ := u2.set (L := L) (m0 := m2) o[i] hqs (by omega) e5 (Nat.le_refl _)
    rw [s3, oRes_e]
    try rw [hadd i (by omega)]
    exact hself hil _ _ ⟨rfl, e6, _, u3, (List.set_set_perm hio hqo).trans hop⟩
  · clear hself
    have hoi := ho.il
    have hoo := ho.opn
    have hco : chkS o = 0 := (chkS_perm hop).trans hc
    have hod : ∀ z ∈ o, 0 ≤ z ∧ z ≤ 60 := fun z hz => hbd z (hop.mem_iff.1 hz)
    refine step_sp hlf (by omega) hoi hoo (by omega) fun m5 e5 => ?_
    have n5 := e5.next
    try simp (disch := first | omega | with_unfolding_all exact id rfl | with_unfolding_all exact Nat.le_of_ble_eq_true rfl | (simp only [Jd, Je, Jr, Js, Jt, Nat.reduceAdd, allOne, oneCell, Bool.and_self, Jc]; first | done | omega)) only [↓Qa, ↓Qb, Qd, Qe, Qf, Qg, Qh, Qi, Qj, Qk, Ql, Qm, Qn, Qo, Qp, Qq, Qr, Qs, Qt, Qu, Qv, Qw, Qx, Qy, ptrTo, Qz, QA, QB, QC, QD, QE, QF, QG, QH, QI, QJ, QK, QL, QM, QN, QO, QP, QQ, QR, QS, QT, QU, QV, QW, QX, QY, QZ, Ja, Jb, Jc, Jd, Je, Jf, Jg, Jh, Ji, Jj, Jk, Jl, Jm, Jn, Jo, Jp, Jq, Jr, Js, Jt, Nat.reduceAdd]
    refine sumS_sp hlf (by omega) (hoi.mono e5) hoo (by omega) fun m6 e6 => ?_
    have n6 := e6.next
    have e46 := e5.trans e6
    rw [hco]
    try simp (disch := first | omega | with_unfolding_all exact id rfl | with_unfolding_all exact Nat.le_of_ble_eq_true rfl | (simp only [Jd, Je, Jr, Js, Jt, Nat.reduceAdd, allOne, oneCell, Bool.and_self, Jc]; first | done | omega)) only [neqb, ↓Qa, ↓Qb, Qd, Qe, Qf, Qg, Qh, Qi, Qj, Qk, Ql, Qm, Qn, Qo, Qp, Qq, Qr, Qs, Qt, Qu, Qv, Qw, Qx, Qy, ptrTo, Qz, QA, QB, QC, QD, QE, QF, QG, QH, QI, QJ, QK, QL, QM, QN, QO, QP, QQ, QR, QS, QT, QU, QV, QW, QX, QY, QZ, Ja, Jb, Jc, Jd, Je, Jf, Jg, Jh, Ji, Jj, Jk, Jl, Jm, Jn, Jo, Jp, Jq, Jr, Js, Jt, Nat.reduceAdd]
    repeat (rw [join_e]; try simp (disch := first | omega | with_unfolding_all exact id rfl | with_unfolding_all exact Nat.le_of_ble_eq_true rfl | (simp only [Jd, Je, Jr, Js, Jt, Nat.reduceAdd, allOne, oneCell, Bool.and_self, Jc]; first | done | omega)) only [neqb, ↓Qa, ↓Qb, Qd, Qe, Qf, Qg, Qh, Qi, Qj, Qk, Ql, Qm, Qn, Qo, Qp, Qq, Qr, Qs, Qt, Qu, Qv, Qw, Qx, Qy, ptrTo, Qz, QA, QB, QC, QD, QE, QF, QG, QH, QI, QJ, QK, QL, QM, QN, QO, QP, QQ, QR, QS, QT, QU, QV, QW, QX, QY, QZ, Ja, Jb, Jc, Jd, Je, Jf, Jg, Jh, Ji, Jj, Jk, Jl, Jm, Jn, Jo, Jp, Jq, Jr, Js, Jt, Nat.reduceAdd])
    refine lsteps_sp hlf (by omega) (hoi.mono e46) (by omega) (by omega) hod fun s7 m7 e7 hs7 => ?_
    have n7 := e7.next
    have hsl := stepX_len o r
    have hsb := stepX_bd (r := r) hod
    refine greatest_sp hlf (by omega) hs7.il (by omega) fun m8 e8 => ?_
    have n8 := e8.next
    have e48 := (e46.trans e7).trans e8
    have hmx : maxX o r = maxL (stepX o r) := by unfold maxX; rw [if_pos hco]; rfl
    have hsx : sumX o r = sumL (stepX o r) := by unfold sumX; rw [if_pos hco]; rfl
    try simp (disch := first | omega | with_unfolding_all exact id rfl | with_unfolding_all exact Nat.le_of_ble_eq_true rfl | (simp only [Jd, Je, Jr, Js, Jt, Nat.reduceAdd, allOne, oneCell, Bool.and_self, Jc]; first | done | omega)) only [hmx, neqb, ↓Qa, ↓Qb, Qd, Qe, Qf, Qg, Qh, Qi, Qj, Qk, Ql, Qm, Qn, Qo, Qp, Qq, Qr, Qs, Qt, Qu, Qv, Qw, Qx, Qy, ptrTo, Qz, QA, QB, QC, QD, QE, QF, QG, QH, QI, QJ, QK, QL, QM, QN, QO, QP, QQ, QR, QS, QT, QU, QV, QW, QX, QY, QZ, Ja, Jb, Jc, Jd, Je, Jf, Jg, Jh, Ji, Jj, Jk, Jl, Jm, Jn, Jo, Jp, Jq, Jr, Js, Jt, Nat.reduceAdd]
    repeat (rw [join_e]; try simp (disch := first | omega | with_unfolding_all exact id rfl | with_unfolding_all exact Nat.le_of_ble_eq_true rfl | (simp only [Jd, Je, Jr, Js, Jt, Nat.reduceAdd, allOne, oneCell, Bool.and_self, Jc]; first | done | omega)) only [hmx, neqb, ↓Qa, ↓Qb, Qd, Qe, Qf, Qg, Qh, Qi, Qj, Qk, Ql, Qm, Qn, Qo, Qp, Qq, Qr, Qs, Qt, Qu, Qv, Qw, Qx, Qy, ptrTo, Qz, QA, QB, QC, QD, QE, QF, QG, QH, QI, QJ, QK, QL, QM, QN, QO, QP, QQ, QR, QS, QT, QU, QV, QW, QX, QY, QZ, Ja, Jb, Jc, Jd, Je, Jf, Jg, Jh, Ji, Jj, Jk, Jl, Jm, Jn, Jo, Jp, Jq, Jr, Js, Jt, Nat.reduceAdd])
    refine lsteps_sp hlf (by omega) (hoi.mono e48) (by omega) (by omega) hod fun s9 m9 e9 hs9 => ?_
    have n9 := e9.next
    refine lsum_sp hlf hs9.il (by omega) (fun i => ?_) (fun x hx => by have := hsb x hx; omega) ?_
    · have hb := foldl_bd hsb i
      by_cases hi9 : i ≤ (stepX o r).length
      · omega
      · have hb2 := foldl_bd hsb (stepX o r).length
        rw [List.take_of_length_le (Nat.le_refl _)] at hb2
        rw [List.take_of_length_le (by omega)]
        omega
    have e49 := e48.trans e9
    have hmb : maxL (stepX o r) ≤ 60 := maxL_le.2 ⟨by omega, fun x hx => (hsb x hx).2⟩
    have hmn := maxL_nn (stepX o r)
    have hMX := hmx
    rw [← hmx]
    rw [← hmx] at hmb hmn
    try simp (disch := first | omega | with_unfolding_all exact id rfl | with_unfolding_all exact Nat.le_of_ble_eq_true rfl | (simp only [Jd, Je, Jr, Js, Jt, Nat.reduceAdd, allOne, oneCell, Bool.and_self, Jc]; first | done | omega)) only [hsx, neqb, ↓Qa, ↓Qb, Qd, Qe, Qf, Qg, Qh, Qi, Qj, Qk, Ql, Qm, Qn, Qo, Qp, Qq, Qr, Qs, Qt, Qu, Qv, Qw, Qx, Qy, ptrTo, Qz, QA, QB, QC, QD, QE, QF, QG, QH, QI, QJ, QK, QL, QM, QN, QO, QP, QQ, QR, QS, QT, QU, QV, QW, QX, QY, QZ, Ja, Jb, Jc, Jd, Je, Jf, Jg, Jh, Ji, Jj, Jk, Jl, Jm, Jn, Jo, Jp, Jq, Jr, Js, Jt, Nat.reduceAdd]
    repeat (rw [join_e]; try simp (disch := first | omega | with_unfolding_all exact id rfl | with_unfolding_all exact Nat.le_of_ble_eq_true rfl | (simp only [Jd, Je, Jr, Js, Jt, Nat.reduceAdd, allOne, oneCell, Bool.and_self, Jc]; first | done | omega)) only [hsx, neqb, ↓Qa, ↓Qb, Qd, Qe, Qf, Qg, Qh, Qi, Qj, Qk, Ql, Qm, Qn, Qo, Qp, Qq, Qr, Qs, Qt, Qu, Qv, Qw, Qx, Qy, ptrTo, Qz, QA, QB, QC, QD, QE, QF, QG, QH, QI, QJ, QK, QL, QM, QN, QO, QP, QQ, QR, QS, QT, QU, QV, QW, QX, QY, QZ, Ja, Jb, Jc, Jd, Je, Jf, Jg, Jh, Ji, Jj, Jk, Jl, Jm, Jn, Jo, Jp, Jq, Jr, Js, Jt, Nat.reduceAdd])
    have hui := hu.il.mono e4
    refine loop_up (l.length + 2) (fun i vs m' => vs = [.int .i64 ((i : Int) - 1)] ∧ Gt m9 m') (by omega) ⟨rfl, Gt.refl _⟩ ?_
    rintro i vs m10 hi ⟨rfl, e10⟩ self hself
    have n10 := e10.next
    have e410 := e49.trans e10
    have hui10 := hui.mono e410
    try simp (disch := first | omega | with_unfolding_all exact id rfl | with_unfolding_all exact Nat.le_of_ble_eq_true rfl | (simp only [Jd, Je, Jr, Js, Jt, Nat.reduceAdd, allOne, oneCell, Bool.and_self, Jc]; first | done | omega)) only [hui10.ln, ↓Qa, ↓Qb, Qd, Qe, Qf, Qg, Qh, Qi, Qj, Qk, Ql, Qm, Qn, Qo, Qp, Qq, Qr, Qs, Qt, Qu, Qv, Qw, Qx, Qy, ptrTo, Qz, QA, QB, QC, QD, QE, QF, QG, QH, QI, QJ, QK, QL, QM, QN, QO, QP, QQ, QR, QS, QT, QU, QV, QW, QX, QY, QZ, Ja, Jb, Jc, Jd, Je, Jf, Jg, Jh, Ji, Jj, Jk, Jl, Jm, Jn, Jo, Jp, Jq, Jr, Js, Jt, Nat.reduceAdd]
    refine oIf_dec (fun h2 => ?_) (fun h2 => ?_)
    · rw [oInt_add ⟨by omega, by omega⟩]
      refine proves_sp hlf (by omega) hui10 (by omega) fun m11 e11 => ?_
      rw [prS_more hc hop]
      have fin : self [.int .i64 (((i + 1 : Nat) : Int) - 1)] m11 = some () := hself (by omega) _ _ ⟨rfl, e10.trans e11⟩
      have hadd2 : ∀ K : Value → Option Unit, oInt .add .i64 (.int .i64 ((i : Int) - 1)) (.int .i64 1) K = K (.int .i64 (((i + 1 : Nat) : Int) - 1)) := fun K => by rw [oInt_add ⟨by omega, by omega⟩, show (i : Int) - 1 + 1 = ((i + 1 : Nat) : Int) - 1 by omega]
      by_cases hx : inI ((i : Int) - 1) 0 ((l.length : Int) - 1 - reachN l r)
      · rw [if_pos hx]
        try simp (disch := first | omega | with_unfolding_all exact id rfl | with_unfolding_all exact Nat.le_of_ble_eq_true rfl | (simp only [Jd, Je, Jr, Js, Jt, Nat.reduceAdd, allOne, oneCell, Bool.and_self, Jc]; first | done | omega)) only [neqb, hadd2, decide_eq_false (show ¬ (14 : Int) = 0 by omega), ↓Qa, ↓Qb, Qd, Qe, Qf, Qg, Qh, Qi, Qj, Qk, Ql, Qm, Qn, Qo, Qp, Qq, Qr, Qs, Qt, Qu, Qv, Qw, Qx, Qy, ptrTo, Qz, QA, QB, QC, QD, QE, QF, QG, QH, QI, QJ, QK, QL, QM, QN, QO, QP, QQ, QR, QS, QT, QU, QV, QW, QX, QY, QZ, Ja, Jb, Jc, Jd, Je, Jf, Jg, Jh, Ji, Jj, Jk, Jl, Jm, Jn, Jo, Jp, Jq, Jr, Js, Jt, Nat.reduceAdd]
        repeat (rw [join_e]; try simp (disch := first | omega | with_unfolding_all exact id rfl | with_unfolding_all exact Nat.le_of_ble_eq_true rfl | (simp only [Jd, Je, Jr, Js, Jt, Nat.reduceAdd, allOne, oneCell, Bool.and_self, Jc]; first | done | omega)) only [neqb, hadd2, decide_eq_false (show ¬ (14 : Int) = 0 by omega), ↓Qa, ↓Qb, Qd, Qe, Qf, Qg, Qh, Qi, Qj, Qk, Ql, Qm, Qn, Qo, Qp, Qq, Qr, Qs, Qt, Qu, Qv, Qw, Qx, Qy, ptrTo, Qz, QA, QB, QC, QD, QE, QF, QG, QH, QI, QJ, QK, QL, QM, QN, QO, QP, QQ, QR, QS, QT, QU, QV, QW, QX, QY, QZ, Ja, Jb, Jc, Jd, Je, Jf, Jg, Jh, Ji, Jj, Jk, Jl, Jm, Jn, Jo, Jp, Jq, Jr, Js, Jt, Nat.reduceAdd])
        exact fin
      · rw [if_neg hx]
        try simp (disch := first | omega | with_unfolding_all exact id rfl | with_unfolding_all exact Nat.le_of_ble_eq_true rfl | (simp only [Jd, Je, Jr, Js, Jt, Nat.reduceAdd, allOne, oneCell, Bool.and_self, Jc]; first | done | omega)) only [neqb, hadd2, decide_eq_false (show ¬ (1 : Int) = 0 by omega), decide_eq_false (show ¬ (1 : Int) = 14 by omega), ↓Qa, ↓Qb, Qd, Qe, Qf, Qg, Qh, Qi, Qj, Qk, Ql, Qm, Qn, Qo, Qp, Qq, Qr, Qs, Qt, Qu, Qv, Qw, Qx, Qy, ptrTo, Qz, QA, QB, QC, QD, QE, QF, QG, QH, QI, QJ, QK, QL, QM, QN, QO, QP, QQ, QR, QS, QT, QU, QV, QW, QX, QY, QZ, Ja, Jb, Jc, Jd, Je, Jf, Jg, Jh, Ji, Jj, Jk, Jl, Jm, Jn, Jo, Jp, Jq, Jr, Js, Jt, Nat.reduceAdd]
        repeat (rw [join_e]; try simp (disch := first | omega | with_unfolding_all exact id rfl | with_unfolding_all exact Nat.le_of_ble_eq_true rfl | (simp only [Jd, Je, Jr, Js, Jt, Nat.reduceAdd, allOne, oneCell, Bool.and_self, Jc]; first | done | omega)) only [neqb, hadd2, decide_eq_false (show ¬ (1 : Int) = 0 by omega), decide_eq_false (show ¬ (1 : Int) = 14 by omega), ↓Qa, ↓Qb, Qd, Qe, Qf, Qg, Qh, Qi, Qj, Qk, Ql, Qm, Qn, Qo, Qp, Qq, Qr, Qs, Qt, Qu, Qv, Qw, Qx, Qy, ptrTo, Qz, QA, QB, QC, QD, QE, QF, QG, QH, QI, QJ, QK, QL, QM, QN, QO, QP, QQ, QR, QS, QT, QU, QV, QW, QX, QY, QZ, Ja, Jb, Jc, Jd, Je, Jf, Jg, Jh, Ji, Jj, Jk, Jl, Jm, Jn, Jo, Jp, Jq, Jr, Js, Jt, Nat.reduceAdd])
        exact fin
    · have E := (e02.trans e4).trans e410
      try simp (disch := first | omega | with_unfolding_all exact id rfl | with_unfolding_all exact Nat.le_of_ble_eq_true rfl | (simp only [Jd, Je, Jr, Js, Jt, Nat.reduceAdd, allOne, oneCell, Bool.and_self, Jc]; first | done | omega)) only [hui10.ln, ↓Qa, ↓Qb, Qd, Qe, Qf, Qg, Qh, Qi, Qj, Qk, Ql, Qm, Qn, Qo, Qp, Qq, Qr, Qs, Qt, Qu, Qv, Qw, Qx, Qy, ptrTo, Qz, QA, QB, QC, QD, QE, QF, QG, QH, QI, QJ, QK, QL, QM, QN, QO, QP, QQ, QR, QS, QT, QU, QV, QW, QX, QY, QZ, Ja, Jb, Jc, Jd, Je, Jf, Jg, Jh, Ji, Jj, Jk, Jl, Jm, Jn, Jo, Jp, Jq, Jr, Js, Jt, Nat.reduceAdd]
      refine oIf_dec (fun h3 => ?_) (fun h3 => ?_)
      · rw [r15]
        exact SClosed_sp (cK := runT (tab lf) (n + 39)) (L := L) (hT.mono E) (hk _ E)
      · have hl2 : 2 ≤ l.length := by omega
        have hyl : y % l.length < l.length := Nat.mod_lt _ (by omega)
        rw [oCv_nat (by omega)]
        try rw [hui10.ln]
        try rw [oOpt_e]
        rw [oInt_remN (by omega)]
        generalize y % l.length = t at hyl ⊢
        refine least_sp hlf (by omega) hui10 (by omega) fun m11 e11 => ?_
        have n11 := e11.next
        have hle := leX_le (r := r) hc hop
        have hui11 := hui10.mono e11
        rw [hc]
        try simp (disch := first | omega | with_unfolding_all exact id rfl | with_unfolding_all exact Nat.le_of_ble_eq_true rfl | (simp only [Jd, Je, Jr, Js, Jt, Nat.reduceAdd, allOne, oneCell, Bool.and_self, Jc]; first | done | omega)) only [neqb, ↓Qa, ↓Qb, Qd, Qe, Qf, Qg, Qh, Qi, Qj, Qk, Ql, Qm, Qn, Qo, Qp, Qq, Qr, Qs, Qt, Qu, Qv, Qw, Qx, Qy, ptrTo, Qz, QA, QB, QC, QD, QE, QF, QG, QH, QI, QJ, QK, QL, QM, QN, QO, QP, QQ, QR, QS, QT, QU, QV, QW, QX, QY, QZ, Ja, Jb, Jc, Jd, Je, Jf, Jg, Jh, Ji, Jj, Jk, Jl, Jm, Jn, Jo, Jp, Jq, Jr, Js, Jt, Nat.reduceAdd]
        repeat (rw [join_e]; try simp (disch := first | omega | with_unfolding_all exact id rfl | with_unfolding_all exact Nat.le_of_ble_eq_true rfl | (simp only [Jd, Je, Jr, Js, Jt, Nat.reduceAdd, allOne, oneCell, Bool.and_self, Jc]; first | done | omega)) only [neqb, decide_eq_true hle, ↓Qa, ↓Qb, Qd, Qe, Qf, Qg, Qh, Qi, Qj, Qk, Ql, Qm, Qn, Qo, Qp, Qq, Qr, Qs, Qt, Qu, Qv, Qw, Qx, Qy, ptrTo, Qz, QA, QB, QC, QD, QE, QF, QG, QH, QI, QJ, QK, QL, QM, QN, QO, QP, QQ, QR, QS, QT, QU, QV, QW, QX, QY, QZ, Ja, Jb, Jc, Jd, Je, Jf, Jg, Jh, Ji, Jj, Jk, Jl, Jm, Jn, Jo, Jp, Jq, Jr, Js, Jt, Nat.reduceAdd])
        refine proves_sp hlf (by omega) hui11 (by omega) fun m12 e12 => ?_
        have E12 := (E.trans e11).trans e12
        rw [prS_zero hc]
        have hr2 : reachN l r = if (r && decide (2 < l.length)) = true then 2 else 1 := rfl
        have hln := hui11.ln
        have close : runT (tab lf) (n + 39) 15 [] L m12 k = some () := by
          rw [r15]
          exact SClosed_sp (cK := runT (tab lf) (n + 39)) (L := L) (hT.mono E12) (hk _ E12)
        have add1 := hadd t (by omega)
        have add2 : ∀ K : Value → Option Unit, oInt .add .i64 (.int .i64 (t : Int)) (.int .i64 2) K = K (.int .i64 ((t + 2 : Nat) : Int)) := fun K => by rw [oInt_add ⟨by omega, by omega⟩]; rfl
        by_cases g1 : t + 1 < l.length
        · cases r with
          | false =>
            rw [if_pos (show inI ((t : Nat) : Int) 0 ((l.length : Int) - 1 - reachN l false) from ⟨by omega, by rw [hr2]; simp; omega⟩)]
            try simp (disch := first | omega | with_unfolding_all exact id rfl | with_unfolding_all exact Nat.le_of_ble_eq_true rfl | (simp only [Jd, Je, Jr, Js, Jt, Nat.reduceAdd, allOne, oneCell, Bool.and_self, Jc]; first | done | omega)) only [neqb, hln, add1, decide_eq_true (show ((t + 1 : Nat) : Int) < (l.length : Int) by omega), eqlB, ↓Qa, ↓Qb, Qd, Qe, Qf, Qg, Qh, Qi, Qj, Qk, Ql, Qm, Qn, Qo, Qp, Qq, Qr, Qs, Qt, Qu, Qv, Qw, Qx, Qy, ptrTo, Qz, QA, QB, QC, QD, QE, QF, QG, QH, QI, QJ, QK, QL, QM, QN, QO, QP, QQ, QR, QS, QT, QU, QV, QW, QX, QY, QZ, Ja, Jb, Jc, Jd, Je, Jf, Jg, Jh, Ji, Jj, Jk, Jl, Jm, Jn, Jo, Jp, Jq, Jr, Js, Jt, Nat.reduceAdd]
            repeat (rw [join_e]; try simp (disch := first | omega | with_unfolding_all exact id rfl | with_unfolding_all exact Nat.le_of_ble_eq_true rfl | (simp only [Jd, Je, Jr, Js, Jt, Nat.reduceAdd, allOne, oneCell, Bool.and_self, Jc]; first | done | omega)) only [neqb, hln, add1, eqlB, ↓Qa, ↓Qb, Qd, Qe, Qf, Qg, Qh, Qi, Qj, Qk, Ql, Qm, Qn, Qo, Qp, Qq, Qr, Qs, Qt, Qu, Qv, Qw, Qx, Qy, ptrTo, Qz, QA, QB, QC, QD, QE, QF, QG, QH, QI, QJ, QK, QL, QM, QN, QO, QP, QQ, QR, QS, QT, QU, QV, QW, QX, QY, QZ, Ja, Jb, Jc, Jd, Je, Jf, Jg, Jh, Ji, Jj, Jk, Jl, Jm, Jn, Jo, Jp, Jq, Jr, Js, Jt, Nat.reduceAdd])
            exact close
          | true =>
            by_cases g2 : l.length = 2
            · rw [if_pos (show inI ((t : Nat) : Int) 0 ((l.length : Int) - 1 - reachN l true) from ⟨by omega, by rw [hr2]; simp [g2]; omega⟩)]
              try simp (disch := first | omega | with_unfolding_all exact id rfl | with_unfolding_all exact Nat.le_of_ble_eq_true rfl | (simp only [Jd, Je, Jr, Js, Jt, Nat.reduceAdd, allOne, oneCell, Bool.and_self, Jc]; first | done | omega)) only [neqb, hln, add1, decide_eq_true (show ((t + 1 : Nat) : Int) < (l.length : Int) by omega), decide_eq_true (show ((l.length : Nat) : Int) = 2 by omega), eqlB, ↓Qa, ↓Qb, Qd, Qe, Qf, Qg, Qh, Qi, Qj, Qk, Ql, Qm, Qn, Qo, Qp, Qq, Qr, Qs, Qt, Qu, Qv, Qw, Qx, Qy, ptrTo, Qz, QA, QB, QC, QD, QE, QF, QG, QH, QI, QJ, QK, QL, QM, QN, QO, QP, QQ, QR, QS, QT, QU, QV, QW, QX, QY, QZ, Ja, Jb, Jc, Jd, Je, Jf, Jg, Jh, Ji, Jj, Jk, Jl, Jm, Jn, Jo, Jp, Jq, Jr, Js, Jt, Nat.reduceAdd]
              repeat (rw [join_e]; try simp (disch := first | omega | with_unfolding_all exact id rfl | with_unfolding_all exact Nat.le_of_ble_eq_true rfl | (simp only [Jd, Je, Jr, Js, Jt, Nat.reduceAdd, allOne, oneCell, Bool.and_self, Jc]; first | done | omega)) only [neqb, hln, add1, decide_eq_true (show ((l.length : Nat) : Int) = 2 by omega), eqlB, ↓Qa, ↓Qb, Qd, Qe, Qf, Qg, Qh, Qi, Qj, Qk, Ql, Qm, Qn, Qo, Qp, Qq, Qr, Qs, Qt, Qu, Qv, Qw, Qx, Qy, ptrTo, Qz, QA, QB, QC, QD, QE, QF, QG, QH, QI, QJ, QK, QL, QM, QN, QO, QP, QQ, QR, QS, QT, QU, QV, QW, QX, QY, QZ, Ja, Jb, Jc, Jd, Je, Jf, Jg, Jh, Ji, Jj, Jk, Jl, Jm, Jn, Jo, Jp, Jq, Jr, Js, Jt, Nat.reduceAdd])
              exact close
            · have g3 : 2 < l.length := by omega
              by_cases g4 : t + 2 < l.length
              · rw [if_pos (show inI ((t : Nat) : Int) 0 ((l.length : Int) - 1 - reachN l true) from ⟨by omega, by rw [hr2]; simp [g3]; omega⟩)]
                try simp (disch := first | omega | with_unfolding_all exact id rfl | with_unfolding_all exact Nat.le_of_ble_eq_true rfl | (simp only [Jd, Je, Jr, Js, Jt, Nat.reduceAdd, allOne, oneCell, Bool.and_self, Jc]; first | done | omega)) only [neqb, hln, add1, add2, decide_eq_true (show ((t + 1 : Nat) : Int) < (l.length : Int) by omega), decide_eq_false (show ¬ ((l.length : Nat) : Int) = 2 by omega), decide_eq_true (show ((t + 2 : Nat) : Int) < (l.length : Int) by omega), eqlB, ↓Qa, ↓Qb, Qd, Qe, Qf, Qg, Qh, Qi, Qj, Qk, Ql, Qm, Qn, Qo, Qp, Qq, Qr, Qs, Qt, Qu, Qv, Qw, Qx, Qy, ptrTo, Qz, QA, QB, QC, QD, QE, QF, QG, QH, QI, QJ, QK, QL, QM, QN, QO, QP, QQ, QR, QS, QT, QU, QV, QW, QX, QY, QZ, Ja, Jb, Jc, Jd, Je, Jf, Jg, Jh, Ji, Jj, Jk, Jl, Jm, Jn, Jo, Jp, Jq, Jr, Js, Jt, Nat.reduceAdd]
                repeat (rw [join_e]; try simp (disch := first | omega | with_unfolding_all exact id rfl | with_unfolding_all exact Nat.le_of_ble_eq_true rfl | (simp only [Jd, Je, Jr, Js, Jt, Nat.reduceAdd, allOne, oneCell, Bool.and_self, Jc]; first | done | omega)) only [neqb, hln, add1, add2, decide_eq_false (show ¬ ((l.length : Nat) : Int) = 2 by omega), decide_eq_true (show ((t + 2 : Nat) : Int) < (l.length : Int) by omega), eqlB, ↓Qa, ↓Qb, Qd, Qe, Qf, Qg, Qh, Qi, Qj, Qk, Ql, Qm, Qn, Qo, Qp, Qq, Qr, Qs, Qt, Qu, Qv, Qw, Qx, Qy, ptrTo, Qz, QA, QB, QC, QD, QE, QF, QG, QH, QI, QJ, QK, QL, QM, QN, QO, QP, QQ, QR, QS, QT, QU, QV, QW, QX, QY, QZ, Ja, Jb, Jc, Jd, Je, Jf, Jg, Jh, Ji, Jj, Jk, Jl, Jm, Jn, Jo, Jp, Jq, Jr, Js, Jt, Nat.reduceAdd])
                exact close
              · rw [if_neg (show ¬ inI ((t : Nat) : Int) 0 ((l.length : Int) - 1 - reachN l true) from fun hh => by have := hh.2; rw [hr2] at this; simp [g3] at this; omega)]
                try simp (disch := first | omega | with_unfolding_all exact id rfl | with_unfolding_all exact Nat.le_of_ble_eq_true rfl | (simp only [Jd, Je, Jr, Js, Jt, Nat.reduceAdd, allOne, oneCell, Bool.and_self, Jc]; first | done | omega)) only [neqb, hln, add1, add2, decide_eq_true (show ((t + 1 : Nat) : Int) < (l.length : Int) by omega), decide_eq_false (show ¬ ((l.length : Nat) : Int) = 2 by omega), decide_eq_false (show ¬ ((t + 2 : Nat) : Int) < (l.length : Int) by omega), decide_eq_false (show ¬ (1 : Int) = 0 by omega), eqlB, ↓Qa, ↓Qb, Qd, Qe, Qf, Qg, Qh, Qi, Qj, Qk, Ql, Qm, Qn, Qo, Qp, Qq, Qr, Qs, Qt, Qu, Qv, Qw, Qx, Qy, ptrTo, Qz, QA, QB, QC, QD, QE, QF, QG, QH, QI, QJ, QK, QL, QM, QN, QO, QP, QQ, QR, QS, QT, QU, QV, QW, QX, QY, QZ, Ja, Jb, Jc, Jd, Je, Jf, Jg, Jh, Ji, Jj, Jk, Jl, Jm, Jn, Jo, Jp, Jq, Jr, Js, Jt, Nat.reduceAdd]
                repeat (rw [join_e]; try simp (disch := first | omega | with_unfolding_all exact id rfl | with_unfolding_all exact Nat.le_of_ble_eq_true rfl | (simp only [Jd, Je, Jr, Js, Jt, Nat.reduceAdd, allOne, oneCell, Bool.and_self, Jc]; first | done | omega)) only [neqb, hln, add1, add2, decide_eq_false (show ¬ ((l.length : Nat) : Int) = 2 by omega), decide_eq_false (show ¬ ((t + 2 : Nat) : Int) < (l.length : Int) by omega), decide_eq_false (show ¬ (1 : Int) = 0 by omega), eqlB, ↓Qa, ↓Qb, Qd, Qe, Qf, Qg, Qh, Qi, Qj, Qk, Ql, Qm, Qn, Qo, Qp, Qq, Qr, Qs, Qt, Qu, Qv, Qw, Qx, Qy, ptrTo, Qz, QA, QB, QC, QD, QE, QF, QG, QH, QI, QJ, QK, QL, QM, QN, QO, QP, QQ, QR, QS, QT, QU, QV, QW, QX, QY, QZ, Ja, Jb, Jc, Jd, Je, Jf, Jg, Jh, Ji, Jj, Jk, Jl, Jm, Jn, Jo, Jp, Jq, Jr, Js, Jt, Nat.reduceAdd])
                exact close
        · rw [if_neg (show ¬ inI ((t : Nat) : Int) 0 ((l.length : Int) - 1 - reachN l r) from fun hh => by have := hh.2; have := (reachN_bd l r).1; omega)]
          try simp (disch := first | omega | with_unfolding_all exact id rfl | with_unfolding_all exact Nat.le_of_ble_eq_true rfl | (simp only [Jd, Je, Jr, Js, Jt, Nat.reduceAdd, allOne, oneCell, Bool.and_self, Jc]; first | done | omega)) only [neqb, hln, add1, decide_eq_false (show ¬ ((t + 1 : Nat) : Int) < (l.length : Int) by omega), decide_eq_false (show ¬ (1 : Int) = 0 by omega), eqlB, ↓Qa, ↓Qb, Qd, Qe, Qf, Qg, Qh, Qi, Qj, Qk, Ql, Qm, Qn, Qo, Qp, Qq, Qr, Qs, Qt, Qu, Qv, Qw, Qx, Qy, ptrTo, Qz, QA, QB, QC, QD, QE, QF, QG, QH, QI, QJ, QK, QL, QM, QN, QO, QP, QQ, QR, QS, QT, QU, QV, QW, QX, QY, QZ, Ja, Jb, Jc, Jd, Je, Jf, Jg, Jh, Ji, Jj, Jk, Jl, Jm, Jn, Jo, Jp, Jq, Jr, Js, Jt, Nat.reduceAdd]
          repeat (rw [join_e]; try simp (disch := first | omega | with_unfolding_all exact id rfl | with_unfolding_all exact Nat.le_of_ble_eq_true rfl | (simp only [Jd, Je, Jr, Js, Jt, Nat.reduceAdd, allOne, oneCell, Bool.and_self, Jc]; first | done | omega)) only [neqb, hln, add1, decide_eq_false (show ¬ (1 : Int) = 0 by omega), eqlB, ↓Qa, ↓Qb, Qd, Qe, Qf, Qg, Qh, Qi, Qj, Qk, Ql, Qm, Qn, Qo, Qp, Qq, Qr, Qs, Qt, Qu, Qv, Qw, Qx, Qy, ptrTo, Qz, QA, QB, QC, QD, QE, QF, QG, QH, QI, QJ, QK, QL, QM, QN, QO, QP, QQ, QR, QS, QT, QU, QV, QW, QX, QY, QZ, Ja, Jb, Jc, Jd, Je, Jf, Jg, Jh, Ji, Jj, Jk, Jl, Jm, Jn, Jo, Jp, Jq, Jr, Js, Jt, Nat.reduceAdd])
          exact close
end
end Go.Vit
