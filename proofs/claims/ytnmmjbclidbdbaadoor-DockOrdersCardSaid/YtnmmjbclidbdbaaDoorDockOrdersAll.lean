/- The law DockOrders: its walk. -/
import Derived.Test.YtnmmjbclidbdbaaDoorW5
import Derived.Test.YtnmmjbclidbdbaaDoorW12
import Derived.Test.YtnmmjbclidbdbaaDoorDockProvedAll
set_option linter.unusedSimpArgs false
set_option linter.unusedVariables false
set_option maxRecDepth 20000
namespace Go.Vit
open Go Go.Proofs
attribute [local irreducible] runT loopS
theorem isortI_perm_eq {a b : List Int} (h : a.Perm b) : isortI a = isortI b :=
  List.Perm.eq_of_pairwise (le := fun a b => a ≤ b) (fun a b _ _ h1 h2 => Int.le_antisymm h1 h2) (isortI_sorted _) (isortI_sorted _) (((isortI_perm a).trans h).trans (isortI_perm b).symm)
theorem sum_perm {a b : List Int} (h : a.Perm b) : a.sum = b.sum := by
  induction h with
  | nil => rfl
  | cons x h ih => rw [List.sum_cons, List.sum_cons, ih]
  | swap x y l => rw [List.sum_cons, List.sum_cons, List.sum_cons, List.sum_cons]; omega
  | trans h1 h2 ih1 ih2 => rw [ih1, ih2]
theorem way_sum : ∀ (P : List Int) (w : List Nat), P.length = w.length → (-1 : Int) ∉ P → zsum wayF P w = P.sum - (ci w).sum
  | [], [], _, _ => rfl
  | p :: P, x :: w, hl, hn => by
    have ih := way_sum P w (by simpa using hl) fun h => hn (List.mem_cons_of_mem _ h)
    have hp : p ≠ -1 := fun h => hn (by rw [h]; exact List.mem_cons_self ..)
    show wayF p x + zsum wayF P w = (p + P.sum) - ((x : Int) + (ci w).sum)
    rw [ih]
    unfold wayF
    rw [if_neg hp]
    omega
theorem ways_perm {n : Nat} {w o : List Nat} (h : w.Perm o) (hn : (-1 : Int) ∉ parkL n w) : zsum wayF (parkL n w) w = zsum wayF (parkL n o) o := by
  have hp := parkL_perm (n := n) h
  have hn2 : (-1 : Int) ∉ parkL n o := fun hh => hn (hp.mem_iff.2 hh)
  rw [way_sum _ _ (parkL_len n w) hn, way_sum _ _ (parkL_len n o) hn2, sum_perm hp, sum_perm (a := ci w) (b := ci o) (h.map _)]
section
variable {lf n L : Nat} {m : Mem} {k : Value → Mem → Option Unit}
set_option maxHeartbeats 8000000 in
theorem orders_sp {a0 a1 : Nat} {gl bl8 : List Nat} (hlf : 1000000 ≤ lf) (hL : L ≤ m.next) (hT : TabOk mTab m) (h0 : a0 < 256) (h1 : a1 < 256) (hlen : gl.length = 8) (hg : ∀ g ∈ gl, g < 256) (hlen2 : bl8.length = 8) (hg2 : ∀ g ∈ bl8, g < 256)
    (hk : ∀ m', Gt m m' → k (.bool true) m' = some ()) : runT (tab lf) (n + 10) 12 [sealV a0 a1 gl, .agg ⟨bl8.map fun (g : Nat) => .int .u8 (g : Int)⟩] L m k = some () := by
  rw [r12]; dsimp only [S12, iofNat, inegSucc]
  have hcl : (Value.int .u8 (a0 : Int) :: .int .u8 (a1 : Int) :: gl.map fun (g : Nat) => .int .u8 (g : Int)).length = 10 := by simp [hlen]
  have hsv : sealV a0 a1 gl = .agg ⟨.int .u8 (a0 : Int) :: .int .u8 (a1 : Int) :: gl.map fun (g : Nat) => .int .u8 (g : Int)⟩ := rfl
  rw [hsv, uc_e, uc_e, un0_e, abox_e, cells_agg, oRes_e]
  have g1 := Mem.gt_push m ⟨1, .int .u8 (a0 : Int) :: .int .u8 (a1 : Int) :: gl.map (fun (g : Nat) => .int .u8 (g : Int)), none⟩
  have q1 : (m.push ⟨1, .int .u8 (a0 : Int) :: .int .u8 (a1 : Int) :: gl.map (fun (g : Nat) => .int .u8 (g : Int)), none⟩).rd m.next = some ⟨1, .int .u8 (a0 : Int) :: .int .u8 (a1 : Int) :: gl.map (fun (g : Nat) => .int .u8 (g : Int)), none⟩ := Mem.rd_push _ _
  generalize m.push ⟨1, .int .u8 (a0 : Int) :: .int .u8 (a1 : Int) :: gl.map (fun (g : Nat) => .int .u8 (g : Int)), none⟩ = mA at g1 q1 ⊢
  rw [abox_e, cells_agg, oRes_e]
  have g2 := Mem.gt_push mA ⟨1, bl8.map (fun (g : Nat) => .int .u8 (g : Int)), none⟩
  have q2 : (mA.push ⟨1, bl8.map (fun (g : Nat) => .int .u8 (g : Int)), none⟩).rd mA.next = some ⟨1, bl8.map (fun (g : Nat) => .int .u8 (g : Int)), none⟩ := Mem.rd_push _ _
  generalize mA.push ⟨1, bl8.map (fun (g : Nat) => .int .u8 (g : Int)), none⟩ = mB at g2 q2 ⊢
  have nA := g1.next
  have nB := g2.next
  have lA := Mem.rd_lt q1
  have lB := Mem.rd_lt q2
  have q1B := (g2.kept _ lA).trans q1
  have gAB := g1.trans g2
  show oOpt (ldN mB 10 (.pointer (some ⟨m.next, 0, none⟩))) _ = _
  rw [ldN_u, q1B, rdn_all hcl, oOpt_e, ← hsv]
  refine made_sp (n := n + 8) (most := 8) (more := 0) hlf (by omega) h0 h1 hlen hg (by omega) (by omega) (by omega) fun v m1 e1 hv => ?_
  have n1 := e1.next
  have hN := madeN_bd (a0 := a0) (most := 8) (by omega)
  have hwl := madeL_len a1 gl (madeN a0 8) 0
  have hw := madeL_lt (a1 := a1) (gl := gl) (n := madeN a0 8) (more := 0) (by omega)
  generalize madeL a1 gl (madeN a0 8) 0 = w at hv hwl hw ⊢
  generalize madeN a0 8 = a at hN hwl hw ⊢
  obtain ⟨ha1, ha8⟩ := hN
  rw [Nat.add_zero] at hw
  have hcw := ci_length w
  have e01 := gAB.trans e1
  try simp (disch := first | omega | with_unfolding_all exact id rfl | with_unfolding_all exact Nat.le_of_ble_eq_true rfl | (simp only [Jd, Je, Jr, Js, Jt, Nat.reduceAdd, allOne, oneCell, Bool.and_self, Jc]; first | done | omega)) only [↓Qa, ↓Qb, Qd, Qe, Qf, Qg, Qh, Qi, Qj, Qk, Ql, Qm, Qn, Qo, Qp, Qq, Qr, Qs, Qt, Qu, Qv, Qw, Qx, Qy, ptrTo, Qz, QA, QB, QC, QD, QE, QF, QG, QH, QI, QJ, QK, QL, QM, QN, QO, QP, QQ, QR, QS, QT, QU, QV, QW, QX, QY, QZ, Ja, Jb, Jc, Jd, Je, Jf, Jg, Jh, Ji, Jj, Jk, Jl, Jm, Jn, Jo, Jp, Jq, Jr, Js, Jt, Nat.reduceAdd]
  refine clone_sp (by omega) hv (by omega) fun u m2 e2 hu => ?_
  have n2 := e2.next
  have hv2 := hv.mono e2
  have q2' : m1.rd mA.next = some ⟨1, bl8.map (fun (g : Nat) => .int .u8 (g : Int)), none⟩ := (e1.kept _ lB).trans q2
  have l1' := Mem.rd_lt q2'
  try simp (disch := first | omega | with_unfolding_all exact id rfl | with_unfolding_all exact Nat.le_of_ble_eq_true rfl | (simp only [Jd, Je, Jr, Js, Jt, Nat.reduceAdd, allOne, oneCell, Bool.and_self, Jc]; first | done | omega)) only [hu.ln, ↓Qa, ↓Qb, Qd, Qe, Qf, Qg, Qh, Qi, Qj, Qk, Ql, Qm, Qn, Qo, Qp, Qq, Qr, Qs, Qt, Qu, Qv, Qw, Qx, Qy, ptrTo, Qz, QA, QB, QC, QD, QE, QF, QG, QH, QI, QJ, QK, QL, QM, QN, QO, QP, QQ, QR, QS, QT, QU, QV, QW, QX, QY, QZ, Ja, Jb, Jc, Jd, Je, Jf, Jg, Jh, Ji, Jj, Jk, Jl, Jm, Jn, Jo, Jp, Jq, Jr, Js, Jt, Nat.reduceAdd]
  refine loop_up w.length (fun i vs m' => vs = [.int .i64 (i : Int)] ∧ Gt m1 m' ∧ m2.next ≤ m'.next ∧ ∃ o : List Nat, o.Perm w ∧ GN m1.next m' u o) (by omega) ⟨rfl, e2, Nat.le_refl _, w, List.Perm.refl _, hu⟩ ?_
  rintro i vs m3 hi ⟨rfl, e3, n3, o, hpo, ho⟩ self hself
  have hol := hpo.length_eq
  have hoN : IN m3 u o := ho.inn
  have hco := ci_length o
  try simp (disch := first | omega | with_unfolding_all exact id rfl | with_unfolding_all exact Nat.le_of_ble_eq_true rfl | (simp only [Jd, Je, Jr, Js, Jt, Nat.reduceAdd, allOne, oneCell, Bool.and_self, Jc]; first | done | omega)) only [↓Qa, ↓Qb, Qd, Qe, Qf, Qg, Qh, Qi, Qj, Qk, Ql, Qm, Qn, Qo, Qp, Qq, Qr, Qs, Qt, Qu, Qv, Qw, Qx, Qy, ptrTo, Qz, QA, QB, QC, QD, QE, QF, QG, QH, QI, QJ, QK, QL, QM, QN, QO, QP, QQ, QR, QS, QT, QU, QV, QW, QX, QY, QZ, Ja, Jb, Jc, Jd, Je, Jf, Jg, Jh, Ji, Jj, Jk, Jl, Jm, Jn, Jo, Jp, Jq, Jr, Js, Jt, Nat.reduceAdd]
  refine oIf_dec (fun h => ?_) (fun h => ?_)
  · have hil : i < w.length := by omega
    have hi8 : i < bl8.length := by omega
    have hb8 := hg2 _ (List.getElem_mem hi8)
    have q3 : m3.rd mA.next = some ⟨1, bl8.map (fun (g : Nat) => .int .u8 (g : Int)), none⟩ := (e3.kept _ l1').trans q2'
    have hcell : (bl8.map (fun (g : Nat) => Value.int .u8 (g : Int)))[0 + i]? = some (.int .u8 (bl8[i] : Int)) := by
      rw [Nat.zero_add, List.getElem?_map, List.getElem?_eq_getElem hi8]; rfl
    rw [iaA_u (show i < 8 by omega), oOpt_e, ld1_u, q3, rdo_e, hcell, oOpt_e, oCv_nat (by omega), oInt_add ⟨by omega, by omega⟩, show (i : Int) + 1 = ((i + 1 : Nat) : Int) by omega, oInt_remN (by omega)]
    have hq := Nat.mod_lt bl8[i] (show 0 < i + 1 by omega)
    generalize bl8[i] % (i + 1) = q at hq ⊢
    have hqo : q < o.length := by omega
    have hio : i < o.length := by omega
    rw [hoN.ia hqo, oOpt_e, hoN.ld hqo, oOpt_e, hoN.ia hio, oOpt_e, hoN.ld hio, oOpt_e]
    obtain ⟨m4, s4, u4, e4, n4, k4⟩ := GL.set (L := L) (m0 := m1) ((o[q] : Nat) : Int) ho (i := i) (by omega) (by omega) e3 (Nat.le_refl _)
    rw [oOpt_e, s4, oRes_e]
    have hset : (ci o).set i ((o[q] : Nat) : Int) = ci (o.set i o[q]) := by unfold ci; rw [List.map_set]
    rw [hset] at u4
    have hl4 : (o.set i o[q]).length = o.length := List.length_set
    have u4N : IN m4 u (o.set i o[q]) := GN.inn u4
    obtain ⟨m5, s5, u5, e5, n5, k5⟩ := GL.set (L := L) (m0 := m1) ((o[i] : Nat) : Int) u4 (i := q) (by rw [ci_length]; omega) (by omega) e4 (Nat.le_refl _)
    rw [oOpt_e, s5, oRes_e, oInt_add ⟨by omega, by omega⟩]
    have hset2 : (ci (o.set i o[q])).set q ((o[i] : Nat) : Int) = ci ((o.set i o[q]).set q o[i]) := by unfold ci; rw [List.map_set, List.map_set, List.map_set]
    rw [hset2] at u5
    exact hself hil _ _ ⟨rfl, e5, by omega, _, (List.set_set_perm hio hqo).trans hpo, u5⟩
  · have e03 := e01.trans e3
    have hv3N : IN m3 v w := (hv.mono e3).inn
    have hov : ∀ x ∈ o, x < a := fun x hx => hw x (hpo.mem_iff.1 hx)
    have hok : chkD (a : Int) ((a : Int) - 1) (ci w) = 0 := chkD_nat ha1 ha8 hwl hw
    have hoko : chkD (a : Int) ((a : Int) - 1) (ci o) = 0 := chkD_nat ha1 ha8 (by omega) hov
    have hpk : pkX (a : Int) (ci w) = parkL a w := pkX_yes hok
    have hpko : pkX (a : Int) (ci o) = parkL a o := pkX_yes hoko
    have hway : wayX (a : Int) (ci w) = zsum wayF (parkL a w) w := by unfold wayX; rw [if_pos hok, hpk, nnl_ci]
    have hwayo : wayX (a : Int) (ci o) = zsum wayF (parkL a o) o := by unfold wayX; rw [if_pos hoko, hpko, nnl_ci]
    have hlk : lkX (a : Int) (ci w) = zsum luckF (parkL a w) w := by unfold lkX; rw [if_pos hok, hpk, nnl_ci]
    have hpl := parkL_len a w
    have hplo := parkL_len a o
    have hperm : (parkL a o).Perm (parkL a w) := parkL_perm hpo
    refine park_sp hlf (by omega) (hT.mono e03) hv3N (by omega) fun u5 m5 e5 hu5 => ?_
    rw [hok]; rw [hpk] at hu5
    have n5 := e5.next
    have e05 := e03.trans e5
    try simp (disch := first | omega | with_unfolding_all exact id rfl | with_unfolding_all exact Nat.le_of_ble_eq_true rfl | (simp only [Jd, Je, Jr, Js, Jt, Nat.reduceAdd, allOne, oneCell, Bool.and_self, Jc]; first | done | omega)) only [↓Qa, ↓Qb, Qd, Qe, Qf, Qg, Qh, Qi, Qj, Qk, Ql, Qm, Qn, Qo, Qp, Qq, Qr, Qs, Qt, Qu, Qv, Qw, Qx, Qy, ptrTo, Qz, QA, QB, QC, QD, QE, QF, QG, QH, QI, QJ, QK, QL, QM, QN, QO, QP, QQ, QR, QS, QT, QU, QV, QW, QX, QY, QZ, Ja, Jb, Jc, Jd, Je, Jf, Jg, Jh, Ji, Jj, Jk, Jl, Jm, Jn, Jo, Jp, Jq, Jr, Js, Jt, Nat.reduceAdd]
    refine park_sp hlf (by omega) (hT.mono e05) (show IL m5 u (ci o) from hoN.mono e5) (by omega) fun u6 m6 e6 hu6 => ?_
    rw [hoko]; rw [hpko] at hu6
    have n6 := e6.next
    have e06 := e05.trans e6
    try simp (disch := first | omega | with_unfolding_all exact id rfl | with_unfolding_all exact Nat.le_of_ble_eq_true rfl | (simp only [Jd, Je, Jr, Js, Jt, Nat.reduceAdd, allOne, oneCell, Bool.and_self, Jc]; first | done | omega)) only [↓Qa, ↓Qb, Qd, Qe, Qf, Qg, Qh, Qi, Qj, Qk, Ql, Qm, Qn, Qo, Qp, Qq, Qr, Qs, Qt, Qu, Qv, Qw, Qx, Qy, ptrTo, Qz, QA, QB, QC, QD, QE, QF, QG, QH, QI, QJ, QK, QL, QM, QN, QO, QP, QQ, QR, QS, QT, QU, QV, QW, QX, QY, QZ, Ja, Jb, Jc, Jd, Je, Jf, Jg, Jh, Ji, Jj, Jk, Jl, Jm, Jn, Jo, Jp, Jq, Jr, Js, Jt, Nat.reduceAdd]
    refine way_sp hlf (by omega) (hT.mono e06) (show IL m6 v (ci w) from hv3N.mono (e5.trans e6)) (by omega) fun m7 e7 => ?_
    rw [hok, hway]
    have n7 := e7.next
    have e07 := e06.trans e7
    try simp (disch := first | omega | with_unfolding_all exact id rfl | with_unfolding_all exact Nat.le_of_ble_eq_true rfl | (simp only [Jd, Je, Jr, Js, Jt, Nat.reduceAdd, allOne, oneCell, Bool.and_self, Jc]; first | done | omega)) only [↓Qa, ↓Qb, Qd, Qe, Qf, Qg, Qh, Qi, Qj, Qk, Ql, Qm, Qn, Qo, Qp, Qq, Qr, Qs, Qt, Qu, Qv, Qw, Qx, Qy, ptrTo, Qz, QA, QB, QC, QD, QE, QF, QG, QH, QI, QJ, QK, QL, QM, QN, QO, QP, QQ, QR, QS, QT, QU, QV, QW, QX, QY, QZ, Ja, Jb, Jc, Jd, Je, Jf, Jg, Jh, Ji, Jj, Jk, Jl, Jm, Jn, Jo, Jp, Jq, Jr, Js, Jt, Nat.reduceAdd]
    refine way_sp hlf (by omega) (hT.mono e07) (show IL m7 u (ci o) from hoN.mono ((e5.trans e6).trans e7)) (by omega) fun m8 e8 => ?_
    rw [hoko, hwayo]
    have n8 := e8.next
    have e08 := e07.trans e8
    try simp (disch := first | omega | with_unfolding_all exact id rfl | with_unfolding_all exact Nat.le_of_ble_eq_true rfl | (simp only [Jd, Je, Jr, Js, Jt, Nat.reduceAdd, allOne, oneCell, Bool.and_self, Jc]; first | done | omega)) only [↓Qa, ↓Qb, Qd, Qe, Qf, Qg, Qh, Qi, Qj, Qk, Ql, Qm, Qn, Qo, Qp, Qq, Qr, Qs, Qt, Qu, Qv, Qw, Qx, Qy, ptrTo, Qz, QA, QB, QC, QD, QE, QF, QG, QH, QI, QJ, QK, QL, QM, QN, QO, QP, QQ, QR, QS, QT, QU, QV, QW, QX, QY, QZ, Ja, Jb, Jc, Jd, Je, Jf, Jg, Jh, Ji, Jj, Jk, Jl, Jm, Jn, Jo, Jp, Jq, Jr, Js, Jt, Nat.reduceAdd]
    refine lucky_sp hlf (by omega) (hT.mono e08) (show IL m8 v (ci w) from hv3N.mono (((e5.trans e6).trans e7).trans e8)) (by omega) fun m9 e9 => ?_
    rw [hok, hlk]
    have n9 := e9.next
    have e09 := e08.trans e9
    have hu5i : IL m9 u5 (parkL a w) := hu5.il.mono (((e6.trans e7).trans e8).trans e9)
    have hu6i : IL m9 u6 (parkL a o) := hu6.il.mono ((e7.trans e8).trans e9)
    have hv9 : IN m9 v w := hv3N.mono ((((e5.trans e6).trans e7).trans e8).trans e9)
    have ho9 : IN m9 u o := hoN.mono ((((e5.trans e6).trans e7).trans e8).trans e9)
    try simp (disch := first | omega | with_unfolding_all exact id rfl | with_unfolding_all exact Nat.le_of_ble_eq_true rfl | (simp only [Jd, Je, Jr, Js, Jt, Nat.reduceAdd, allOne, oneCell, Bool.and_self, Jc]; first | done | omega)) only [↓Qa, ↓Qb, Qd, Qe, Qf, Qg, Qh, Qi, Qj, Qk, Ql, Qm, Qn, Qo, Qp, Qq, Qr, Qs, Qt, Qu, Qv, Qw, Qx, Qy, ptrTo, Qz, QA, QB, QC, QD, QE, QF, QG, QH, QI, QJ, QK, QL, QM, QN, QO, QP, QQ, QR, QS, QT, QU, QV, QW, QX, QY, QZ, Ja, Jb, Jc, Jd, Je, Jf, Jg, Jh, Ji, Jj, Jk, Jl, Jm, Jn, Jo, Jp, Jq, Jr, Js, Jt, Nat.reduceAdd]
    repeat (rw [join_e]; try simp (disch := first | omega | with_unfolding_all exact id rfl | with_unfolding_all exact Nat.le_of_ble_eq_true rfl | (simp only [Jd, Je, Jr, Js, Jt, Nat.reduceAdd, allOne, oneCell, Bool.and_self, Jc]; first | done | omega)) only [hu5i.ln, hu6i.ln, hv9.ln, ho9.ln, hpl, hplo, hol, ↓Qa, ↓Qb, Qd, Qe, Qf, Qg, Qh, Qi, Qj, Qk, Ql, Qm, Qn, Qo, Qp, Qq, Qr, Qs, Qt, Qu, Qv, Qw, Qx, Qy, ptrTo, Qz, QA, QB, QC, QD, QE, QF, QG, QH, QI, QJ, QK, QL, QM, QN, QO, QP, QQ, QR, QS, QT, QU, QV, QW, QX, QY, QZ, Ja, Jb, Jc, Jd, Je, Jf, Jg, Jh, Ji, Jj, Jk, Jl, Jm, Jn, Jo, Jp, Jq, Jr, Js, Jt, Nat.reduceAdd])
    have h64 := mul_le64 (a := a) (b := w.length) ha8 (by omega)
    refine loop_up w.length (fun i vs m' => vs = [.int .i64 (zsum wayF ((parkL a w).take i) (w.take i)), .int .i64 (zsum luckF ((parkL a w).take i) (w.take i)), .int .i64 (i : Int)] ∧ m' = m9) (by omega) ⟨rfl, rfl⟩ ?_
    rintro j vs m10 hj ⟨rfl, rfl⟩ self2 hself2
    try simp (disch := first | omega | with_unfolding_all exact id rfl | with_unfolding_all exact Nat.le_of_ble_eq_true rfl | (simp only [Jd, Je, Jr, Js, Jt, Nat.reduceAdd, allOne, oneCell, Bool.and_self, Jc]; first | done | omega)) only [↓Qa, ↓Qb, Qd, Qe, Qf, Qg, Qh, Qi, Qj, Qk, Ql, Qm, Qn, Qo, Qp, Qq, Qr, Qs, Qt, Qu, Qv, Qw, Qx, Qy, ptrTo, Qz, QA, QB, QC, QD, QE, QF, QG, QH, QI, QJ, QK, QL, QM, QN, QO, QP, QQ, QR, QS, QT, QU, QV, QW, QX, QY, QZ, Ja, Jb, Jc, Jd, Je, Jf, Jg, Jh, Ji, Jj, Jk, Jl, Jm, Jn, Jo, Jp, Jq, Jr, Js, Jt, Nat.reduceAdd]
    refine oIf_dec (fun h2 => ?_) (fun h2 => ?_)
    · have hjw : j < w.length := by omega
      obtain ⟨p, hp, hpb⟩ := parkL_bd (n := a) hjw
      have hpe : (parkL a w)[j]'(by omega) = p := by rw [List.getElem?_eq_getElem (by omega)] at hp; exact Option.some.inj hp
      have hwj := hw _ (List.getElem_mem hjw)
      have hb1 := zip_bd (w := w) (wayF_bd a) j
      have hb2 := zip_bd (w := w) (wayF_bd a) (j + 1)
      have hb3 := zip_bd (w := w) (luckF_bd ha1) j
      have hb4 := zip_bd (w := w) (luckF_bd ha1) (j + 1)
      rw [zsum_take (f := wayF) hp hjw] at hself2 hb2
      rw [zsum_take (f := luckF) hp hjw] at hself2 hb4
      unfold wayF at hself2 hb2
      unfold luckF at hself2 hb4
      rw [hu5i.ia (by omega), oOpt_e, hu5i.ld (by omega), oOpt_e, hpe]
      rw [oInt_lss, decide_eq_false (show ¬ p < (-(0 + 1) : Int) by omega)]
      try simp (disch := first | omega | with_unfolding_all exact id rfl | with_unfolding_all exact Nat.le_of_ble_eq_true rfl | (simp only [Jd, Je, Jr, Js, Jt, Nat.reduceAdd, allOne, oneCell, Bool.and_self, Jc]; first | done | omega)) only [↓Qa, ↓Qb, Qd, Qe, Qf, Qg, Qh, Qi, Qj, Qk, Ql, Qm, Qn, Qo, Qp, Qq, Qr, Qs, Qt, Qu, Qv, Qw, Qx, Qy, ptrTo, Qz, QA, QB, QC, QD, QE, QF, QG, QH, QI, QJ, QK, QL, QM, QN, QO, QP, QQ, QR, QS, QT, QU, QV, QW, QX, QY, QZ, Ja, Jb, Jc, Jd, Je, Jf, Jg, Jh, Ji, Jj, Jk, Jl, Jm, Jn, Jo, Jp, Jq, Jr, Js, Jt, Nat.reduceAdd]
      rw [join_e]
      try simp (disch := first | omega | with_unfolding_all exact id rfl | with_unfolding_all exact Nat.le_of_ble_eq_true rfl | (simp only [Jd, Je, Jr, Js, Jt, Nat.reduceAdd, allOne, oneCell, Bool.and_self, Jc]; first | done | omega)) only [↓Qa, ↓Qb, Qd, Qe, Qf, Qg, Qh, Qi, Qj, Qk, Ql, Qm, Qn, Qo, Qp, Qq, Qr, Qs, Qt, Qu, Qv, Qw, Qx, Qy, ptrTo, Qz, QA, QB, QC, QD, QE, QF, QG, QH, QI, QJ, QK, QL, QM, QN, QO, QP, QQ, QR, QS, QT, QU, QV, QW, QX, QY, QZ, Ja, Jb, Jc, Jd, Je, Jf, Jg, Jh, Ji, Jj, Jk, Jl, Jm, Jn, Jo, Jp, Jq, Jr, Js, Jt, Nat.reduceAdd]
      rw [decide_eq_false (show ¬ (a : Int) ≤ p by omega)]
      try simp (disch := first | omega | with_unfolding_all exact id rfl | with_unfolding_all exact Nat.le_of_ble_eq_true rfl | (simp only [Jd, Je, Jr, Js, Jt, Nat.reduceAdd, allOne, oneCell, Bool.and_self, Jc]; first | done | omega)) only [↓Qa, ↓Qb, Qd, Qe, Qf, Qg, Qh, Qi, Qj, Qk, Ql, Qm, Qn, Qo, Qp, Qq, Qr, Qs, Qt, Qu, Qv, Qw, Qx, Qy, ptrTo, Qz, QA, QB, QC, QD, QE, QF, QG, QH, QI, QJ, QK, QL, QM, QN, QO, QP, QQ, QR, QS, QT, QU, QV, QW, QX, QY, QZ, Ja, Jb, Jc, Jd, Je, Jf, Jg, Jh, Ji, Jj, Jk, Jl, Jm, Jn, Jo, Jp, Jq, Jr, Js, Jt, Nat.reduceAdd]
      rw [join_e]
      by_cases hp1 : p = -1
      · rw [if_pos hp1, if_neg (by omega)] at hself2
        rw [if_pos hp1] at hb2
        rw [if_neg (by omega)] at hb4
        try simp (disch := first | omega | with_unfolding_all exact id rfl | with_unfolding_all exact Nat.le_of_ble_eq_true rfl | (simp only [Jd, Je, Jr, Js, Jt, Nat.reduceAdd, allOne, oneCell, Bool.and_self, Jc]; first | done | omega)) only [decide_eq_false (show ¬ (0 : Int) ≤ p by omega), hv9.ia hjw, hv9.ld hjw, decide_eq_false (show ¬ p = ((w[j] : Nat) : Int) by omega), ↓Qa, ↓Qb, ↓Qc, Qd, Qe, Qf, Qg, Qh, Qi, Qj, Qk, Ql, Qm, Qn, Qo, Qp, Qq, Qr, Qs, Qt, Qu, Qv, Qw, Qx, Qy, ptrTo, Qz, QA, QB, QC, QD, QE, QF, QG, QH, QI, QJ, QK, QL, QM, QN, QO, QP, QQ, QR, QS, QT, QU, QV, QW, QX, QY, QZ, Ja, Jb, Jc, Jd, Je, Jf, Jg, Jh, Ji, Jj, Jk, Jl, Jm, Jn, Jo, Jp, Jq, Jr, Js, Jt, Nat.reduceAdd]
        rw [oInt_add ⟨by omega, by omega⟩]
        refine hself2 hjw _ _ ⟨?_, rfl⟩
        rw [Int.add_zero, Int.add_zero]; rfl
      · rw [if_neg hp1] at hself2 hb2
        try simp (disch := first | omega | with_unfolding_all exact id rfl | with_unfolding_all exact Nat.le_of_ble_eq_true rfl | (simp only [Jd, Je, Jr, Js, Jt, Nat.reduceAdd, allOne, oneCell, Bool.and_self, Jc]; first | done | omega)) only [decide_eq_true (show (0 : Int) ≤ p by omega), hv9.ia hjw, hv9.ld hjw, decide_eq_false (show ¬ p < ((w[j] : Nat) : Int) by omega), ↓Qa, ↓Qb, ↓Qc, Qd, Qe, Qf, Qg, Qh, Qi, Qj, Qk, Ql, Qm, Qn, Qo, Qp, Qq, Qr, Qs, Qt, Qu, Qv, Qw, Qx, Qy, ptrTo, Qz, QA, QB, QC, QD, QE, QF, QG, QH, QI, QJ, QK, QL, QM, QN, QO, QP, QQ, QR, QS, QT, QU, QV, QW, QX, QY, QZ, Ja, Jb, Jc, Jd, Je, Jf, Jg, Jh, Ji, Jj, Jk, Jl, Jm, Jn, Jo, Jp, Jq, Jr, Js, Jt, Nat.reduceAdd]
        rw [oInt_sub ⟨by omega, by omega⟩, oInt_add ⟨by omega, by omega⟩]
        try simp (disch := first | omega | with_unfolding_all exact id rfl | with_unfolding_all exact Nat.le_of_ble_eq_true rfl | (simp only [Jd, Je, Jr, Js, Jt, Nat.reduceAdd, allOne, oneCell, Bool.and_self, Jc]; first | done | omega)) only [hv9.ia hjw, hv9.ld hjw, ↓Qa, ↓Qb, ↓Qc, Qd, Qe, Qf, Qg, Qh, Qi, Qj, Qk, Ql, Qm, Qn, Qo, Qp, Qq, Qr, Qs, Qt, Qu, Qv, Qw, Qx, Qy, ptrTo, Qz, QA, QB, QC, QD, QE, QF, QG, QH, QI, QJ, QK, QL, QM, QN, QO, QP, QQ, QR, QS, QT, QU, QV, QW, QX, QY, QZ, Ja, Jb, Jc, Jd, Je, Jf, Jg, Jh, Ji, Jj, Jk, Jl, Jm, Jn, Jo, Jp, Jq, Jr, Js, Jt, Nat.reduceAdd]
        refine oIf_dec (fun h3 => ?_) (fun h3 => ?_)
        · rw [if_pos h3] at hself2 hb4
          rw [oInt_add ⟨by omega, by omega⟩, oInt_add ⟨by omega, by omega⟩]
          exact hself2 hjw _ _ ⟨rfl, rfl⟩
        · rw [if_neg h3] at hself2
          rw [oInt_add ⟨by omega, by omega⟩]
          refine hself2 hjw _ _ ⟨?_, rfl⟩
          rw [Int.add_zero]; rfl
    · have hjw : j = w.length := by omega
      subst hjw
      rw [List.take_of_length_le (by rw [parkL_len]; omega), List.take_length]
      have hy0 := (zip_bd (a := a) (w := o) (wayF_bd a) o.length).1
      rw [List.take_of_length_le (by rw [parkL_len]; omega), List.take_length] at hy0
      have hpermways : (-1 : Int) ∉ parkL a w → zsum wayF (parkL a w) w = zsum wayF (parkL a o) o := fun hn => ways_perm hpo.symm hn
      generalize zsum wayF (parkL a w) w = x at hpermways ⊢
      generalize zsum wayF (parkL a o) o = y at hy0 hpermways ⊢
      try simp (disch := first | omega | with_unfolding_all exact id rfl | with_unfolding_all exact Nat.le_of_ble_eq_true rfl | (simp only [Jd, Je, Jr, Js, Jt, Nat.reduceAdd, allOne, oneCell, Bool.and_self, Jc]; first | done | omega)) only [↓Qa, ↓Qb, Qd, Qe, Qf, Qg, Qh, Qi, Qj, Qk, Ql, Qm, Qn, Qo, Qp, Qq, Qr, Qs, Qt, Qu, Qv, Qw, Qx, Qy, ptrTo, Qz, QA, QB, QC, QD, QE, QF, QG, QH, QI, QJ, QK, QL, QM, QN, QO, QP, QQ, QR, QS, QT, QU, QV, QW, QX, QY, QZ, Ja, Jb, Jc, Jd, Je, Jf, Jg, Jh, Ji, Jj, Jk, Jl, Jm, Jn, Jo, Jp, Jq, Jr, Js, Jt, Nat.reduceAdd]
      repeat (rw [join_e]; try simp (disch := first | omega | with_unfolding_all exact id rfl | with_unfolding_all exact Nat.le_of_ble_eq_true rfl | (simp only [Jd, Je, Jr, Js, Jt, Nat.reduceAdd, allOne, oneCell, Bool.and_self, Jc]; first | done | omega)) only [decide_eq_false (show ¬ y < 0 by omega), ↓Qa, ↓Qb, Qd, Qe, Qf, Qg, Qh, Qi, Qj, Qk, Ql, Qm, Qn, Qo, Qp, Qq, Qr, Qs, Qt, Qu, Qv, Qw, Qx, Qy, ptrTo, Qz, QA, QB, QC, QD, QE, QF, QG, QH, QI, QJ, QK, QL, QM, QN, QO, QP, QQ, QR, QS, QT, QU, QV, QW, QX, QY, QZ, Ja, Jb, Jc, Jd, Je, Jf, Jg, Jh, Ji, Jj, Jk, Jl, Jm, Jn, Jo, Jp, Jq, Jr, Js, Jt, Nat.reduceAdd])
      obtain ⟨p5, c5, hx5⟩ := hu5i.ex
      obtain ⟨p6, c6, hx6⟩ := hu6i.ex
      rw [r52]; dsimp only [S52, iofNat, inegSucc]
      have hab : abox m10 u5 = some (ptrTo m10.next, m10.push ⟨1, [u5], none⟩) := by rw [hx5]; exact abox_e _ _
      rw [uc_e, un0_e, hab, oRes_e]
      have eA := Mem.gt_push m10 ⟨1, [u5], none⟩
      have qA : (m10.push ⟨1, [u5], none⟩).rd m10.next = some ⟨1, [u5], none⟩ := Mem.rd_push _ _
      generalize m10.push ⟨1, [u5], none⟩ = mC at eA qA ⊢
      have nC := eA.next
      refine sorted_sp hlf (by omega) qA (hu5i.mono eA) (by omega) fun s1 m11 e11 hs1 => ?_
      have n11 := e11.next
      have eA11 := eA.trans e11
      have hab2 : abox m11 u6 = some (ptrTo m11.next, m11.push ⟨1, [u6], none⟩) := by rw [hx6]; exact abox_e _ _
      rw [uc_e, un0_e, hab2, oRes_e]
      have eB := Mem.gt_push m11 ⟨1, [u6], none⟩
      have qB : (m11.push ⟨1, [u6], none⟩).rd m11.next = some ⟨1, [u6], none⟩ := Mem.rd_push _ _
      generalize m11.push ⟨1, [u6], none⟩ = mD at eB qB ⊢
      have nD := eB.next
      refine sorted_sp hlf (by omega) qB (hu6i.mono (eA11.trans eB)) (by omega) fun s2 m12 e12 hs2 => ?_
      have n12 := e12.next
      have e1012 := (eA11.trans eB).trans e12
      have e0f := e09.trans e1012
      rw [isortI_perm_eq hperm] at hs2
      refine same_sp hlf (hs1.il.mono (eB.trans e12)) hs2.il (by rw [isortI_length]; omega) ?_
      rw [decide_eq_true rfl]
      try simp (disch := first | omega | with_unfolding_all exact id rfl | with_unfolding_all exact Nat.le_of_ble_eq_true rfl | (simp only [Jd, Je, Jr, Js, Jt, Nat.reduceAdd, allOne, oneCell, Bool.and_self, Jc]; first | done | omega)) only [↓Qa, ↓Qb, Qd, Qe, Qf, Qg, Qh, Qi, Qj, Qk, Ql, Qm, Qn, Qo, Qp, Qq, Qr, Qs, Qt, Qu, Qv, Qw, Qx, Qy, ptrTo, Qz, QA, QB, QC, QD, QE, QF, QG, QH, QI, QJ, QK, QL, QM, QN, QO, QP, QQ, QR, QS, QT, QU, QV, QW, QX, QY, QZ, Ja, Jb, Jc, Jd, Je, Jf, Jg, Jh, Ji, Jj, Jk, Jl, Jm, Jn, Jo, Jp, Jq, Jr, Js, Jt, Nat.reduceAdd]
      rw [join_e]
      try simp (disch := first | omega | with_unfolding_all exact id rfl | with_unfolding_all exact Nat.le_of_ble_eq_true rfl | (simp only [Jd, Je, Jr, Js, Jt, Nat.reduceAdd, allOne, oneCell, Bool.and_self, Jc]; first | done | omega)) only [↓Qa, ↓Qb, Qd, Qe, Qf, Qg, Qh, Qi, Qj, Qk, Ql, Qm, Qn, Qo, Qp, Qq, Qr, Qs, Qt, Qu, Qv, Qw, Qx, Qy, ptrTo, Qz, QA, QB, QC, QD, QE, QF, QG, QH, QI, QJ, QK, QL, QM, QN, QO, QP, QQ, QR, QS, QT, QU, QV, QW, QX, QY, QZ, Ja, Jb, Jc, Jd, Je, Jf, Jg, Jh, Ji, Jj, Jk, Jl, Jm, Jn, Jo, Jp, Jq, Jr, Js, Jt, Nat.reduceAdd]
      rw [show (-(0 + 1) : Int) = -1 from rfl]
      refine contains_sp hlf (hu5i.mono e1012) (by omega) ?_
      by_cases hin : (-1 : Int) ∈ parkL a w
      · rw [decide_eq_true hin]
        try simp (disch := first | omega | with_unfolding_all exact id rfl | with_unfolding_all exact Nat.le_of_ble_eq_true rfl | (simp only [Jd, Je, Jr, Js, Jt, Nat.reduceAdd, allOne, oneCell, Bool.and_self, Jc]; first | done | omega)) only [↓Qa, ↓Qb, Qd, Qe, Qf, Qg, Qh, Qi, Qj, Qk, Ql, Qm, Qn, Qo, Qp, Qq, Qr, Qs, Qt, Qu, Qv, Qw, Qx, Qy, ptrTo, Qz, QA, QB, QC, QD, QE, QF, QG, QH, QI, QJ, QK, QL, QM, QN, QO, QP, QQ, QR, QS, QT, QU, QV, QW, QX, QY, QZ, Ja, Jb, Jc, Jd, Je, Jf, Jg, Jh, Ji, Jj, Jk, Jl, Jm, Jn, Jo, Jp, Jq, Jr, Js, Jt, Nat.reduceAdd]
        repeat (rw [join_e]; try simp (disch := first | omega | with_unfolding_all exact id rfl | with_unfolding_all exact Nat.le_of_ble_eq_true rfl | (simp only [Jd, Je, Jr, Js, Jt, Nat.reduceAdd, allOne, oneCell, Bool.and_self, Jc]; first | done | omega)) only [↓Qa, ↓Qb, Qd, Qe, Qf, Qg, Qh, Qi, Qj, Qk, Ql, Qm, Qn, Qo, Qp, Qq, Qr, Qs, Qt, Qu, Qv, Qw, Qx, Qy, ptrTo, Qz, QA, QB, QC, QD, QE, QF, QG, QH, QI, QJ, QK, QL, QM, QN, QO, QP, QQ, QR, QS, QT, QU, QV, QW, QX, QY, QZ, Ja, Jb, Jc, Jd, Je, Jf, Jg, Jh, Ji, Jj, Jk, Jl, Jm, Jn, Jo, Jp, Jq, Jr, Js, Jt, Nat.reduceAdd])
        rw [r15]
        exact SClosed_sp (cK := runT (tab lf) (n + 9)) (L := L) (hT.mono e0f) (hk _ e0f)
      · rw [decide_eq_false hin, hpermways hin]
        try simp (disch := first | omega | with_unfolding_all exact id rfl | with_unfolding_all exact Nat.le_of_ble_eq_true rfl | (simp only [Jd, Je, Jr, Js, Jt, Nat.reduceAdd, allOne, oneCell, Bool.and_self, Jc]; first | done | omega)) only [↓Qa, ↓Qb, Qd, Qe, Qf, Qg, Qh, Qi, Qj, Qk, Ql, Qm, Qn, Qo, Qp, Qq, Qr, Qs, Qt, Qu, Qv, Qw, Qx, Qy, ptrTo, Qz, QA, QB, QC, QD, QE, QF, QG, QH, QI, QJ, QK, QL, QM, QN, QO, QP, QQ, QR, QS, QT, QU, QV, QW, QX, QY, QZ, Ja, Jb, Jc, Jd, Je, Jf, Jg, Jh, Ji, Jj, Jk, Jl, Jm, Jn, Jo, Jp, Jq, Jr, Js, Jt, Nat.reduceAdd]
        repeat (rw [join_e]; try simp (disch := first | omega | with_unfolding_all exact id rfl | with_unfolding_all exact Nat.le_of_ble_eq_true rfl | (simp only [Jd, Je, Jr, Js, Jt, Nat.reduceAdd, allOne, oneCell, Bool.and_self, Jc]; first | done | omega)) only [↓Qa, ↓Qb, Qd, Qe, Qf, Qg, Qh, Qi, Qj, Qk, Ql, Qm, Qn, Qo, Qp, Qq, Qr, Qs, Qt, Qu, Qv, Qw, Qx, Qy, ptrTo, Qz, QA, QB, QC, QD, QE, QF, QG, QH, QI, QJ, QK, QL, QM, QN, QO, QP, QQ, QR, QS, QT, QU, QV, QW, QX, QY, QZ, Ja, Jb, Jc, Jd, Je, Jf, Jg, Jh, Ji, Jj, Jk, Jl, Jm, Jn, Jo, Jp, Jq, Jr, Js, Jt, Nat.reduceAdd])
        rw [r15]
        exact SClosed_sp (cK := runT (tab lf) (n + 9)) (L := L) (hT.mono e0f) (hk _ e0f)
end
end Go.Vit
