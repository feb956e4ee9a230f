/- Walks: rules and plans by numbers. -/
import Derived.Test.YticlkfhmmcepjaaDoorW10
import Derived.Test.YticlkfhmmcepjaaDoorM1
import Derived.Test.YticlkfhmmcepjaaDoorCoreD
set_option linter.unusedSimpArgs false
set_option linter.unusedVariables false
set_option maxRecDepth 20000
namespace Go.Vit
open Go Go.Proofs
attribute [local irreducible] runT loopS
theorem bu26 (a : Int) (p : Option Addr) (i c : Nat) : bu Tryd.prog 26 [(0, .int .i64 a), (1, .slice p i c)] = some (.agg ⟨[.int .i64 a, .slice p i c]⟩) := by kernel_rfl
theorem bs220 (m : Mem) : bs Tryd.prog m 22 0 [] = some (slTo0 0 m.next, m.push ⟨1, [], none⟩) := (show _ = anew m 1 [] (slTo0 0) by kernel_rfl).trans (anew_eq ..)
theorem app_e0 {L : Nat} {m : Mem} {b : Nat} {v : Value} {l : List Int} (hb : m.rd b = some ⟨1, [], none⟩) (hv : IL m v l) (h0 : 0 < l.length) (hl : l.length < 1000000) :
    aappend Tryd.prog L m 22 (slTo0 0 b) v = some (slTo l.length m.next, m.push ⟨1, l.map (Value.int .i64), none⟩) := by
  obtain ⟨j, hl0⟩ : ∃ j, l.length = j + 1 := ⟨l.length - 1, by omega⟩
  have h1 : Sl 1 m v l.length (l.map (Value.int .i64)) := hv
  have hr := roomy_of (n := l.length) (y := 8) (by omega) (by omega)
  unfold aappend slTo0
  rw [ael22]
  rw [hl0] at h1 hr ⊢
  simp only [h1.1, natK_eq]
  have hrd : rdc m b 0 (Nat.mul 0 1) = some [] := rdc_e (s := 1) hb (by decide)
  have hn0 : Nat.add 0 (Nat.succ j) = j + 1 := Nat.zero_add _
  simp only [hn0, hr, hrd, hb, Nat.ble_eq_true_of_le (Nat.le_refl 0), List.nil_append, anew_eq]
  rfl
theorem gl_new {m : Mem} {l : List Int} (h0 : 0 < l.length) {L : Nat} (hL : L ≤ m.next) : GL L (m.push ⟨1, l.map (Value.int .i64), none⟩) (slTo l.length m.next) l :=
  .inr ⟨m.next, hL, rfl, Mem.rd_push m _, by simp, h0⟩
theorem u48 : Tryd.prog.underlying 48 = some (.array 8 5) := by kernel_rfl
theorem ts5 : tsize Tryd.prog 5 = some 1 := by kernel_rfl
theorem sl48 {b o q : Nat} (hq : q ≤ 8) : sl Tryd.prog 48 (.pointer (some ⟨b, o, none⟩)) none (some (.int .i64 (q : Int))) none = some (.slice (some ⟨b, o, some 0⟩) q 8) := by
  unfold sl aslice
  rw [u48]
  simp only [ts5, Option.map_some, Option.map_none]
  have h1 : abound (tri none (some (.int .i64 (q : Int))) none) (some (.tmp 1)) 8 = some q := by
    show anat (.int .i64 (Int.ofNat q)) = _
    simp only [anat, natK_eq]
  have h2 : abounds (tri none (some (.int .i64 (q : Int))) none) 8 8 none (some (.tmp 1)) none = some (0, q, 8) := by
    unfold abounds
    simp only [abound_none, h1, ble_t hq, ble_t (Nat.zero_le q), ble_t (Nat.le_refl 8), Bool.and_self]
  simp only [h2]
  rfl
/-- A seal by its numbers. -/
def sealV (a0 a1 : Nat) (gl : List Nat) : Value := .agg ⟨.int .u8 (a0 : Int) :: .int .u8 (a1 : Int) :: gl.map fun (g : Nat) => .int .u8 (g : Int)⟩
def madeL (a0 a1 : Nat) (gl : List Nat) (most : Nat) : List Nat := (gl.take (a1 % 9)).map fun g => g % 2 ^ (1 + a0 % most)
section
variable {lf n L : Nat} {m : Mem} {k : Value → Mem → Option Unit}
theorem rule_sp {h : Int} {v : Value} {l : List Int} (hL : L ≤ m.next) (hv : IL m v l) (hk : ∀ m', Gt m m' → k (Vit.hg h v) m' = some ()) : runT (tab lf) (n + 1) 26 [.int .i64 h, v] L m k = some () := by
  rw [r26]
  dsimp only [S26, iofNat, inegSucc]
  obtain ⟨p, c, rfl⟩ := hv.ex
  try simp (disch := first | omega | with_unfolding_all exact id rfl | with_unfolding_all exact Nat.le_of_ble_eq_true rfl | (simp only [Jd, Je, Jr, Js, Jt, Nat.reduceAdd, allOne, oneCell, Bool.and_self, Jc]; first | done | omega)) only [bu24, ↓Qa, ↓Qb, ↓Qc, Qd, Qe, Qf, Qg, Qh, Qi, Qj, Qk, Ql, Qm, Qn, Qo, Qp, Qq, Qr, Qs, Qt, Qu, Qv, Qw, Qx, Qy, ptrTo, Qz, QA, QB, QC, QD, QE, QF, QG, QH, QI, QJ, QK, QL, QM, QN, QO, QP, QQ, QR, QS, QT, QU, QV, QW, QX, QY, QZ, Ja, Jb, Jc, Jd, Je, Jf, Jg, Jh, Ji, Jj, Jk, Jl, Jm, Jn, Jo, Jp, Jq, Jr, Js, Jt, Nat.reduceAdd]
  exact hk _ (Mem.put_gt (Mem.gt_push _ _) _ (Nat.le_refl _))
theorem plan_sp {h : Int} {v : Value} {l : List Int} (hL : L ≤ m.next) (hv : IL m v l) (hk : ∀ m', Gt m m' → k (Vit.hg h v) m' = some ()) : runT (tab lf) (n + 1) 30 [.int .i64 h, v] L m k = some () := by
  rw [r30]
  dsimp only [S30, iofNat, inegSucc]
  obtain ⟨p, c, rfl⟩ := hv.ex
  try simp (disch := first | omega | with_unfolding_all exact id rfl | with_unfolding_all exact Nat.le_of_ble_eq_true rfl | (simp only [Jd, Je, Jr, Js, Jt, Nat.reduceAdd, allOne, oneCell, Bool.and_self, Jc]; first | done | omega)) only [bu26, ↓Qa, ↓Qb, ↓Qc, Qd, Qe, Qf, Qg, Qh, Qi, Qj, Qk, Ql, Qm, Qn, Qo, Qp, Qq, Qr, Qs, Qt, Qu, Qv, Qw, Qx, Qy, ptrTo, Qz, QA, QB, QC, QD, QE, QF, QG, QH, QI, QJ, QK, QL, QM, QN, QO, QP, QQ, QR, QS, QT, QU, QV, QW, QX, QY, QZ, Ja, Jb, Jc, Jd, Je, Jf, Jg, Jh, Ji, Jj, Jk, Jl, Jm, Jn, Jo, Jp, Jq, Jr, Js, Jt, Nat.reduceAdd]
  exact hk _ (Mem.put_gt (Mem.gt_push _ _) _ (Nat.le_refl _))
theorem clone_sp {L0 : Nat} {v : Value} {l : List Nat} (hL : L ≤ m.next) (hv : GN L0 m v l) (hl : l.length < 1000000) (hk : ∀ u m', Gt m m' → GN m.next m' u l → k u m' = some ()) : runT (tab lf) (n + 1) 58 [v] L m k = some () := by
  rw [r58]
  dsimp only [S58, iofNat, inegSucc]
  rcases hv.isNil with ⟨rfl, rfl⟩ | ⟨q, i, c, rfl, hne⟩
  · try simp (disch := first | omega | with_unfolding_all exact id rfl | with_unfolding_all exact Nat.le_of_ble_eq_true rfl | (simp only [Jd, Je, Jr, Js, Jt, Nat.reduceAdd, allOne, oneCell, Bool.and_self, Jc]; first | done | omega)) only [abin_snil, Option.isNone_none, ↓Qa, ↓Qb, ↓Qc, Qd, Qe, Qf, Qg, Qh, Qi, Qj, Qk, Ql, Qm, Qn, Qo, Qp, Qq, Qr, Qs, Qt, Qu, Qv, Qw, Qx, Qy, ptrTo, Qz, QA, QB, QC, QD, QE, QF, QG, QH, QI, QJ, QK, QL, QM, QN, QO, QP, QQ, QR, QS, QT, QU, QV, QW, QX, QY, QZ, Ja, Jb, Jc, Jd, Je, Jf, Jg, Jh, Ji, Jj, Jk, Jl, Jm, Jn, Jo, Jp, Jq, Jr, Js, Jt, Nat.reduceAdd]
    exact hk _ m (Gt.refl _) (GN.nil _ _)
  · have hpos : 0 < l.length := List.length_pos_iff.2 hne
    try simp (disch := first | omega | with_unfolding_all exact id rfl | with_unfolding_all exact Nat.le_of_ble_eq_true rfl | (simp only [Jd, Je, Jr, Js, Jt, Nat.reduceAdd, allOne, oneCell, Bool.and_self, Jc]; first | done | omega)) only [abin_snil, Option.isNone_some, bs220, ↓Qa, ↓Qb, ↓Qc, Qd, Qe, Qf, Qg, Qh, Qi, Qj, Qk, Ql, Qm, Qn, Qo, Qp, Qq, Qr, Qs, Qt, Qu, Qv, Qw, Qx, Qy, ptrTo, Qz, QA, QB, QC, QD, QE, QF, QG, QH, QI, QJ, QK, QL, QM, QN, QO, QP, QQ, QR, QS, QT, QU, QV, QW, QX, QY, QZ, Ja, Jb, Jc, Jd, Je, Jf, Jg, Jh, Ji, Jj, Jk, Jl, Jm, Jn, Jo, Jp, Jq, Jr, Js, Jt, Nat.reduceAdd]
    have g1 := Mem.gt_push m ⟨1, [], none⟩
    have hx : IN (m.push ⟨1, [], none⟩) (.slice (some q) i c) l := (hv.mono g1).inn
    have hx' : IL (m.push ⟨1, [], none⟩) (.slice (some q) i c) (ci l) := hx
    have hcl : (ci l).length = l.length := ci_length l
    rw [app_e0 (L := L) (Mem.rd_push m ⟨1, [], none⟩) hx' (by omega) (by omega), oRes_e]
    have hgn : GL m.next ((m.push ⟨1, [], none⟩).push ⟨1, (ci l).map (Value.int .i64), none⟩) (slTo (ci l).length (m.push ⟨1, [], none⟩).next) (ci l) := gl_new (by omega) (by rw [Mem.push_next]; omega)
    exact hk _ _ (g1.trans (Mem.gt_push _ _)) hgn
theorem made_sp {a0 a1 most : Nat} {gl : List Nat} (hlf : 1000000 ≤ lf) (hL : L ≤ m.next) (h0 : a0 < 256) (h1 : a1 < 256) (hlen : gl.length = 8) (hg : ∀ g ∈ gl, g < 256) (hm : most = 3 ∨ most = 6)
    (hk : ∀ u m', Gt m m' → GN m.next m' u (madeL a0 a1 gl most) → k (.tuple ⟨[.int .i64 ((1 + a0 % most : Nat) : Int), u]⟩) m' = some ()) : runT (tab lf) (n + 1) 25 [sealV a0 a1 gl, .int .i64 (most : Int)] L m k = some () := by
  rw [r25]
  dsimp only [S25, iofNat, inegSucc]
  unfold sealV
  have hb : At (m.push ⟨1, .int .u8 (a0 : Int) :: .int .u8 (a1 : Int) :: gl.map (fun (g : Nat) => .int .u8 (g : Int)), none⟩) m.next _ := At.push m _
  have g1 := Mem.gt_push m ⟨1, .int .u8 (a0 : Int) :: .int .u8 (a1 : Int) :: gl.map (fun (g : Nat) => .int .u8 (g : Int)), none⟩
  try simp (disch := first | omega | with_unfolding_all exact id rfl | with_unfolding_all exact Nat.le_of_ble_eq_true rfl | (simp only [Jd, Je, Jr, Js, Jt, Nat.reduceAdd, allOne, oneCell, Bool.and_self, Jc]; first | done | omega)) only [↓Qa, ↓Qb, ↓Qc, Qd, Qe, Qf, Qg, Qh, Qi, Qj, Qk, Ql, Qm, Qn, Qo, Qp, Qq, Qr, Qs, Qt, Qu, Qv, Qw, Qx, Qy, ptrTo, Qz, QA, QB, QC, QD, QE, QF, QG, QH, QI, QJ, QK, QL, QM, QN, QO, QP, QQ, QR, QS, QT, QU, QV, QW, QX, QY, QZ, Ja, Jb, Jc, Jd, Je, Jf, Jg, Jh, Ji, Jj, Jk, Jl, Jm, Jn, Jo, Jp, Jq, Jr, Js, Jt, Nat.reduceAdd]
  generalize m.push ⟨1, .int .u8 (a0 : Int) :: .int .u8 (a1 : Int) :: gl.map (fun (g : Nat) => .int .u8 (g : Int)), none⟩ = m1 at hb g1 ⊢
  have g1n := g1.next
  have hmp : 0 < most := by omega
  have hn6 : 1 + a0 % most ≤ 6 := by have := Nat.mod_lt a0 hmp; omega
  rw [oCv_nat (by omega), oInt_remN hmp, oInt_add ⟨by omega, by omega⟩]
  try simp (disch := first | omega | with_unfolding_all exact id rfl | with_unfolding_all exact Nat.le_of_ble_eq_true rfl | (simp only [Jd, Je, Jr, Js, Jt, Nat.reduceAdd, allOne, oneCell, Bool.and_self, Jc]; first | done | omega)) only [hb.rd, ↓Qa, ↓Qb, ↓Qc, Qd, Qe, Qf, Qg, Qh, Qi, Qj, Qk, Ql, Qm, Qn, Qo, Qp, Qq, Qr, Qs, Qt, Qu, Qv, Qw, Qx, Qy, ptrTo, Qz, QA, QB, QC, QD, QE, QF, QG, QH, QI, QJ, QK, QL, QM, QN, QO, QP, QQ, QR, QS, QT, QU, QV, QW, QX, QY, QZ, Ja, Jb, Jc, Jd, Je, Jf, Jg, Jh, Ji, Jj, Jk, Jl, Jm, Jn, Jo, Jp, Jq, Jr, Js, Jt, Nat.reduceAdd]
  rw [oCv_nat (by omega), show (9 : Int) = ((9 : Nat) : Int) from rfl, oInt_remN (by omega), sl48 (by have := Nat.mod_lt a1 (show 0 < 9 by omega); omega), oOpt_e]
  have hq : a1 % 9 ≤ 8 := by have := Nat.mod_lt a1 (show 0 < 9 by omega); omega
  have hnc : (1 : Int) + ((a0 % most : Nat) : Int) = ((1 + a0 % most : Nat) : Int) := by omega
  rw [hnc]
  have hlist : madeL a0 a1 gl most = (gl.take (a1 % 9)).map fun g => g % 2 ^ (1 + a0 % most) := rfl
  rw [hlist] at hk
  generalize a1 % 9 = q at hq hk ⊢
  generalize 1 + a0 % most = nn1 at hn6 hk ⊢
  have hp := pow_le64 hn6
  try simp (disch := first | omega | with_unfolding_all exact id rfl | with_unfolding_all exact Nat.le_of_ble_eq_true rfl | (simp only [Jd, Je, Jr, Js, Jt, Nat.reduceAdd, allOne, oneCell, Bool.and_self, Jc]; first | done | omega)) only [ln_e, ↓Qa, ↓Qb, ↓Qc, Qd, Qe, Qf, Qg, Qh, Qi, Qj, Qk, Ql, Qm, Qn, Qo, Qp, Qq, Qr, Qs, Qt, Qu, Qv, Qw, Qx, Qy, ptrTo, Qz, QA, QB, QC, QD, QE, QF, QG, QH, QI, QJ, QK, QL, QM, QN, QO, QP, QQ, QR, QS, QT, QU, QV, QW, QX, QY, QZ, Ja, Jb, Jc, Jd, Je, Jf, Jg, Jh, Ji, Jj, Jk, Jl, Jm, Jn, Jo, Jp, Jq, Jr, Js, Jt, Nat.reduceAdd]
  refine loop_up q (fun i vs m' => ∃ x, vs = [x, .int .i64 (i : Int)] ∧ Gt m1 m' ∧ GN m1.next m' x ((gl.take i).map fun g => g % 2 ^ nn1)) (by omega) ⟨_, rfl, Gt.refl _, GN.nil _ _⟩ ?_
  rintro i vs m2 hi ⟨x, rfl, e2, hx⟩ self hself
  have hb2 := hb.mono e2
  have e2n := e2.next
  try simp (disch := first | omega | with_unfolding_all exact id rfl | with_unfolding_all exact Nat.le_of_ble_eq_true rfl | (simp only [Jd, Je, Jr, Js, Jt, Nat.reduceAdd, allOne, oneCell, Bool.and_self, Jc]; first | done | omega)) only [↓Qa, ↓Qb, ↓Qc, Qd, Qe, Qf, Qg, Qh, Qi, Qj, Qk, Ql, Qm, Qn, Qo, Qp, Qq, Qr, Qs, Qt, Qu, Qv, Qw, Qx, Qy, ptrTo, Qz, QA, QB, QC, QD, QE, QF, QG, QH, QI, QJ, QK, QL, QM, QN, QO, QP, QQ, QR, QS, QT, QU, QV, QW, QX, QY, QZ, Ja, Jb, Jc, Jd, Je, Jf, Jg, Jh, Ji, Jj, Jk, Jl, Jm, Jn, Jo, Jp, Jq, Jr, Js, Jt, Nat.reduceAdd]
  refine oIf_dec (fun h2 => ?_) (fun h2 => ?_)
  · have h3 : i < q := by omega
    have h4 : i < gl.length := by omega
    have h5 := hg _ (List.getElem_mem h4)
    have hcell : (.int .u8 (a0 : Int) :: .int .u8 (a1 : Int) :: gl.map (fun (g : Nat) => Value.int .u8 (g : Int)))[0 + 2 + i * 1]? = some (.int .u8 (gl[i] : Int)) := by
      rw [show 0 + 2 + i * 1 = i + 1 + 1 by omega, List.getElem?_cons_succ, List.getElem?_cons_succ, List.getElem?_map, List.getElem?_eq_getElem h4]; rfl
    rw [ia_e (sz := 1) h3, oOpt_e, ld1_u, hb2.rd, rdo_e, hcell, oOpt_e, oCv_nat (by omega), shl1 hn6, oOpt_e, oInt_remN (by have := Nat.two_pow_pos nn1; omega)]
    obtain ⟨x2, m3, h8, h9, e7, h10⟩ := GN.snoc (P := Tryd.prog) (t := 22) (L := L) (m0 := m1) (gl[i] % 2 ^ nn1) ael22 (by omega) hx (by rw [List.length_map, List.length_take]; omega) (by omega) e2 (Nat.le_refl _)
    rw [bs22, oRes_e, h8, oRes_e, oInt_add ⟨by omega, by omega⟩]
    refine hself h3 _ _ ⟨x2, rfl, e7, ?_⟩
    rw [List.take_add_one, List.getElem?_eq_getElem h4, Option.toList_some, List.map_append]
    exact h9.le e2n
  · have : i = q := by omega
    subst this
    exact hk x m2 (g1.trans e2) (hx.le g1n)
end
end Go.Vit
