/- Walks: plans are made, made thin; any so many. -/
import Derived.Test.YticlkfhmmcepjaaDoorM0
set_option linter.unusedSimpArgs false
set_option linter.unusedVariables false
set_option maxRecDepth 20000
namespace Go.Vit
open Go Go.Proofs
attribute [local irreducible] runT loopS
theorem bu260 : bu Tryd.prog 26 [] = some (.agg ⟨[.int .i64 0, .slice none 0 0]⟩) := by kernel_rfl
theorem bu240 : bu Tryd.prog 24 [] = some (.agg ⟨[.int .i64 0, .slice none 0 0]⟩) := by kernel_rfl
theorem bu241 (a : Int) : bu Tryd.prog 24 [(0, .int .i64 a)] = some (.agg ⟨[.int .i64 a, .slice none 0 0]⟩) := by kernel_rfl
/-- How many members. -/
def pop (x : Nat) : Nat := ((List.range 6).filter fun i => x.testBit i).length
def sh (z : Int) (c : Nat) : Int := ashr z (nmin c (bitsN .u64))
def an (a b : Int) : Int := abits .and .u64 a b
def ad (a b : Int) : Int := fwrap .u64 (Int.add a b)
def p1 (x : Nat) : Int := ad (an (sh (x : Int) 1) 6148914691236517205) (an (x : Int) 6148914691236517205)
def p2 (x : Nat) : Int := ad (an (sh (p1 x) 2) 3689348814741910323) (an (p1 x) 3689348814741910323)
def p3 (x : Nat) : Int := an (ad (sh (p2 x) 4) (p2 x)) 1085102592571150095
def p4 (x : Nat) : Int := ad (p3 x) (sh (p3 x) 8)
def p5 (x : Nat) : Int := ad (p4 x) (sh (p4 x) 16)
def p6 (x : Nat) : Int := ad (p5 x) (sh (p5 x) 32)
theorem pop_all : ∀ x : Fin 64, abits .and .i64 (fwrap .i64 (p6 x.val)) 127 = (pop x.val : Int) := by decide +kernel
theorem shr112 (z : Int) (c : Nat) : abin Tryd.prog .shr 112 (.int .u64 z) (.int .u64 (c : Int)) = some (.int .u64 (sh z c)) := by
  show ashift .shr .u64 z ((c : Nat) : Int) = _
  unfold ashift
  have h0 : ilt ((c : Nat) : Int) 0 = false := by rw [ilt_e]; simp
  rw [h0]
  show mkI .u64 (ashr z (nmin (Int.toNat ((c : Nat) : Int)) 64)) = _
  rw [Int.toNat_natCast, mkI_e]
  rfl
theorem oInt_and_uu (a b : Int) (k : Value → Option Unit) : oInt .and .u64 (.int .u64 a) (.int .u64 b) k = k (.int .u64 (an a b)) := by
  rw [oInt_u]; show oOpt (mkI .u64 _) k = _; rw [mkI_e, oOpt_e]; rfl
theorem oInt_add_uu (a b : Int) (k : Value → Option Unit) : oInt .add .u64 (.int .u64 a) (.int .u64 b) k = k (.int .u64 (ad a b)) := by
  rw [oInt_u]; show oOpt (mkI .u64 _) k = _; rw [mkI_e, oOpt_e]; rfl
section
variable {lf n L : Nat} {m : Mem} {k : Value → Mem → Option Unit}
theorem onesCount64_sp {x : Nat} (hx : x < 64) (hk : k (.int .i64 (pop x : Int)) m = some ()) : runT (tab lf) (n + 1) 82 [.int .u64 (x : Int)] L m k = some () := by
  rw [r82]
  dsimp only [S82, iofNat, inegSucc]
  simp only [↓uc_e, ↓un0_e]
  rw [show (1 : Int) = ((1 : Nat) : Int) from rfl, shr112, oOpt_e, oInt_and_uu, oInt_and_uu, oInt_add_uu]
  rw [show (2 : Int) = ((2 : Nat) : Int) from rfl, shr112, oOpt_e, oInt_and_uu, oInt_and_uu, oInt_add_uu]
  rw [show (4 : Int) = ((4 : Nat) : Int) from rfl, shr112, oOpt_e, oInt_add_uu, oInt_and_uu]
  rw [show (8 : Int) = ((8 : Nat) : Int) from rfl, shr112, oOpt_e, oInt_add_uu]
  rw [show (16 : Int) = ((16 : Nat) : Int) from rfl, shr112, oOpt_e, oInt_add_uu]
  rw [show (32 : Int) = ((32 : Nat) : Int) from rfl, shr112, oOpt_e, oInt_add_uu]
  show oOpt (mkI .i64 (fwrap .i64 (p6 x))) _ = _
  rw [mkI_e, oOpt_e, oInt_i]
  show oOpt (mkI .i64 (abits .and .i64 (fwrap .i64 (p6 x)) 127)) _ = _
  rw [pop_all ⟨x, hx⟩, mkI_e, oOpt_e]
  exact hk
theorem onesCount_sp {x : Nat} (hx : x < 64) (hk : k (.int .i64 (pop x : Int)) m = some ()) : runT (tab lf) (n + 2) 40 [.int .u64 (x : Int)] L m k = some () := by
  rw [r40]
  dsimp only [S40, iofNat, inegSucc]
  try simp (disch := first | omega | with_unfolding_all exact id rfl | with_unfolding_all exact Nat.le_of_ble_eq_true rfl | (simp only [Jd, Je, Jr, Js, Jt, Nat.reduceAdd, allOne, oneCell, Bool.and_self, Jc]; first | done | omega)) only [↓Qa, ↓Qb, ↓Qc, Qd, Qe, Qf, Qg, Qh, Qi, Qj, Qk, Ql, Qm, Qn, Qo, Qp, Qq, Qr, Qs, Qt, Qu, Qv, Qw, Qx, Qy, ptrTo, Qz, QA, QB, QC, QD, QE, QF, QG, QH, QI, QJ, QK, QL, QM, QN, QO, QP, QQ, QR, QS, QT, QU, QV, QW, QX, QY, QZ, Ja, Jb, Jc, Jd, Je, Jf, Jg, Jh, Ji, Jj, Jk, Jl, Jm, Jn, Jo, Jp, Jq, Jr, Js, Jt, Nat.reduceAdd]
  exact onesCount64_sp hx hk
theorem make1_sp {h : Int} {v : Value} {l : List Int} (hlf : 1000000 ≤ lf) (hL : L ≤ m.next) (hv : IL m v l) (hk : ∀ u m', Gt m m' → IN m' u (smallX h l) → k (.tuple ⟨[Vit.hg (if chk h l = 0 then h else 0) u, .int .i64 (chk h l)]⟩) m' = some ()) : runT (tab lf) (n + 8) 16 [Vit.hg h v] L m k = some () := by
  rw [r16]
  dsimp only [S16, iofNat, inegSucc]
  obtain ⟨p, c, rfl⟩ := hv.ex
  try simp (disch := first | omega | with_unfolding_all exact id rfl | with_unfolding_all exact Nat.le_of_ble_eq_true rfl | (simp only [Jd, Je, Jr, Js, Jt, Nat.reduceAdd, allOne, oneCell, Bool.and_self, Jc]; first | done | omega)) only [↓Qa, ↓Qb, ↓Qc, Qd, Qe, Qf, Qg, Qh, Qi, Qj, Qk, Ql, Qm, Qn, Qo, Qp, Qq, Qr, Qs, Qt, Qu, Qv, Qw, Qx, Qy, ptrTo, Qz, QA, QB, QC, QD, QE, QF, QG, QH, QI, QJ, QK, QL, QM, QN, QO, QP, QQ, QR, QS, QT, QU, QV, QW, QX, QY, QZ, Ja, Jb, Jc, Jd, Je, Jf, Jg, Jh, Ji, Jj, Jk, Jl, Jm, Jn, Jo, Jp, Jq, Jr, Js, Jt, Nat.reduceAdd]
  have g1 : Gt m ((m.push ⟨1, [.int .i64 h, .slice p l.length c], none⟩).push ⟨1, [.int .i64 0, .slice none 0 0], none⟩) := (Mem.gt_push _ _).trans (Mem.gt_push _ _)
  have h1 : At ((m.push ⟨1, [.int .i64 h, .slice p l.length c], none⟩).push ⟨1, [.int .i64 0, .slice none 0 0], none⟩) (m.next + 1) [.int .i64 0, .slice none 0 0] := Mem.rd_push (m.push ⟨1, [.int .i64 h, .slice p l.length c], none⟩) _
  generalize (m.push ⟨1, [.int .i64 h, .slice p l.length c], none⟩).push ⟨1, [.int .i64 0, .slice none 0 0], none⟩ = m1 at g1 h1 ⊢
  have g1n := g1.next
  refine ruled_sp hlf (by omega) (hv.mono g1) fun m2 e2 => ?_
  have e2n := e2.next
  have h2 := h1.mono e2
  have h2l := h1.lt
  try simp (disch := first | omega | with_unfolding_all exact id rfl | with_unfolding_all exact Nat.le_of_ble_eq_true rfl | (simp only [Jd, Je, Jr, Js, Jt, Nat.reduceAdd, allOne, oneCell, Bool.and_self, Jc]; first | done | omega)) only [↓Qa, ↓Qb, ↓Qc, Qd, Qe, Qf, Qg, Qh, Qi, Qj, Qk, Ql, Qm, Qn, Qo, Qp, Qq, Qr, Qs, Qt, Qu, Qv, Qw, Qx, Qy, ptrTo, Qz, QA, QB, QC, QD, QE, QF, QG, QH, QI, QJ, QK, QL, QM, QN, QO, QP, QQ, QR, QS, QT, QU, QV, QW, QX, QY, QZ, Ja, Jb, Jc, Jd, Je, Jf, Jg, Jh, Ji, Jj, Jk, Jl, Jm, Jn, Jo, Jp, Jq, Jr, Js, Jt, Nat.reduceAdd]
  have e3 : Gt m2 ((m2.push ⟨1, [.int .i64 0, .slice none 0 0], none⟩).put m2.next (some ⟨1, [.int .i64 h, .slice p l.length c], none⟩)) := Mem.put_gt (Mem.gt_push _ _) _ (Nat.le_refl _)
  have h3 : At ((m2.push ⟨1, [.int .i64 0, .slice none 0 0], none⟩).put m2.next (some ⟨1, [.int .i64 h, .slice p l.length c], none⟩)) m2.next [.int .i64 h, .slice p l.length c] := Mem.rd_put_eq _ _ (by rw [Mem.push_next]; omega)
  have hn3 : ((m2.push ⟨1, [.int .i64 0, .slice none 0 0], none⟩).put m2.next (some ⟨1, [.int .i64 h, .slice p l.length c], none⟩)).next = m2.next + 1 := rfl
  generalize (m2.push ⟨1, [.int .i64 0, .slice none 0 0], none⟩).put m2.next (some ⟨1, [.int .i64 h, .slice p l.length c], none⟩) = m3 at e3 h3 hn3 ⊢
  have e3n := e3.next
  have h23 := h2.mono e3
  have G3 := (g1.trans e2).trans e3
  refine oIf_ndec (fun h4 => ?_) (fun h4 => ?_)
  · try simp (disch := first | omega | with_unfolding_all exact id rfl | with_unfolding_all exact Nat.le_of_ble_eq_true rfl | (simp only [Jd, Je, Jr, Js, Jt, Nat.reduceAdd, allOne, oneCell, Bool.and_self, Jc]; first | done | omega)) only [bu260, h2.rd, h23.rd, ↓Qa, ↓Qb, ↓Qc, Qd, Qe, Qf, Qg, Qh, Qi, Qj, Qk, Ql, Qm, Qn, Qo, Qp, Qq, Qr, Qs, Qt, Qu, Qv, Qw, Qx, Qy, ptrTo, Qz, QA, QB, QC, QD, QE, QF, QG, QH, QI, QJ, QK, QL, QM, QN, QO, QP, QQ, QR, QS, QT, QU, QV, QW, QX, QY, QZ, Ja, Jb, Jc, Jd, Je, Jf, Jg, Jh, Ji, Jj, Jk, Jl, Jm, Jn, Jo, Jp, Jq, Jr, Js, Jt, Nat.reduceAdd]
    have := hk (.slice none 0 0) _ (Mem.put_gt G3 (b := m.next + 1) (some ⟨1, [.int .i64 0, .slice none 0 0], none⟩) (by omega)) (by rw [smallX, if_neg h4]; exact IL.nil _)
    rw [if_neg h4] at this
    exact this
  · obtain ⟨a, rfl, ha1, ha6, hci, hlen, hlt, hlt64⟩ := chk_valid h4
    have hin : IN m3 (.slice p l.length c) (nn l) := by unfold IN; rw [hci]; exact hv.mono G3
    try simp (disch := first | omega | with_unfolding_all exact id rfl | with_unfolding_all exact Nat.le_of_ble_eq_true rfl | (simp only [Jd, Je, Jr, Js, Jt, Nat.reduceAdd, allOne, oneCell, Bool.and_self, Jc]; first | done | omega)) only [h3.rd, ↓Qa, ↓Qb, ↓Qc, Qd, Qe, Qf, Qg, Qh, Qi, Qj, Qk, Ql, Qm, Qn, Qo, Qp, Qq, Qr, Qs, Qt, Qu, Qv, Qw, Qx, Qy, ptrTo, Qz, QA, QB, QC, QD, QE, QF, QG, QH, QI, QJ, QK, QL, QM, QN, QO, QP, QQ, QR, QS, QT, QU, QV, QW, QX, QY, QZ, Ja, Jb, Jc, Jd, Je, Jf, Jg, Jh, Ji, Jj, Jk, Jl, Jm, Jn, Jo, Jp, Jq, Jr, Js, Jt, Nat.reduceAdd]
    refine meeting_sp hlf (by omega) hin (by rw [nn_length]; omega) hlt64 fun u m4 e4 hu hf => ?_
    obtain ⟨q, c2, rfl⟩ := hu.ex
    have h24 := h23.mono e4
    have e4n := e4.next
    have h34 := h3.mono e4
    try simp (disch := first | omega | with_unfolding_all exact id rfl | with_unfolding_all exact Nat.le_of_ble_eq_true rfl | (simp only [Jd, Je, Jr, Js, Jt, Nat.reduceAdd, allOne, oneCell, Bool.and_self, Jc]; first | done | omega)) only [bu26, h24.rd, h34.rd, ↓Qa, ↓Qb, ↓Qc, Qd, Qe, Qf, Qg, Qh, Qi, Qj, Qk, Ql, Qm, Qn, Qo, Qp, Qq, Qr, Qs, Qt, Qu, Qv, Qw, Qx, Qy, ptrTo, Qz, QA, QB, QC, QD, QE, QF, QG, QH, QI, QJ, QK, QL, QM, QN, QO, QP, QQ, QR, QS, QT, QU, QV, QW, QX, QY, QZ, Ja, Jb, Jc, Jd, Je, Jf, Jg, Jh, Ji, Jj, Jk, Jl, Jm, Jn, Jo, Jp, Jq, Jr, Js, Jt, Nat.reduceAdd]
    have := hk _ _ (Mem.put_gt (G3.trans e4) (b := m.next + 1) (some ⟨1, [.int .i64 (a : Int), .slice q (meetL (nn l)).length c2], none⟩) (by omega)) (by
      rw [smallX, if_pos h4, ← meetL_eq hlt64]
      exact hu.put (fun hh => by have := hf _ hh; omega) _)
    rw [if_pos h4, h4] at this
    exact this
theorem thin1_sp {h : Int} {v : Value} {l : List Int} (hlf : 1000000 ≤ lf) (hL : L ≤ m.next) (hv : IL m v l) (hk : ∀ u m', Gt m m' → IN m' u (leastX h l) → k (.tuple ⟨[Vit.hg (if chk h l = 0 then h else 0) u, .int .i64 (chk h l)]⟩) m' = some ()) : runT (tab lf) (n + 8) 20 [Vit.hg h v] L m k = some () := by
  rw [r20]
  dsimp only [S20, iofNat, inegSucc]
  obtain ⟨p, c, rfl⟩ := hv.ex
  try simp (disch := first | omega | with_unfolding_all exact id rfl | with_unfolding_all exact Nat.le_of_ble_eq_true rfl | (simp only [Jd, Je, Jr, Js, Jt, Nat.reduceAdd, allOne, oneCell, Bool.and_self, Jc]; first | done | omega)) only [↓Qa, ↓Qb, ↓Qc, Qd, Qe, Qf, Qg, Qh, Qi, Qj, Qk, Ql, Qm, Qn, Qo, Qp, Qq, Qr, Qs, Qt, Qu, Qv, Qw, Qx, Qy, ptrTo, Qz, QA, QB, QC, QD, QE, QF, QG, QH, QI, QJ, QK, QL, QM, QN, QO, QP, QQ, QR, QS, QT, QU, QV, QW, QX, QY, QZ, Ja, Jb, Jc, Jd, Je, Jf, Jg, Jh, Ji, Jj, Jk, Jl, Jm, Jn, Jo, Jp, Jq, Jr, Js, Jt, Nat.reduceAdd]
  have g1 : Gt m ((m.push ⟨1, [.int .i64 h, .slice p l.length c], none⟩).push ⟨1, [.int .i64 0, .slice none 0 0], none⟩) := (Mem.gt_push _ _).trans (Mem.gt_push _ _)
  have h1 : At ((m.push ⟨1, [.int .i64 h, .slice p l.length c], none⟩).push ⟨1, [.int .i64 0, .slice none 0 0], none⟩) (m.next + 1) [.int .i64 0, .slice none 0 0] := Mem.rd_push (m.push ⟨1, [.int .i64 h, .slice p l.length c], none⟩) _
  generalize (m.push ⟨1, [.int .i64 h, .slice p l.length c], none⟩).push ⟨1, [.int .i64 0, .slice none 0 0], none⟩ = m1 at g1 h1 ⊢
  have g1n := g1.next
  refine planned_sp hlf (by omega) (hv.mono g1) fun m2 e2 => ?_
  have e2n := e2.next
  have h2 := h1.mono e2
  have h2l := h1.lt
  try simp (disch := first | omega | with_unfolding_all exact id rfl | with_unfolding_all exact Nat.le_of_ble_eq_true rfl | (simp only [Jd, Je, Jr, Js, Jt, Nat.reduceAdd, allOne, oneCell, Bool.and_self, Jc]; first | done | omega)) only [↓Qa, ↓Qb, ↓Qc, Qd, Qe, Qf, Qg, Qh, Qi, Qj, Qk, Ql, Qm, Qn, Qo, Qp, Qq, Qr, Qs, Qt, Qu, Qv, Qw, Qx, Qy, ptrTo, Qz, QA, QB, QC, QD, QE, QF, QG, QH, QI, QJ, QK, QL, QM, QN, QO, QP, QQ, QR, QS, QT, QU, QV, QW, QX, QY, QZ, Ja, Jb, Jc, Jd, Je, Jf, Jg, Jh, Ji, Jj, Jk, Jl, Jm, Jn, Jo, Jp, Jq, Jr, Js, Jt, Nat.reduceAdd]
  have e3 : Gt m2 ((m2.push ⟨1, [.int .i64 0, .slice none 0 0], none⟩).put m2.next (some ⟨1, [.int .i64 h, .slice p l.length c], none⟩)) := Mem.put_gt (Mem.gt_push _ _) _ (Nat.le_refl _)
  have h3 : At ((m2.push ⟨1, [.int .i64 0, .slice none 0 0], none⟩).put m2.next (some ⟨1, [.int .i64 h, .slice p l.length c], none⟩)) m2.next [.int .i64 h, .slice p l.length c] := Mem.rd_put_eq _ _ (by rw [Mem.push_next]; omega)
  have hn3 : ((m2.push ⟨1, [.int .i64 0, .slice none 0 0], none⟩).put m2.next (some ⟨1, [.int .i64 h, .slice p l.length c], none⟩)).next = m2.next + 1 := rfl
  generalize (m2.push ⟨1, [.int .i64 0, .slice none 0 0], none⟩).put m2.next (some ⟨1, [.int .i64 h, .slice p l.length c], none⟩) = m3 at e3 h3 hn3 ⊢
  have e3n := e3.next
  have h23 := h2.mono e3
  have G3 := (g1.trans e2).trans e3
  refine oIf_ndec (fun h4 => ?_) (fun h4 => ?_)
  · try simp (disch := first | omega | with_unfolding_all exact id rfl | with_unfolding_all exact Nat.le_of_ble_eq_true rfl | (simp only [Jd, Je, Jr, Js, Jt, Nat.reduceAdd, allOne, oneCell, Bool.and_self, Jc]; first | done | omega)) only [bu260, h2.rd, h23.rd, ↓Qa, ↓Qb, ↓Qc, Qd, Qe, Qf, Qg, Qh, Qi, Qj, Qk, Ql, Qm, Qn, Qo, Qp, Qq, Qr, Qs, Qt, Qu, Qv, Qw, Qx, Qy, ptrTo, Qz, QA, QB, QC, QD, QE, QF, QG, QH, QI, QJ, QK, QL, QM, QN, QO, QP, QQ, QR, QS, QT, QU, QV, QW, QX, QY, QZ, Ja, Jb, Jc, Jd, Je, Jf, Jg, Jh, Ji, Jj, Jk, Jl, Jm, Jn, Jo, Jp, Jq, Jr, Js, Jt, Nat.reduceAdd]
    have := hk (.slice none 0 0) _ (Mem.put_gt G3 (b := m.next + 1) (some ⟨1, [.int .i64 0, .slice none 0 0], none⟩) (by omega)) (by rw [leastX, if_neg h4]; exact IL.nil _)
    rw [if_neg h4] at this
    exact this
  · obtain ⟨a, rfl, ha1, ha6, hci, hlen, hlt, hlt64⟩ := chk_valid h4
    have hin : IN m3 (.slice p l.length c) (nn l) := by unfold IN; rw [hci]; exact hv.mono G3
    try simp (disch := first | omega | with_unfolding_all exact id rfl | with_unfolding_all exact Nat.le_of_ble_eq_true rfl | (simp only [Jd, Je, Jr, Js, Jt, Nat.reduceAdd, allOne, oneCell, Bool.and_self, Jc]; first | done | omega)) only [h3.rd, ↓Qa, ↓Qb, ↓Qc, Qd, Qe, Qf, Qg, Qh, Qi, Qj, Qk, Ql, Qm, Qn, Qo, Qp, Qq, Qr, Qs, Qt, Qu, Qv, Qw, Qx, Qy, ptrTo, Qz, QA, QB, QC, QD, QE, QF, QG, QH, QI, QJ, QK, QL, QM, QN, QO, QP, QQ, QR, QS, QT, QU, QV, QW, QX, QY, QZ, Ja, Jb, Jc, Jd, Je, Jf, Jg, Jh, Ji, Jj, Jk, Jl, Jm, Jn, Jo, Jp, Jq, Jr, Js, Jt, Nat.reduceAdd]
    refine inner_sp hlf (by omega) hin (by rw [nn_length]; omega) hlt64 fun u m4 e4 hu hf => ?_
    obtain ⟨q, c2, rfl⟩ := hu.ex
    have h24 := h23.mono e4
    have e4n := e4.next
    have h34 := h3.mono e4
    try simp (disch := first | omega | with_unfolding_all exact id rfl | with_unfolding_all exact Nat.le_of_ble_eq_true rfl | (simp only [Jd, Je, Jr, Js, Jt, Nat.reduceAdd, allOne, oneCell, Bool.and_self, Jc]; first | done | omega)) only [bu26, h24.rd, h34.rd, ↓Qa, ↓Qb, ↓Qc, Qd, Qe, Qf, Qg, Qh, Qi, Qj, Qk, Ql, Qm, Qn, Qo, Qp, Qq, Qr, Qs, Qt, Qu, Qv, Qw, Qx, Qy, ptrTo, Qz, QA, QB, QC, QD, QE, QF, QG, QH, QI, QJ, QK, QL, QM, QN, QO, QP, QQ, QR, QS, QT, QU, QV, QW, QX, QY, QZ, Ja, Jb, Jc, Jd, Je, Jf, Jg, Jh, Ji, Jj, Jk, Jl, Jm, Jn, Jo, Jp, Jq, Jr, Js, Jt, Nat.reduceAdd]
    have := hk _ _ (Mem.put_gt (G3.trans e4) (b := m.next + 1) (some ⟨1, [.int .i64 (a : Int), .slice q (minl (nn l)).length c2], none⟩) (by omega)) (by
      rw [leastX, if_pos h4]
      exact hu.put (fun hh => by have := hf _ hh; omega) _)
    rw [if_pos h4, h4] at this
    exact this
end
end Go.Vit
