/- Walks: one cart comes. -/
import Derived.Test.YtnmmjbclidbdbaaDoorW1
set_option linter.unusedSimpArgs false
set_option linter.unusedVariables false
set_option maxRecDepth 20000
namespace Go.Vit
open Go Go.Proofs
attribute [local irreducible] runT loopS
theorem u74 : Tryd.prog.underlying 74 = some (.int .u64) := by kernel_rfl
theorem u108 : Tryd.prog.underlying 108 = some (.int .u64) := by kernel_rfl
def tzI (x : Nat) : Int := ashr (fwrap .u64 (Int.mul (abits .and .u64 (x : Int) (fwrap .u64 (Int.sub 0 (x : Int)))) 285870213051353865)) (nmin (Int.toNat 58) (bitsN .u64))
theorem tz_all : ∀ x : Fin 256, x.val ≠ 0 → 0 ≤ tzI x.val ∧ (tzI x.val).toNat < 64 ∧ db64[(tzI x.val).toNat]? = some (tz8 x.val : Int) := by decide +kernel
theorem tz_lt : ∀ x : Fin 256, tz8 x.val < 8 := by decide +kernel
theorem oInt_u (op : BinOp) (a b : Int) (k : Value → Option Unit) : oInt op .u64 (.int .u64 a) (.int .u64 b) k = oOpt (aint op .u64 a b) k := rfl
theorem shr_u (x : Int) (w : Nat) : abin Tryd.prog .shr 74 (.int .u64 x) (.int .i64 (w : Int)) = some (.int .u64 (ashr x (nmin w 64))) := by
  show ashift .shr .u64 x (Int.ofNat w) = _
  unfold ashift
  rw [show ilt (Int.ofNat w) 0 = false by rw [ilt_e]; exact decide_eq_false (by rw [Int.ofNat_eq_natCast]; omega)]
  show mkI .u64 _ = _
  rw [mkI_e]; rfl
theorem shl_u (x : Int) (w : Nat) : abin Tryd.prog .shl 74 (.int .u64 x) (.int .i64 (w : Int)) = some (.int .u64 (ashl .u64 x (nmin w 64))) := by
  show ashift .shl .u64 x (Int.ofNat w) = _
  unfold ashift
  rw [show ilt (Int.ofNat w) 0 = false by rw [ilt_e]; exact decide_eq_false (by rw [Int.ofNat_eq_natCast]; omega)]
  show mkI .u64 _ = _
  rw [mkI_e]; rfl
theorem or_all : ((List.range 256).all fun T => (List.range 8).all fun b => ieq (abits .or .u64 (.ofNat T) (ashl .u64 1 (nmin b 64))) (.ofNat (T ||| 2 ^ b))) = true := by decide +kernel
theorem bit_all : ((List.range 256).all fun T => (List.range 9).all fun b => ieq (abits .and .u64 (ashr (.ofNat T) (nmin b 64)) 1) (match T.testBit b with | true => 1 | false => 0)) = true := by decide +kernel
theorem or_e {T b : Nat} (hT : T < 256) (hb : b < 8) (k : Value → Option Unit) : oInt .or .u64 (.int .u64 (T : Int)) (.int .u64 (ashl .u64 1 (nmin b 64))) k = k (.int .u64 ((T ||| 2 ^ b : Nat) : Int)) := by
  have := List.all_eq_true.1 (List.all_eq_true.1 or_all T (List.mem_range.2 hT)) b (List.mem_range.2 hb)
  rw [ieq_e, decide_eq_true_eq] at this
  rw [oInt_u]
  show oOpt (mkI .u64 (abits .or .u64 (Int.ofNat T) _)) k = _
  rw [this, mkI_e, oOpt_e]; rfl
theorem bit_e {T b : Nat} (hT : T < 256) (hb : b < 9) (k : Value → Option Unit) : oInt .and .u64 (.int .u64 (ashr (T : Int) (nmin b 64))) (.int .u64 1) k = k (.int .u64 (if T.testBit b then 1 else 0)) := by
  have := List.all_eq_true.1 (List.all_eq_true.1 bit_all T (List.mem_range.2 hT)) b (List.mem_range.2 hb)
  rw [ieq_e, decide_eq_true_eq] at this
  rw [oInt_u]
  show oOpt (mkI .u64 (abits .and .u64 (ashr (Int.ofNat T) _) 1)) k = _
  rw [this, mkI_e, oOpt_e]
  cases T.testBit b <;> rfl
theorem eql_u (a b : Int) (k : Value → Option Unit) : oInt .eql .u64 (.int .u64 a) (.int .u64 b) k = k (.bool (decide (a = b))) := by
  rw [oInt_u]; simp only [aint, ieq_e, mkB_e, oOpt_e]
theorem ani (a : Addr) : anil (.pointer (some a)) = some (.pointer (some a)) := id rfl
/-- What becomes of a cart. -/
def stV (p q : Int) : Value := .iface 70 (.agg ⟨[.int .i64 p, .int .i64 q]⟩)
def leV : Value := .iface 72 (.agg ⟨[]⟩)
theorem bu70 (p q : Int) : bu Tryd.prog 70 [(0, .int .i64 p), (1, .int .i64 q)] = some (.agg ⟨[.int .i64 p, .int .i64 q]⟩) := by kernel_rfl
theorem bu72 : bu Tryd.prog 72 [] = some (.agg ⟨[]⟩) := by kernel_rfl
theorem if70 (x : Value) : aiface Tryd.prog 70 x = some (.iface 70 x) := by kernel_rfl
theorem if72 (x : Value) : aiface Tryd.prog 72 x = some (.iface 72 x) := by kernel_rfl
/-- A row's block. -/
def rowB (N T : Nat) : Blk := ⟨1, [.int .i64 (N : Int), .int .u64 (T : Int)], none⟩
section
variable {lf n L : Nat} {m : Mem} {k : Value → Mem → Option Unit}
theorem tz64_sp {x : Nat} (hT : TabOk mTab m) (hx : x < 256) (h0 : x ≠ 0) (hk : k (.int .i64 (tz8 x : Int)) m = some ()) : runT (tab lf) (n + 1) 89 [.int .u64 (x : Int)] L m k = some () := by
  rw [r89]
  dsimp only [S89, iofNat, inegSucc]
  obtain ⟨h1, h2, h3⟩ := tz_all ⟨x, hx⟩ h0
  simp only at h1 h2 h3
  have hz : ieq (x : Int) 0 = false := by rw [ieq_e]; exact decide_eq_false (by omega)
  have hr1 : m.rd 1 = some k1 := by rw [hT.2 1 (by decide)]; exact rd1
  have hn : aun .neg (.int .u64 (x : Int)) = some (.int .u64 (fwrap .u64 (Int.sub 0 (x : Int)))) := by
    show mkI .u64 _ = _
    rw [mkI_e]
  try simp (disch := first | omega | with_unfolding_all exact id rfl | with_unfolding_all exact Nat.le_of_ble_eq_true rfl | (simp only [Jd, Je, Jr, Js, Jt, Nat.reduceAdd, allOne, oneCell, Bool.and_self, Jc]; first | done | omega)) only [↓Qa, ↓Qb, ↓Qc, Qd, Qe, Qf, Qg, Qh, Qi, Qj, Qk, Ql, Qm, Qn, Qo, Qp, Qq, Qr, Qs, Qt, Qu, Qv, Qw, Qx, Qy, ptrTo, Qz, QA, QB, QC, QD, QE, QF, QG, QH, QI, QJ, QK, QL, QM, QN, QO, QP, QQ, QR, QS, QT, QU, QV, QW, QX, QY, QZ, Ja, Jb, Jc, Jd, Je, Jf, Jg, Jh, Ji, Jj, Jk, Jl, Jm, Jn, Jo, Jp, Jq, Jr, Js, Jt, Nat.reduceAdd]
  rw [oInt_u]
  simp only [aint, hz, mkB_e, oOpt_e, oIf_f, hn]
  rw [oInt_u]
  simp only [aint, mkI_e, oOpt_e]
  rw [oInt_u]
  simp only [aint, mkI_e, oOpt_e]
  have hs : ∀ z : Int, abin Tryd.prog .shr 108 (.int .u64 z) (.int .u64 58) = some (.int .u64 (ashr z (nmin (Int.toNat 58) (bitsN .u64)))) := fun z => by
    show ashift .shr .u64 z 58 = _
    unfold ashift
    rw [show ilt 58 0 = false from rfl]
    show mkI .u64 _ = _
    rw [mkI_e]
  rw [hs, oOpt_e]
  show oOpt (iaA 64 1 _ (.int .u64 (tzI x))) _ = _
  obtain ⟨j, hj⟩ : ∃ j : Nat, tzI x = j := ⟨(tzI x).toNat, by omega⟩
  rw [hj, Int.toNat_natCast] at h2 h3
  have hia : iaA 64 1 (.pointer (some ⟨1, 0, none⟩)) (.int .u64 (j : Int)) = some (.pointer (some ⟨1, 0 + j * 1, none⟩)) := by
    show iaA 64 1 _ (.int .u64 (Int.ofNat j)) = _
    have hb : Nat.blt j 64 = true := by simpa using h2
    simp only [iaA, hb, natK_eq]
    rfl
  rw [hj, hia, oOpt_e, ld1_u, hr1]
  have hc : rdo (some k1) (0 + j * 1) = some (.int .u8 (tz8 x : Int)) := by
    show (u8s db64)[0 + j * 1]? = _
    rw [Nat.zero_add, Nat.mul_one]
    simp only [u8s, List.getElem?_map, h3, Option.map_some]
  rw [hc, oOpt_e]
  have htz := tz_lt ⟨x, hx⟩
  simp only at htz
  have hcv : oCv .i64 (.int .u8 (tz8 x : Int)) (fun t9 => k t9 m) = k (.int .i64 (tz8 x : Int)) m := oCv_nat (by omega) _
  rw [hcv]
  exact hk
theorem tz_sp {x : Nat} (hT : TabOk mTab m) (hx : x < 256) (h0 : x ≠ 0) (hk : k (.int .i64 (tz8 x : Int)) m = some ()) : runT (tab lf) (n + 2) 80 [.int .u64 (x : Int)] L m k = some () := by
  rw [r80]
  dsimp only [S80, iofNat, inegSucc]
  try simp (disch := first | omega | with_unfolding_all exact id rfl | with_unfolding_all exact Nat.le_of_ble_eq_true rfl | (simp only [Jd, Je, Jr, Js, Jt, Nat.reduceAdd, allOne, oneCell, Bool.and_self, Jc]; first | done | omega)) only [↓Qa, ↓Qb, ↓Qc, Qd, Qe, Qf, Qg, Qh, Qi, Qj, Qk, Ql, Qm, Qn, Qo, Qp, Qq, Qr, Qs, Qt, Qu, Qv, Qw, Qx, Qy, ptrTo, Qz, QA, QB, QC, QD, QE, QF, QG, QH, QI, QJ, QK, QL, QM, QN, QO, QP, QQ, QR, QS, QT, QU, QV, QW, QX, QY, QZ, Ja, Jb, Jc, Jd, Je, Jf, Jg, Jh, Ji, Jj, Jk, Jl, Jm, Jn, Jo, Jp, Jq, Jr, Js, Jt, Nat.reduceAdd]
  exact tz64_sp hT hx h0 hk
theorem come1_sp {b N T w : Nat} (hT : TabOk mTab m) (hr : m.rd b = some (rowB N T)) (hL : L ≤ b) (hN : N ≤ 8) (hT8 : T < 256) (hw : w ≤ 8)
    (hno : fbay N (fun c => T.testBit c) w = none → k leV m = some ())
    (hyes : ∀ c, fbay N (fun c => T.testBit c) w = some c → k (stV (c : Int) ((c : Int) - (w : Int))) (m.put b (some (rowB N (T ||| 2 ^ c)))) = some ()) :
    runT (tab lf) (n + 3) 62 [ptrTo b, .int .i64 (w : Int)] L m k = some () := by
  rw [r62]; dsimp only [S62, iofNat, inegSucc]
  unfold rowB at hr
  have hx : aun .xor (.int .u64 (T : Int)) = some (.int .u64 (abits .xor .u64 18446744073709551615 (.ofNat T))) := by
    show mkI .u64 _ = _
    rw [mkI_e]; rfl
  have hbl := Mem.rd_lt hr
  obtain ⟨x, hch, hx2⟩ := chain_e hN hT8 hw
  try simp (disch := first | omega | with_unfolding_all exact id rfl | with_unfolding_all exact Nat.le_of_ble_eq_true rfl | (simp only [Jd, Je, Jr, Js, Jt, Nat.reduceAdd, allOne, oneCell, Bool.and_self, Jc]; first | done | omega)) only [ani, hr, hx, shr_u, shl_u, ↓Qa, ↓Qb, ↓Qc, Qd, Qe, Qf, Qg, Qh, Qi, Qj, Qk, Ql, Qm, Qn, Qo, Qp, Qq, Qr, Qs, Qt, Qu, Qv, Qw, Qx, Qy, ptrTo, Qz, QA, QB, QC, QD, QE, QF, QG, QH, QI, QJ, QK, QL, QM, QN, QO, QP, QQ, QR, QS, QT, QU, QV, QW, QX, QY, QZ, Ja, Jb, Jc, Jd, Je, Jf, Jg, Jh, Ji, Jj, Jk, Jl, Jm, Jn, Jo, Jp, Jq, Jr, Js, Jt, Nat.reduceAdd]
  rw [oInt_u]
  simp only [aint, mkI_e, oOpt_e]
  rw [oInt_u]
  simp only [aint, mkI_e, oOpt_e]
  rw [show abits .and .u64 _ _ = (x : Int) from hch, eql_u]
  cases hf : fbay N (fun c => T.testBit c) w with
  | none =>
    rw [hf] at hx2
    subst hx2
    try simp (disch := first | omega | with_unfolding_all exact id rfl | with_unfolding_all exact Nat.le_of_ble_eq_true rfl | (simp only [Jd, Je, Jr, Js, Jt, Nat.reduceAdd, allOne, oneCell, Bool.and_self, Jc]; first | done | omega)) only [bu72, if72, ↓Qa, ↓Qb, ↓Qc, Qd, Qe, Qf, Qg, Qh, Qi, Qj, Qk, Ql, Qm, Qn, Qo, Qp, Qq, Qr, Qs, Qt, Qu, Qv, Qw, Qx, Qy, ptrTo, Qz, QA, QB, QC, QD, QE, QF, QG, QH, QI, QJ, QK, QL, QM, QN, QO, QP, QQ, QR, QS, QT, QU, QV, QW, QX, QY, QZ, Ja, Jb, Jc, Jd, Je, Jf, Jg, Jh, Ji, Jj, Jk, Jl, Jm, Jn, Jo, Jp, Jq, Jr, Js, Jt, Nat.reduceAdd]
    exact hno hf
  | some c =>
    rw [hf] at hx2
    obtain ⟨h0, hx8, htz⟩ := hx2
    obtain ⟨f1, f2, _, _⟩ := fbay_some hf
    rw [decide_eq_false (by omega), oIf_f]
    refine tz_sp hT hx8 h0 ?_
    rw [htz]
    try simp (disch := first | omega | with_unfolding_all exact id rfl | with_unfolding_all exact Nat.le_of_ble_eq_true rfl | (simp only [Jd, Je, Jr, Js, Jt, Nat.reduceAdd, allOne, oneCell, Bool.and_self, Jc]; first | done | omega)) only [ani, hr, shl_u, ↓Qa, ↓Qb, ↓Qc, Qd, Qe, Qf, Qg, Qh, Qi, Qj, Qk, Ql, Qm, Qn, Qo, Qp, Qq, Qr, Qs, Qt, Qu, Qv, Qw, Qx, Qy, ptrTo, Qz, QA, QB, QC, QD, QE, QF, QG, QH, QI, QJ, QK, QL, QM, QN, QO, QP, QQ, QR, QS, QT, QU, QV, QW, QX, QY, QZ, Ja, Jb, Jc, Jd, Je, Jf, Jg, Jh, Ji, Jj, Jk, Jl, Jm, Jn, Jo, Jp, Jq, Jr, Js, Jt, Nat.reduceAdd]
    rw [or_e hT8 (by omega)]
    try simp (disch := first | omega | with_unfolding_all exact id rfl | with_unfolding_all exact Nat.le_of_ble_eq_true rfl | (simp only [Jd, Je, Jr, Js, Jt, Nat.reduceAdd, allOne, oneCell, Bool.and_self, Jc]; first | done | omega)) only [ani, hr, ↓Qa, ↓Qb, ↓Qc, Qd, Qe, Qf, Qg, Qh, Qi, Qj, Qk, Ql, Qm, Qn, Qo, Qp, Qq, Qr, Qs, Qt, Qu, Qv, Qw, Qx, Qy, ptrTo, Qz, QA, QB, QC, QD, QE, QF, QG, QH, QI, QJ, QK, QL, QM, QN, QO, QP, QQ, QR, QS, QT, QU, QV, QW, QX, QY, QZ, Ja, Jb, Jc, Jd, Je, Jf, Jg, Jh, Ji, Jj, Jk, Jl, Jm, Jn, Jo, Jp, Jq, Jr, Js, Jt, Nat.reduceAdd]
    rw [oInt_sub ⟨by omega, by omega⟩]
    try simp (disch := first | omega | with_unfolding_all exact id rfl | with_unfolding_all exact Nat.le_of_ble_eq_true rfl | (simp only [Jd, Je, Jr, Js, Jt, Nat.reduceAdd, allOne, oneCell, Bool.and_self, Jc]; first | done | omega)) only [bu70, if70, ↓Qa, ↓Qb, ↓Qc, Qd, Qe, Qf, Qg, Qh, Qi, Qj, Qk, Ql, Qm, Qn, Qo, Qp, Qq, Qr, Qs, Qt, Qu, Qv, Qw, Qx, Qy, ptrTo, Qz, QA, QB, QC, QD, QE, QF, QG, QH, QI, QJ, QK, QL, QM, QN, QO, QP, QQ, QR, QS, QT, QU, QV, QW, QX, QY, QZ, Ja, Jb, Jc, Jd, Je, Jf, Jg, Jh, Ji, Jj, Jk, Jl, Jm, Jn, Jo, Jp, Jq, Jr, Js, Jt, Nat.reduceAdd]
    exact hyes c hf
end
end Go.Vit
