/- Walks of the group Bond, numbered for this seat by a program: W12. -/
import Derived.Test.YtppallabmjdolaaGreatDoorB11
set_option linter.unusedSimpArgs false
set_option linter.unusedVariables false
set_option maxRecDepth 20000
namespace Go.Vit
open Go Go.Proofs
attribute [local irreducible] runT loopS
theorem oInt_u (op : BinOp) (a b : Int) (k : Value → Option Unit) : oInt op .u64 (.int .u64 a) (.int .u64 b) k = oOpt (aint op .u64 a b) k := rfl
theorem bu260 : bu Tryz.prog 29 [] = some (.agg ⟨[.int .i64 0, .slice none 0 0]⟩) := by kernel_rfl
theorem bu240 : bu Tryz.prog 24 [] = some (.agg ⟨[.int .i64 0, .slice none 0 0]⟩) := by kernel_rfl
theorem bu241 (a : Int) : bu Tryz.prog 24 [(0, .int .i64 a)] = some (.agg ⟨[.int .i64 a, .slice none 0 0]⟩) := by kernel_rfl
/-- How many members. -/
def pop (x : Nat) : Nat := ((List.range 6).filter fun i => x.testBit i).length
def sh (z : Int) (c : Nat) : Int := ashr z (nmin c (bitsN .u64))
def an (a b : Int) : Int := abits .and .u64 a b
def ad (a b : Int) : Int := fwrap .u64 (Int.add a b)
def p1 (x : Nat) : Int := ad (an (sh (x : Int) 1) 6148914691236517205) (an (x : Int) 6148914691236517205)
def p2 (x : Nat) : Int := ad (an (sh (p1 x) 2) 3689348814741910323) (an (p1 x) 3689348814741910323)
def p3 (x : Nat) : Int := an (ad (sh (p2 x) 4) (p2 x)) 1085102592571150095
def p4 (x : Nat) : Int := ad (p3 x) (sh (p3 x) 8)
def p5 (x : Nat) : Int := ad (p4 x) (sh (p4 x) 16)
def p6 (x : Nat) : Int := ad (p5 x) (sh (p5 x) 32)
theorem pop_all : ∀ x : Fin 64, abits .and .i64 (fwrap .i64 (p6 x.val)) 127 = (pop x.val : Int) := by decide +kernel
theorem shr112 (z : Int) (c : Nat) : abin Tryz.prog .shr 168 (.int .u64 z) (.int .u64 (c : Int)) = some (.int .u64 (sh z c)) := by
  show ashift .shr .u64 z ((c : Nat) : Int) = _
  unfold ashift
  have h0 : ilt ((c : Nat) : Int) 0 = false := by rw [ilt_e]; simp
  rw [h0]
  show mkI .u64 (ashr z (nmin (Int.toNat ((c : Nat) : Int)) 64)) = _
  rw [Int.toNat_natCast, mkI_e]
  rfl
theorem oInt_and_uu (a b : Int) (k : Value → Option Unit) : oInt .and .u64 (.int .u64 a) (.int .u64 b) k = k (.int .u64 (an a b)) := by
  rw [oInt_u]; show oOpt (mkI .u64 _) k = _; rw [mkI_e, oOpt_e]; rfl
theorem oInt_add_uu (a b : Int) (k : Value → Option Unit) : oInt .add .u64 (.int .u64 a) (.int .u64 b) k = k (.int .u64 (ad a b)) := by
  rw [oInt_u]; show oOpt (mkI .u64 _) k = _; rw [mkI_e, oOpt_e]; rfl
section
variable {lf n L : Nat} {m : Mem} {k : Value → Mem → Option Unit}
theorem onesCount64_sp {x : Nat} (hx : x < 64) (hk : k (.int .i64 (pop x : Int)) m = some ()) : runT (tabC lf) (n + 1) 120 [.int .u64 (x : Int)] L m k = some () := by
  rw [r120]
  dsimp only [S120, iofNat, inegSucc]
  simp only [↓uc_e, ↓un0_e]
  rw [show (1 : Int) = ((1 : Nat) : Int) from rfl, shr112, oOpt_e, oInt_and_uu, oInt_and_uu, oInt_add_uu]
  rw [show (2 : Int) = ((2 : Nat) : Int) from rfl, shr112, oOpt_e, oInt_and_uu, oInt_and_uu, oInt_add_uu]
  rw [show (4 : Int) = ((4 : Nat) : Int) from rfl, shr112, oOpt_e, oInt_add_uu, oInt_and_uu]
  rw [show (8 : Int) = ((8 : Nat) : Int) from rfl, shr112, oOpt_e, oInt_add_uu]
  rw [show (16 : Int) = ((16 : Nat) : Int) from rfl, shr112, oOpt_e, oInt_add_uu]
  rw [show (32 : Int) = ((32 : Nat) : Int) from rfl, shr112, oOpt_e, oInt_add_uu]
  show oOpt (mkI .i64 (fwrap .i64 (p6 x))) _ = _
  rw [mkI_e, oOpt_e, oInt_i]
  show oOpt (mkI .i64 (abits .and .i64 (fwrap .i64 (p6 x)) 127)) _ = _
  rw [pop_all ⟨x, hx⟩, mkI_e, oOpt_e]
  exact hk
theorem onesCount_sp {x : Nat} (hx : x < 64) (hk : k (.int .i64 (pop x : Int)) m = some ()) : runT (tabC lf) (n + 2) 55 [.int .u64 (x : Int)] L m k = some () := by
  rw [r55]
  dsimp only [S55, iofNat, inegSucc]
  try simp (disch := first | omega | with_unfolding_all exact id rfl | with_unfolding_all exact Nat.le_of_ble_eq_true rfl | (simp only [Jd, Je, Jr, Js, Jt, Nat.reduceAdd, allOne, oneCell, Bool.and_self, Jc]; first | done | omega)) only [↓Qa, ↓Qb, ↓Qc, Qd, Qe, Qf, Qg, Qh, Qi, Qj, Qk, Ql, Qm, Qn, Qo, Qp, Qq, Qr, Qs, Qt, Qu, Qv, Qw, Qx, Qy, ptrTo, Qz, QA, QB, QC, QD, QE, QF, QG, QH, QI, QJ, QK, QL, QM, QN, QO, QP, QQ, QR, QS, QT, QU, QV, QW, QX, QY, QZ, Ja, Jb, Jc, Jd, Je, Jf, Jg, Jh, Ji, Jj, Jk, Jl, Jm, Jn, Jo, Jp, Jq, Jr, Js, Jt, Nat.reduceAdd]
  exact onesCount64_sp hx hk
end
end Go.Vit
