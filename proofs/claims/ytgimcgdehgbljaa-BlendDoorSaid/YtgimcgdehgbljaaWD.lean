/- Joined: W22 W23 W25. -/
import Derived.Test.YtgimcgdehgbljaaWA
import Derived.Test.YtgimcgdehgbljaaPA
import Derived.Test.YtgimcgdehgbljaaCoreD
import Derived.Test.YtgimcgdehgbljaaWR
set_option linter.unusedSimpArgs false
set_option linter.unusedVariables false
set_option maxRecDepth 20000
/- Walks: the sets of bits and the blends they hold. -/
namespace Go.Vit
open Go Go.Proofs
attribute [local irreducible] runT loopS
theorem oOpt_as {β : Type} (x : Option Value) (f : Value → Option Value) (g : Value → Option β) : oOpt (oOpt x f) g = oOpt x fun v => oOpt (f v) g := by
  cases x <;> rfl
theorem oIntG (op : BinOp) (k : IntKind) (a b : Int) {β : Type} (f : Value → Option β) : oInt op k (.int k a) (.int k b) f = oOpt (aint op k a b) f := by
  cases k <;> rfl
theorem oInt16 (op : BinOp) (a b : Int) (f : Value → Option Unit) : oInt op .u16 (.int .u16 a) (.int .u16 b) f = oOpt (aint op .u16 a b) f := rfl
theorem shr16 (a x : Nat) (kd : IntKind) (hx : x ≤ 16) : abin Try.prog .shr 63 (.int .u16 (a : Int)) (.int kd (x : Int)) = some (.int .u16 ((a >>> x : Nat) : Int)) := by
  show ashift .shr .u16 (Int.ofNat a) ((x : Nat) : Int) = _
  unfold ashift
  have h0 : ilt ((x : Nat) : Int) 0 = false := by rw [ilt_e]; simp
  rw [h0]
  show mkI .u16 (ashr (Int.ofNat a) (nmin (Int.toNat (x : Int)) 16)) = _
  have hmin : nmin x 16 = x := by unfold nmin; rw [ble_t hx]
  rw [Int.toNat_natCast, hmin, mkI_e]
  rfl
theorem fits16 {m : Nat} (h : m < 65536) : fits .u16 (Int.ofNat m) = true := by
  show Nat.blt m 65536 = true
  simpa using h
theorem and16 {a b : Nat} (ha : a < 65536) (hb : b < 65536) (f : Value → Option Unit) : oInt .and .u16 (.int .u16 (a : Int)) (.int .u16 (b : Int)) f = f (.int .u16 ((a &&& b : Nat) : Int)) := by
  rw [oInt16]
  show oOpt (mkI .u16 (abits .and .u16 (Int.ofNat a) (Int.ofNat b))) f = _
  unfold abits
  simp only [fits16 ha, fits16 hb, Bool.and_self, fastBits]
  rw [mkI_e, oOpt_e]; rfl
theorem eql16 (a b : Int) (f : Value → Option Unit) : oInt .eql .u16 (.int .u16 a) (.int .u16 b) f = f (.bool (decide (a = b))) := by
  rw [oInt16]; simp only [aint, ieq_e, mkB_e, oOpt_e]
theorem lss16 (a b : Int) (f : Value → Option Unit) : oInt .lss .u16 (.int .u16 a) (.int .u16 b) f = f (.bool (decide (a < b))) := by
  rw [oInt16]; simp only [aint, ilt_e, mkB_e, oOpt_e]
theorem add16 {a b : Nat} (h : a + b < 65536) (f : Value → Option Unit) : oInt .add .u16 (.int .u16 (a : Int)) (.int .u16 (b : Int)) f = f (.int .u16 ((a + b : Nat) : Int)) := by
  rw [oInt16]
  show oOpt (mkI .u16 (fwrap .u16 (Int.ofNat (a + b)))) f = _
  unfold fwrap
  rw [fits16 h]
  simp only []
  rw [mkI_e, oOpt_e]; rfl
theorem shl16 : ∀ N : Nat, N < 11 → abin Try.prog .shl 63 (.int .u16 1) (.int .i64 (N : Int)) = some (.int .u16 ((2 ^ N : Nat) : Int))
  | 0, _ => by kernel_rfl
  | 1, _ => by kernel_rfl
  | 2, _ => by kernel_rfl
  | 3, _ => by kernel_rfl
  | 4, _ => by kernel_rfl
  | 5, _ => by kernel_rfl
  | 6, _ => by kernel_rfl
  | 7, _ => by kernel_rfl
  | 8, _ => by kernel_rfl
  | 9, _ => by kernel_rfl
  | 10, _ => by kernel_rfl
  | n + 11, h => absurd h (by omega)
/-- The number of bits, by a table. -/
noncomputable def g84 {β : Type} (T x : Value) (f : Value → Option β) : Option β :=
  oOpt (abin Try.prog .shr 63 x (.int .u64 (.ofNat 8))) fun t2 => oOpt (aindex Try.prog 9 T t2) fun t3 => oInt .and .u16 x (.int .u16 (.ofNat 255)) fun t4 => oOpt (aindex Try.prog 9 T t4) fun t5 => oInt .add .u8 t3 t5 fun t6 => oCv .i64 t6 f
theorem S84_g : ∃ T : Value, ∀ (β : Type) (lf : Nat) (cK : CallK β) (x : Value) (L : Nat) (m : Mem) (k : Value → Mem → Option β), S84 lf cK [x] L m k = g84 T x fun v => k v m := ⟨_, fun _ _ _ _ _ _ _ => rfl⟩
theorem ik_as {β : Type} (kd : IntKind) (x : Value) (F : Int → Option Value) (g : Value → Option β) : oOpt (ik kd x F) g = ik kd x fun a => oOpt (F a) g := by
  cases x with
  | int j a =>
    show oOpt (match Nat.beq (kix j) (kix kd) with | true => F a | false => none) g = match Nat.beq (kix j) (kix kd) with | true => oOpt (F a) g | false => none
    cases Nat.beq (kix j) (kix kd) <;> rfl
  | _ => rfl
theorem oOpt_id {β : Type} (x : Option Value) (f : Value → Option β) : oOpt (oOpt x some) f = oOpt x f := by cases x <;> rfl
theorem oInt_as {β : Type} (op : BinOp) (kd : IntKind) (x y : Value) (f : Value → Option β) : oInt op kd x y f = oOpt (oInt op kd x y some) f := by
  unfold oInt
  rw [ik_as]
  congr 1; funext a
  rw [ik_as]
  congr 1; funext b
  rw [oOpt_id]
theorem oCv_as {β : Type} (kd : IntKind) (x : Value) (f : Value → Option β) : oCv kd x f = oOpt (oCv kd x some) f := by
  cases x with
  | int j a =>
    show oOpt _ f = oOpt (oOpt _ some) f
    rw [oOpt_id]
  | _ => rfl
theorem oInt_bind {β : Type} (op : BinOp) (kd : IntKind) (x y : Value) (F : Value → Option Value) (g : Value → Option β) : oOpt (oInt op kd x y F) g = oInt op kd x y fun v => oOpt (F v) g := by
  rw [oInt_as op kd x y F, oOpt_as, ← oInt_as]
theorem g84_as {β : Type} (T x : Value) (f : Value → Option β) : g84 T x f = oOpt (g84 T x some) f := by
  unfold g84
  rw [oOpt_as]
  congr 1; funext t2
  rw [oOpt_as]
  congr 1; funext t3
  rw [oInt_bind]
  congr 1; funext t4
  rw [oOpt_as]
  congr 1; funext t5
  rw [oInt_bind]
  congr 1; funext t6
  exact oCv_as _ _ _
/-- The number of bits, by the tables. -/
noncomputable def pop84 (x : Nat) : Option Value := S84 (β := Value) 0 (fun _ _ _ _ _ => none) [.int .u16 (Int.ofNat x)] 0 ⟨.e, 0⟩ fun v _ => some v
noncomputable def chk84 (x : Nat) : Bool := match pop84 x with
  | some (.int k z) => (match k with | .i64 => true | _ => false) && ieq z (Int.ofNat (popN x))
  | _ => false
theorem chk84_all : ((List.range 1024).all chk84) = true := by kernel_rfl
theorem pop84_e {x : Nat} (hx : x < 1024) : pop84 x = some (.int .i64 (popN x : Int)) := by
  have h := List.all_eq_true.1 chk84_all x (List.mem_range.2 hx)
  unfold chk84 at h
  split at h
  · rename_i k z hz
    rw [hz]
    simp only [Bool.and_eq_true] at h
    obtain ⟨h1, h2⟩ := h
    rw [ieq_e, decide_eq_true_eq] at h2
    split at h1
    · rw [h2]; rfl
    · cases h1
  · cases h
section
variable {lf n L : Nat} {m : Mem} {k : Value → Mem → Option Unit}
theorem pop_sp {x : Nat} (hx : x < 1024) (hk : k (.int .i64 (popN x : Int)) m = some ()) : runT (tab lf) (n + 1) 84 [.int .u16 (x : Int)] L m k = some () := by
  rw [r84]
  have h : S84 lf (runT (tab lf) n) [.int .u16 (x : Int)] L m k = oOpt (pop84 x) fun v => k v m := by
    obtain ⟨T, hT⟩ := S84_g
    unfold pop84
    rw [hT, hT, g84_as]
    rfl
  rw [h, pop84_e hx, oOpt_e]
  exact hk
end
end Go.Vit

/- Walks: all blends are gone through, by their bits; what a round of the law does. -/
namespace Go.Vit
open Go Go.Proofs
attribute [local irreducible] runT loopS
/-- One cell. -/
abbrev Cel (m : Mem) (b : Nat) (v : Value) : Prop := m.rd b = some ⟨1, [v], none⟩
theorem bit_e (x i : Nat) : decide ((((x >>> i) &&& 1 : Nat) : Int) = 1) = x.testBit i := by
  rw [Nat.and_one_is_mod, Nat.testBit_eq_decide_div_mod_eq, Nat.shiftRight_eq_div_pow]
  refine decide_eq_decide.2 ?_
  omega
section
variable {lf n L : Nat} {m : Mem} {k : Value → Mem → Option Unit}
theorem held_sp {x N : Nat} (hlf : 1000000 ≤ lf) (hL : L ≤ m.next) (hx : x < 1024) (hN : N ≤ 10) (hk : ∀ u m', Gt m m' → GN m.next m' u (heldN x N) → k u m' = some ()) : runT (tab lf) (n + 1) 85 [.int .u16 (x : Int), .int .i64 (N : Int)] L m k = some () := by
  rw [r85]; dsimp only [S85, iofNat, inegSucc]
  try simp (disch := first | omega | with_unfolding_all exact id rfl | with_unfolding_all exact Nat.le_of_ble_eq_true rfl | (simp only [Jd, Je, Jr, Js, Jt, Nat.reduceAdd, allOne, oneCell, Bool.and_self, Jc]; first | done | omega)) only [↓Qa, ↓Qb, ↓Qc, Qd, Qe, Qf, Qg, Qh, Qi, Qj, Qk, Ql, Qm, Qn, Qo, Qp, Qq, Qr, Qs, Qt, Qu, Qv, Qw, Qx, Qy, ptrTo, Qz, QA, QB, QC, QD, QE, QF, QG, QH, QI, QJ, QK, QL, QM, QN, QO, QP, QQ, QR, QS, QT, QU, QV, QW, QX, QY, QZ, Ja, Jb, Jc, Jd, Je, Jf, Jg, Jh, Ji, Jj, Jk, Jl, Jm, Jn, Jo, Jp, Jq, Jr, Js, Jt, Nat.reduceAdd]
  refine loop_up N (fun i vs m' => ∃ w, vs = [w, .int .i64 (i : Int)] ∧ Gt m m' ∧ GN m.next m' w (heldN x i)) (by omega) ⟨_, rfl, Gt.refl _, GN.nil _ _⟩ ?_
  rintro i vs m5 hi ⟨w, rfl, e5, hw⟩ self hself
  have n5 := e5.next
  try simp (disch := first | omega | with_unfolding_all exact id rfl | with_unfolding_all exact Nat.le_of_ble_eq_true rfl | (simp only [Jd, Je, Jr, Js, Jt, Nat.reduceAdd, allOne, oneCell, Bool.and_self, Jc]; first | done | omega)) only [↓Qa, ↓Qb, ↓Qc, Qd, Qe, Qf, Qg, Qh, Qi, Qj, Qk, Ql, Qm, Qn, Qo, Qp, Qq, Qr, Qs, Qt, Qu, Qv, Qw, Qx, Qy, ptrTo, Qz, QA, QB, QC, QD, QE, QF, QG, QH, QI, QJ, QK, QL, QM, QN, QO, QP, QQ, QR, QS, QT, QU, QV, QW, QX, QY, QZ, Ja, Jb, Jc, Jd, Je, Jf, Jg, Jh, Ji, Jj, Jk, Jl, Jm, Jn, Jo, Jp, Jq, Jr, Js, Jt, Nat.reduceAdd]
  refine oIf_dec (fun h => ?_) (fun h => ?_)
  · have hiN : i < N := by omega
    have hle : (heldN x i).length ≤ i := by
      have := List.length_filter_le (fun i => x.testBit i) (List.range i)
      rw [List.length_range] at this
      exact this
    have hsx : x >>> i < 65536 := by
      rw [Nat.shiftRight_eq_div_pow]
      have := Nat.div_le_self x (2 ^ i)
      omega
    have hf6 : ∀ K : Value → Option Unit, oInt .add .i64 (.int .i64 (i : Int)) (.int .i64 1) K = K (.int .i64 ((i + 1 : Nat) : Int)) := fun K => by rw [oInt_add ⟨by omega, by omega⟩]; rfl
    have hsh := shr16 x i .i64 (by omega)
    rw [hsh, oOpt_e, show (1 : Int) = ((1 : Nat) : Int) from rfl, and16 hsx (by omega), eql16, show ((1 : Nat) : Int) = 1 from rfl, bit_e]
    have hst : heldN x (i + 1) = heldN x i ++ if x.testBit i = true then [i] else [] := by
      unfold heldN
      rw [List.range_succ, List.filter_append]
      congr 1
      by_cases hb : x.testBit i = true <;> simp [hb]
    cases hb : x.testBit i with
    | true =>
      rw [hb, if_pos rfl] at hst
      obtain ⟨w2, m6, h8, h9, h10, h11⟩ := GN.snoc (P := Try.prog) (t := 22) (L := L) (m0 := m) i ael22 (by omega) hw (by omega) (by omega) e5 (Nat.le_refl _)
      try simp (disch := first | omega | with_unfolding_all exact id rfl | with_unfolding_all exact Nat.le_of_ble_eq_true rfl | (simp only [Jd, Je, Jr, Js, Jt, Nat.reduceAdd, allOne, oneCell, Bool.and_self, Jc]; first | done | omega)) only [bs22, h8, hf6, ↓Qa, ↓Qb, Qd, Qe, Qf, Qg, Qh, Qi, Qj, Qk, Ql, Qm, Qn, Qo, Qp, Qq, Qr, Qs, Qt, Qu, Qv, Qw, Qx, Qy, ptrTo, Qz, QA, QB, QC, QD, QE, QF, QG, QH, QI, QJ, QK, QL, QM, QN, QO, QP, QQ, QR, QS, QT, QU, QV, QW, QX, QY, QZ, Ja, Jb, Jc, Jd, Je, Jf, Jg, Jh, Ji, Jj, Jk, Jl, Jm, Jn, Jo, Jp, Jq, Jr, Js, Jt, Nat.reduceAdd]
      repeat (rw [join_e]; try simp (disch := first | omega | with_unfolding_all exact id rfl | with_unfolding_all exact Nat.le_of_ble_eq_true rfl | (simp only [Jd, Je, Jr, Js, Jt, Nat.reduceAdd, allOne, oneCell, Bool.and_self, Jc]; first | done | omega)) only [bs22, h8, hf6, ↓Qa, ↓Qb, Qd, Qe, Qf, Qg, Qh, Qi, Qj, Qk, Ql, Qm, Qn, Qo, Qp, Qq, Qr, Qs, Qt, Qu, Qv, Qw, Qx, Qy, ptrTo, Qz, QA, QB, QC, QD, QE, QF, QG, QH, QI, QJ, QK, QL, QM, QN, QO, QP, QQ, QR, QS, QT, QU, QV, QW, QX, QY, QZ, Ja, Jb, Jc, Jd, Je, Jf, Jg, Jh, Ji, Jj, Jk, Jl, Jm, Jn, Jo, Jp, Jq, Jr, Js, Jt, Nat.reduceAdd])
      try simp (disch := first | omega | with_unfolding_all exact id rfl | with_unfolding_all exact Nat.le_of_ble_eq_true rfl | (simp only [Jd, Je, Jr, Js, Jt, Nat.reduceAdd, allOne, oneCell, Bool.and_self, Jc]; first | done | omega)) only [bs22, h8, hf6, ↓Qa, ↓Qb, Qd, Qe, Qf, Qg, Qh, Qi, Qj, Qk, Ql, Qm, Qn, Qo, Qp, Qq, Qr, Qs, Qt, Qu, Qv, Qw, Qx, Qy, ptrTo, Qz, QA, QB, QC, QD, QE, QF, QG, QH, QI, QJ, QK, QL, QM, QN, QO, QP, QQ, QR, QS, QT, QU, QV, QW, QX, QY, QZ, Ja, Jb, Jc, Jd, Je, Jf, Jg, Jh, Ji, Jj, Jk, Jl, Jm, Jn, Jo, Jp, Jq, Jr, Js, Jt, Nat.reduceAdd]
      refine hself hiN _ _ ⟨w2, rfl, h10, ?_⟩
      rw [hst]; exact h9.le n5
    | false =>
      rw [hb, if_neg (by decide), List.append_nil] at hst
      try simp (disch := first | omega | with_unfolding_all exact id rfl | with_unfolding_all exact Nat.le_of_ble_eq_true rfl | (simp only [Jd, Je, Jr, Js, Jt, Nat.reduceAdd, allOne, oneCell, Bool.and_self, Jc]; first | done | omega)) only [hf6, ↓Qa, ↓Qb, Qd, Qe, Qf, Qg, Qh, Qi, Qj, Qk, Ql, Qm, Qn, Qo, Qp, Qq, Qr, Qs, Qt, Qu, Qv, Qw, Qx, Qy, ptrTo, Qz, QA, QB, QC, QD, QE, QF, QG, QH, QI, QJ, QK, QL, QM, QN, QO, QP, QQ, QR, QS, QT, QU, QV, QW, QX, QY, QZ, Ja, Jb, Jc, Jd, Je, Jf, Jg, Jh, Ji, Jj, Jk, Jl, Jm, Jn, Jo, Jp, Jq, Jr, Js, Jt, Nat.reduceAdd]
      repeat (rw [join_e]; try simp (disch := first | omega | with_unfolding_all exact id rfl | with_unfolding_all exact Nat.le_of_ble_eq_true rfl | (simp only [Jd, Je, Jr, Js, Jt, Nat.reduceAdd, allOne, oneCell, Bool.and_self, Jc]; first | done | omega)) only [hf6, ↓Qa, ↓Qb, Qd, Qe, Qf, Qg, Qh, Qi, Qj, Qk, Ql, Qm, Qn, Qo, Qp, Qq, Qr, Qs, Qt, Qu, Qv, Qw, Qx, Qy, ptrTo, Qz, QA, QB, QC, QD, QE, QF, QG, QH, QI, QJ, QK, QL, QM, QN, QO, QP, QQ, QR, QS, QT, QU, QV, QW, QX, QY, QZ, Ja, Jb, Jc, Jd, Je, Jf, Jg, Jh, Ji, Jj, Jk, Jl, Jm, Jn, Jo, Jp, Jq, Jr, Js, Jt, Nat.reduceAdd])
      try simp (disch := first | omega | with_unfolding_all exact id rfl | with_unfolding_all exact Nat.le_of_ble_eq_true rfl | (simp only [Jd, Je, Jr, Js, Jt, Nat.reduceAdd, allOne, oneCell, Bool.and_self, Jc]; first | done | omega)) only [hf6, ↓Qa, ↓Qb, Qd, Qe, Qf, Qg, Qh, Qi, Qj, Qk, Ql, Qm, Qn, Qo, Qp, Qq, Qr, Qs, Qt, Qu, Qv, Qw, Qx, Qy, ptrTo, Qz, QA, QB, QC, QD, QE, QF, QG, QH, QI, QJ, QK, QL, QM, QN, QO, QP, QQ, QR, QS, QT, QU, QV, QW, QX, QY, QZ, Ja, Jb, Jc, Jd, Je, Jf, Jg, Jh, Ji, Jj, Jk, Jl, Jm, Jn, Jo, Jp, Jq, Jr, Js, Jt, Nat.reduceAdd]
      exact hself hiN _ _ ⟨w, rfl, e5, by rw [hst]; exact hw⟩
  · have : i = N := by omega
    subst this
    exact hk _ _ e5 hw
/-- All blends of a size are handed to a function, one after another. -/
theorem blends_sp {X : Nat → Prop} {J : List (List Nat) → Mem → Prop} {N kk g : Nat} {caps : List Value} (hlf : 1000000 ≤ lf) (hg : Nat.blt g RB = true) (hL : L ≤ m.next) (hN1 : 1 ≤ N) (hN : N ≤ 10) (hX : ∀ c, X c → c < m.next) (hJ0 : J [] m) (hJm : ∀ seen m m', J seen m → Gt m m' → J seen m')
    (hy : ∀ {m1 u b seen K}, GtX X m m1 → J seen m1 → seen.length ≤ 1100 → (∀ c ∈ seen, Bl N kk c) → IN m1 u b → Bl N kk b → (∀ c, bid u = some c → ¬ X c) → (∀ m2, GtX X m1 m2 → J (seen ++ [b]) m2 → K (.tuple ⟨[]⟩) m2 = some ()) → runT (tab lf) (n + 8) g (u :: caps) L m1 K = some ())
    (hk : ∀ m', GtX X m m' → J (allH N kk) m' → k (.tuple ⟨[]⟩) m' = some ()) :
    runT (tab lf) (n + 9) 44 [.int .i64 (N : Int), .int .i64 (kk : Int), .func (.func g) #[] ⟨caps⟩] L m k = some () := by
  rw [r44]; dsimp only [S44, iofNat, inegSucc]
  have hp : 2 ^ N ≤ 1024 := by
    have : 2 ^ N ≤ 2 ^ 10 := Nat.pow_le_pow_right (by omega) hN
    omega
  have hsl := shl16 N (by omega)
  rw [uc_e, uc_e, uc_e, un0_e, hsl, oOpt_e]
  refine loop_up (2 ^ N) (fun x vs m' => vs = [.int .u16 (x : Int)] ∧ GtX X m m' ∧ J (allI N kk x) m') (by omega) ⟨rfl, GtX.refl _, hJ0⟩ ?_
  rintro x vs m1 hx' ⟨rfl, e1, hj⟩ self hself
  have n1 := e1.next
  rw [uc_e, lss16]
  refine oIf_dec (fun h => ?_) (fun h => ?_)
  · have hx : x < 2 ^ N := by omega
    have hf6 : ∀ K : Value → Option Unit, oInt .add .u16 (.int .u16 (x : Int)) (.int .u16 1) K = K (.int .u16 ((x + 1 : Nat) : Int)) := fun K => add16 (b := 1) (by omega) K
    refine pop_sp (by omega) ?_
    rw [oInt_eql, join_e]
    by_cases hp : popN x = kk
    · have hbl := held_bl hN hx hp
      rw [decide_eq_true (show (popN x : Int) = (kk : Int) by omega), oIf_t]
      refine held_sp hlf (by omega) (by omega) hN fun u m2 e2 hu => ?_
      have n2 := e2.next
      have hub := hu.bid_lt
      rw [oCallV_e (hf := hg)]
      show runT (tab lf) (n + 8) g (u :: caps) L m2 _ = some ()
      have hlen : (allI N kk x).length ≤ x := by
        unfold allI
        have := List.length_filter_le (fun x => decide (popN x = kk)) (List.range x)
        rw [List.length_range] at this
        rw [List.length_map]; exact this
      refine hy (e1.trans (GtX.of e2)) (hJm _ _ _ hj e2) (by omega) (fun c hc => ?_) hu.inn hbl (fun c hc hxc => by have := hub c hc; have := hX c hxc; omega) fun m3 e3 hj3 => ?_
      · unfold allI at hc
        obtain ⟨y, hy, rfl⟩ := List.mem_map.1 hc
        obtain ⟨hy1, hy2⟩ := List.mem_filter.1 hy
        exact held_bl hN (by have := List.mem_range.1 hy1; omega) (of_decide_eq_true hy2)
      show (oInt .add .u16 (.int .u16 (x : Int)) (.int .u16 1) fun t19 => self [t19] _) = some ()
      rw [hf6]
      exact hself (by omega) _ _ ⟨rfl, (e1.trans (GtX.of e2)).trans e3, by rw [allI_t hp]; exact hj3⟩
    · rw [decide_eq_false (show ¬ (popN x : Int) = (kk : Int) by omega), oIf_f]
      show (oInt .add .u16 (.int .u16 (x : Int)) (.int .u16 1) fun t19 => self [t19] _) = some ()
      rw [hf6]
      exact hself (by omega) _ _ ⟨rfl, e1, by rw [allI_f hp]; exact hj⟩
  · have : x = 2 ^ N := by omega
    subst this
    exact hk _ e1 hj

end
end Go.Vit

/- Walks: a map of sets; blends that are numbered; lists kept that can be cut. -/
namespace Go.Vit
open Go Go.Proofs
attribute [local irreducible] runT loopS
def entD (ls : List (List Nat)) : List (Int × Value) := ls.map fun l => ((setN l : Nat), .bool true)
theorem u61 : Try.prog.underlying 61 = some (.map 63 4) := by kernel_rfl
theorem u63 : Try.prog.underlying 63 = some (.int .u16) := by kernel_rfl
theorem z4 : tzero Try.prog 4 = some (.bool false) := by kernel_rfl
theorem look16 {m : Mem} {b s : Nat} {ls : List (List Nat)} (hb : m.rd b = some ⟨0, [], some (entsI .u16 (entD ls))⟩) (h : s ∉ ls.map setN) : alookup Try.prog m 61 (.map (some b)) (.int .u16 (s : Int)) false = some (.bool false) :=
  alookup_miss u61 (by rw [keyEq_int u63]; simp) hb (mapFind_none u63 _ _ fun p hp => by
    obtain ⟨l, hl, rfl⟩ := List.mem_map.1 hp
    exact fun e => h (List.mem_map.2 ⟨l, hl, (Int.ofNat.inj e).symm⟩)) z4 rfl
theorem upd16 {m : Mem} {L b : Nat} {l : List Nat} {ls : List (List Nat)} (hL : L ≤ b) (hb : m.rd b = some ⟨0, [], some (entsI .u16 (entD ls))⟩) (h : setN l ∉ ls.map setN) :
    amapUpdate Try.prog L m 61 (.map (some b)) (.int .u16 (setN l : Int)) (.bool true) = some (Go.undef, m.put b (some ⟨0, [], some (entsI .u16 (entD (ls ++ [l])))⟩)) := by
  refine amapUpdate_e u61 (by rw [keyEq_int u63]; simp) hL hb ?_
  rw [mapPut_new (mapFind_none u63 _ _ fun p hp => by
    obtain ⟨l, hl, rfl⟩ := List.mem_map.1 hp
    exact fun e => h (List.mem_map.2 ⟨l, hl, (Int.ofNat.inj e).symm⟩))]
  simp [entsI, entD]
theorem or16 {a b : Nat} (ha : a < 65536) (hb : b < 65536) (f : Value → Option Unit) : oInt .or .u16 (.int .u16 (a : Int)) (.int .u16 (b : Int)) f = f (.int .u16 ((a ||| b : Nat) : Int)) := by
  rw [oInt16]
  show oOpt (mkI .u16 (abits .or .u16 (Int.ofNat a) (Int.ofNat b))) f = _
  unfold abits
  simp only [fits16 ha, fits16 hb, Bool.and_self, fastBits]
  rw [mkI_e, oOpt_e]; rfl
theorem cel_nw {L : Nat} {m : Mem} {v0 v : Value} {K : Value → Mem → Option Unit} (hL : L ≤ m.next) (hv : v.cells.toList = [v]) (ho : oneCell v = true)
    (hk : ∀ m', Gt m m' → Cel m' m.next v → m'.next = m.next + 1 → K (.pointer (some ⟨m.next, 0, none⟩)) m' = some ()) :
    (oRes (anew m 1 [v0] ptrTo) fun t m1 => oRes (st1 1 L m1 t v) fun _ m2 => K t m2) = some () := by
  rw [anew_eq, oRes_e]
  unfold ptrTo
  have h0 : Cel (m.push ⟨1, [v0], none⟩) m.next v0 := Mem.rd_push _ _
  rw [st_set h0 Nat.zero_lt_one hL hv ho, oRes_e]
  exact hk _ (Mem.put_gt (Mem.gt_push _ _) _ (Nat.le_refl _)) (Mem.rd_put_eq _ _ (Mem.rd_lt h0)) rfl
/-! A grown slice of slices that can be cut. -/
def DG (lo : Nat) (m : Mem) (u : Value) (ll : List (List Nat)) : Prop :=
  ∃ L1 cs, lo ≤ L1 ∧ L1 ≤ m.next ∧ Gs 1 L1 m u ll.length cs ∧ ∀ i (h : i < ll.length), ∃ v, cs[i]? = some v ∧ IN m v ll[i] ∧ Opn v ∧ ∀ c, bid v = some c → lo ≤ c ∧ c < L1
theorem DG.keep {lo : Nat} {m m' : Mem} {u : Value} {ll : List (List Nat)} (h : DG lo m u ll) (hk : ∀ c, lo ≤ c → c < m.next → m'.rd c = m.rd c) (hn : m.next ≤ m'.next) : DG lo m' u ll := by
  obtain ⟨L1, cs, h1, h2, h3, h4⟩ := h
  refine ⟨L1, cs, h1, by omega, ?_, fun i hi => ?_⟩
  · rcases h3 with h3 | ⟨b, g1, g2, g3, g4⟩
    · exact .inl h3
    · exact .inr ⟨b, g1, g2, (hk b (by omega) (Mem.rd_lt g3)).trans g3, g4⟩
  · obtain ⟨v, g1, g2, g0, g3⟩ := h4 i hi
    exact ⟨v, g1, g2.keep fun c hc => hk c (g3 c hc).1 (by have := g3 c hc; omega), g0, g3⟩
theorem DG.mono {lo : Nat} {m m' : Mem} {u : Value} {ll : List (List Nat)} (h : DG lo m u ll) (e : Gt m m') : DG lo m' u ll := h.keep (fun c _ hc => e.kept c hc) e.next
theorem DG.nil {lo : Nat} {m : Mem} (h : lo ≤ m.next) : DG lo m (.slice none 0 0) [] := ⟨lo, [], Nat.le_refl _, h, Gs.nil _ _ _, fun i hi => by cases hi⟩
theorem DG.ll {lo : Nat} {m : Mem} {u : Value} {ll : List (List Nat)} (h : DG lo m u ll) : LL m u ll := by
  obtain ⟨L1, cs, h1, h2, h3, h4⟩ := h
  refine ⟨cs, h3.sl, fun i hi => ?_⟩
  obtain ⟨v, g1, g2, g0, g3⟩ := h4 i hi
  exact ⟨v, g1, g2⟩
theorem DG.fr {lo : Nat} {m : Mem} {u : Value} {ll : List (List Nat)} (h : DG lo m u ll) : ∀ c, bid u = some c → lo ≤ c ∧ c < m.next := by
  obtain ⟨L1, cs, h1, h2, h3, h4⟩ := h
  intro c hc
  have := h3.bid_lt c hc
  omega
theorem DG.ld {lo : Nat} {m : Mem} {u : Value} {ll : List (List Nat)} (h : DG lo m u ll) {i : Nat} (hi : i < ll.length) : ∃ v, ld1 m (ep 1 u i) = some v ∧ IN m v ll[i] ∧ Opn v := by
  obtain ⟨L1, cs, h1, h2, h3, h4⟩ := h
  obtain ⟨v, g1, g2, g0, g3⟩ := h4 i hi
  exact ⟨v, h3.sl.ld hi g1, g2, g0⟩
theorem DG.snoc {P : Program} {t : TypeId} {y lo L : Nat} {m0 m : Mem} {u v : Value} {ll : List (List Nat)} {w : List Nat} (ht : aelem P t = some (1, y)) (hy : y ≤ 134217728) (h : DG lo m u ll) (hw : IN m v w) (hvo : Opn v) (hvb : ∀ c, bid v = some c → lo ≤ c ∧ c < m.next) (hne : ∀ c, bid v = some c → bid u ≠ some c)
    (hl : ll.length < 1000000) (hL : L ≤ lo) (e : Gt m0 m) (hm : m0.next ≤ lo) :
    ∃ x m', aappend P L (m.push ⟨1, [v], none⟩) t u (slTo 1 m.next) = some (x, m') ∧ DG lo m' x (ll ++ [w]) ∧ Gt m0 m' ∧ m.next ≤ m'.next ∧ ∀ c, c < m.next → bid u ≠ some c → m'.rd c = m.rd c := by
  obtain ⟨L1, cs, h1, h2, h3, h4⟩ := h
  have gp := Mem.gt_push m ⟨1, [v], none⟩
  have hx : Sl 1 (m.push ⟨1, [v], none⟩) (slTo 1 m.next) 1 [v] := Gs.sl (L := m.next) (.inr ⟨m.next, Nat.le_refl _, rfl, Mem.rd_push _ _, rfl, by omega⟩)
  have ho : allOne [v] = true := by
    obtain ⟨p, c, rfl⟩ := hw.ex
    rfl
  have hnx : (m.push ⟨1, [v], none⟩).next = m.next + 1 := Mem.push_next _ _
  obtain ⟨x, m', g1, g2, g3, g4, g5⟩ := Gs.append2 (P := P) (L := L) (m0 := m0) ht (h3.mono gp) hx (by omega) ho (roomy_of (by omega) hy) rfl (by omega) (e.trans gp) (by omega)
  have hkeep : ∀ c, c < m.next → bid u ≠ some c → m'.rd c = m.rd c := fun c hc hb => (g5 c (by omega) hb).trans (gp.kept c hc)
  have hub : ∀ c, c < L1 → bid u ≠ some c := fun c hc hb => by have := h3.fr c hb; omega
  have hcl : cs.length = ll.length := by
    rcases h3 with ⟨_, a2, a3⟩ | ⟨_, _, _, _, a5, _⟩
    · rw [a2, a3]; rfl
    · omega
  refine ⟨x, m', g1, ⟨m.next + 1, cs ++ [v], by omega, by omega, ?_, fun i hi => ?_⟩, g3, by omega, hkeep⟩
  · rw [List.length_append]
    exact g2.le (by omega)
  · rw [List.length_append] at hi
    by_cases hil : i < ll.length
    · obtain ⟨y, k1, k2, k0, k3⟩ := h4 i hil
      refine ⟨y, ?_, ?_, k0, fun c hc => by have := k3 c hc; omega⟩
      · rw [List.getElem?_append_left (by omega)]; exact k1
      · rw [List.getElem_append_left hil]
        exact k2.keep fun c hc => hkeep c (by have := k3 c hc; omega) (hub c (k3 c hc).2)
    · have hie : i = ll.length := by simp at hi; omega
      subst hie
      refine ⟨v, ?_, ?_, hvo, fun c hc => by have := hvb c hc; omega⟩
      · rw [List.getElem?_append_right (by omega), hcl, Nat.sub_self]; rfl
      · rw [List.getElem_append_right (by omega)]
        simp only [Nat.sub_self, List.getElem_cons_zero]
        exact hw.keep fun c hc => hkeep c (hvb c hc).2 (hne c hc)
section
variable {lf n L : Nat} {m : Mem} {k : Value → Mem → Option Unit}
theorem nth20o_sp {a q i : Nat} (hlf : 1000000 ≤ lf) (hL : L ≤ m.next) (h1 : 1 ≤ a) (h10 : a ≤ 10) (hq : q ≤ a) (hi : i < chs a q)
    (hk : ∀ u m', Gt m m' → IN m' u (nthK q i) → (∀ c, bid u = some c → m.next ≤ c ∧ c < m'.next) → Opn u → k (.tuple ⟨[u, .int .i64 0]⟩) m' = some ()) :
    runT (tab lf) (n + 3) 20 [.int .i64 (a : Int), .int .i64 (q : Int), .int .i64 (i : Int)] L m k = some () := by
  rw [r20]; dsimp only [S20, iofNat, inegSucc]
  try simp (disch := first | omega | with_unfolding_all exact id rfl | with_unfolding_all exact Nat.le_of_ble_eq_true rfl | (simp only [Jd, Je, Jr, Js, Jt, Nat.reduceAdd, allOne, oneCell, Bool.and_self, Jc]; first | done | omega)) only [↓Qa, ↓Qb, ↓Qc, Qd, Qe, Qf, Qg, Qh, Qi, Qj, Qk, Ql, Qm, Qn, Qo, Qp, Qq, Qr, Qs, Qt, Qu, Qv, Qw, Qx, Qy, ptrTo, Qz, QA, QB, QC, QD, QE, QF, QG, QH, QI, QJ, QK, QL, QM, QN, QO, QP, QQ, QR, QS, QT, QU, QV, QW, QX, QY, QZ, Ja, Jb, Jc, Jd, Je, Jf, Jg, Jh, Ji, Jj, Jk, Jl, Jm, Jn, Jo, Jp, Jq, Jr, Js, Jt, Nat.reduceAdd]
  refine sized_sp ?_
  have h : szE (a : Int) (q : Int) = 0 := if_pos ⟨⟨by omega, by omega⟩, by omega, by omega⟩
  have hcl := chs_le (n := a) (k := q) (by omega)
  rw [h]
  try simp (disch := first | omega | with_unfolding_all exact id rfl | with_unfolding_all exact Nat.le_of_ble_eq_true rfl | (simp only [Jd, Je, Jr, Js, Jt, Nat.reduceAdd, allOne, oneCell, Bool.and_self, Jc]; first | done | omega)) only [↓Qa, ↓Qb, ↓Qc, Qd, Qe, Qf, Qg, Qh, Qi, Qj, Qk, Ql, Qm, Qn, Qo, Qp, Qq, Qr, Qs, Qt, Qu, Qv, Qw, Qx, Qy, ptrTo, Qz, QA, QB, QC, QD, QE, QF, QG, QH, QI, QJ, QK, QL, QM, QN, QO, QP, QQ, QR, QS, QT, QU, QV, QW, QX, QY, QZ, Ja, Jb, Jc, Jd, Je, Jf, Jg, Jh, Ji, Jj, Jk, Jl, Jm, Jn, Jo, Jp, Jq, Jr, Js, Jt, Nat.reduceAdd]
  refine choose_sp hlf (by omega) (by omega) ?_
  rw [oInt_sub ⟨by omega, by omega⟩]
  refine within_sp _ _ _ ?_
  have hi' : 0 ≤ (i : Int) ∧ (i : Int) ≤ (chs a q : Int) - 1 := by omega
  try simp (disch := first | omega | with_unfolding_all exact id rfl | with_unfolding_all exact Nat.le_of_ble_eq_true rfl | (simp only [Jd, Je, Jr, Js, Jt, Nat.reduceAdd, allOne, oneCell, Bool.and_self, Jc]; first | done | omega)) only [decide_eq_true hi', ↓Qa, ↓Qb, ↓Qc, Qd, Qe, Qf, Qg, Qh, Qi, Qj, Qk, Ql, Qm, Qn, Qo, Qp, Qq, Qr, Qs, Qt, Qu, Qv, Qw, Qx, Qy, ptrTo, Qz, QA, QB, QC, QD, QE, QF, QG, QH, QI, QJ, QK, QL, QM, QN, QO, QP, QQ, QR, QS, QT, QU, QV, QW, QX, QY, QZ, Ja, Jb, Jc, Jd, Je, Jf, Jg, Jh, Ji, Jj, Jk, Jl, Jm, Jn, Jo, Jp, Jq, Jr, Js, Jt, Nat.reduceAdd]
  exact nth_sp hlf hL h10 hq hi fun u m' e hu hb ho => hk _ _ e hu hb ho
end
end Go.Vit

