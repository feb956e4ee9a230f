/- Walks: the keys. -/
import Derived.Test.YticlkfhmmcepjaaDoorW9
set_option linter.unusedSimpArgs false
set_option linter.unusedVariables false
set_option maxRecDepth 20000
namespace Go.Vit
open Go Go.Proofs
attribute [local irreducible] runT loopS
theorem u112 : Tryd.prog.underlying 112 = some (.int .u64) := by kernel_rfl
/-- The number of the lowest bit. -/
def tz (x : Nat) : Nat := ((List.range 6).find? fun i => x.testBit i).getD 0
def tzI (x : Nat) : Int := ashr (fwrap .u64 (Int.mul (abits .and .u64 (x : Int) (fwrap .u64 (Int.sub 0 (x : Int)))) 285870213051353865)) (nmin (Int.toNat 58) (bitsN .u64))
theorem tz_all : ∀ x : Fin 64, x.val ≠ 0 → 0 ≤ tzI x.val ∧ (tzI x.val).toNat < 64 ∧ db64[(tzI x.val).toNat]? = some (tz x.val : Int) := by decide +kernel
theorem tz_bits : ∀ x : Fin 64, x.val ≠ 0 → tz x.val < 6 ∧ x.val.testBit (tz x.val) = true ∧ (x.val &&& (x.val - 1)) < x.val ∧ ∀ i : Fin 6, (x.val &&& (x.val - 1)).testBit i.val = (x.val.testBit i.val && !decide (i.val = tz x.val)) := by decide +kernel
theorem oInt_u (op : BinOp) (a b : Int) (k : Value → Option Unit) : oInt op .u64 (.int .u64 a) (.int .u64 b) k = oOpt (aint op .u64 a b) k := rfl
def keyCount (gs : List Nat) (x : Nat) : Int := ((gs.filter fun g => g.testBit x).length : Int)
def keysX (h : Int) (l : List Int) : List Int := if chk h l = 0 then (List.range h.toNat).map (keyCount (nn l)) else []
theorem oCv_u64 (a : Nat) (ha : a < 64) (k : Value → Option Unit) : oCv .u64 (.int .i64 (a : Int)) k = k (.int .u64 (a : Int)) := by
  have h : fwrap .u64 (a : Int) = (a : Int) := by
    have : fits .u64 (Int.ofNat a) = true := by
      show Nat.blt a 18446744073709551616 = true
      have : a < 18446744073709551616 := by omega
      simpa using this
    show fwrap .u64 (Int.ofNat a) = _
    unfold fwrap
    rw [this]; rfl
  show oOpt (mkI .u64 (fwrap .u64 (a : Int))) k = _
  rw [h, mkI_e, oOpt_e]
theorem oInt_neq_u (a b : Int) (k : Value → Option Unit) : oInt .neq .u64 (.int .u64 a) (.int .u64 b) k = k (.bool (!decide (a = b))) := by
  rw [oInt_u]; simp only [aint, ieq_e, mkB_e, oOpt_e]
theorem fits_u64 {a : Nat} (ha : a < 64) : fits .u64 (Int.ofNat a) = true := by
  show Nat.blt a 18446744073709551616 = true
  have : a < 18446744073709551616 := by omega
  simpa using this
theorem oInt_sub_u1 {a : Nat} (h0 : a ≠ 0) (ha : a < 64) (k : Value → Option Unit) : oInt .sub .u64 (.int .u64 (a : Int)) (.int .u64 1) k = k (.int .u64 ((a - 1 : Nat) : Int)) := by
  rw [oInt_u]
  show oOpt (mkI .u64 (fwrap .u64 ((a : Int) - 1))) k = _
  rw [show ((a : Int) - 1) = Int.ofNat (a - 1) by rw [Int.ofNat_eq_natCast]; omega]
  have : fwrap .u64 (Int.ofNat (a - 1)) = Int.ofNat (a - 1) := by unfold fwrap; rw [fits_u64 (show a - 1 < 64 by omega)]
  rw [this, mkI_e, oOpt_e]; rfl
theorem oInt_and_u {a b : Nat} (ha : a < 64) (hb : b < 64) (k : Value → Option Unit) : oInt .and .u64 (.int .u64 (a : Int)) (.int .u64 (b : Int)) k = k (.int .u64 ((a &&& b : Nat) : Int)) := by
  rw [oInt_u]
  show oOpt (mkI .u64 (abits .and .u64 (Int.ofNat a) (Int.ofNat b))) k = _
  unfold abits
  simp only [fits_u64 ha, fits_u64 hb, Bool.and_self]
  rw [mkI_e, oOpt_e]; rfl
theorem keyCount_take {gs : List Nat} {i x : Nat} (h : i < gs.length) : keyCount (gs.take (i + 1)) x = keyCount (gs.take i) x + (if gs[i].testBit x then 1 else 0) := by
  unfold keyCount
  rw [take_filter_succ gs (fun g => g.testBit x) h]
  split
  · rw [List.length_append]; simp
  · simp
theorem keyCount_le (gs : List Nat) (i x : Nat) : 0 ≤ keyCount (gs.take i) x ∧ keyCount (gs.take i) x ≤ gs.length := by
  unfold keyCount
  have := filter_take_len gs (fun g => g.testBit x) i
  omega
theorem intV_len (l : List Int) : (intV l).length = l.length := List.length_map _
theorem azrow_get0 (x : Int) : ∀ (n i : Nat), i < n → (azrow [.int .i64 x] n)[i]? = some (.int .i64 x)
  | n + 1, 0, _ => rfl
  | n + 1, i + 1, h => by
    show (azrow [.int .i64 x] n)[i]? = _
    exact azrow_get0 x n i (by omega)
theorem tby3 : tbytes Tryd.prog 3 = some 8 := by kernel_rfl
theorem make22 (m : Mem) {a : Nat} (ha : a ≤ 6) : amakeSlice Tryd.prog m 22 (.int .i64 (a : Int)) (.int .i64 (a : Int)) = some (.slice (some ⟨m.next, 0, none⟩) a a, m.push ⟨1, azrow [.int .i64 0] a, none⟩) := by
  unfold amakeSlice
  have h1 : anat (.int .i64 (a : Int)) = some a := by
    show anat (.int .i64 (Int.ofNat a)) = _
    simp only [anat, natK_eq]
  simp only [u22, az3, ts3, tby3, h1]
  have h2 : Nat.mul 8 a = 8 * a := rfl
  rw [h2, ble_t (Nat.le_refl a), ble_t (show a ≤ 1048576 by omega), ble_t (show 8 * a ≤ 281474976710656 by omega)]
  simp only [List.length_singleton, Nat.beq_refl, Bool.and_self, anew_eq]
section
variable {lf n L : Nat} {m : Mem} {k : Value → Mem → Option Unit}
theorem tz64_sp {x : Nat} (hT : TabOk mTab m) (hx : x < 64) (h0 : x ≠ 0) (hk : k (.int .i64 (tz x : Int)) m = some ()) : runT (tab lf) (n + 1) 92 [.int .u64 (x : Int)] L m k = some () := by
  rw [r92]
  dsimp only [S92, iofNat, inegSucc]
  obtain ⟨h1, h2, h3⟩ := tz_all ⟨x, hx⟩ h0
  simp only at h1 h2 h3
  have hz : ieq (x : Int) 0 = false := by rw [ieq_e]; exact decide_eq_false (by omega)
  have hr1 : m.rd 1 = some k1 := by rw [hT.2 1 (by decide)]; exact rd1
  have hn : aun .neg (.int .u64 (x : Int)) = some (.int .u64 (fwrap .u64 (Int.sub 0 (x : Int)))) := by
    show mkI .u64 _ = _
    rw [mkI_e]
  try simp (disch := first | omega | with_unfolding_all exact id rfl | with_unfolding_all exact Nat.le_of_ble_eq_true rfl | (simp only [Jd, Je, Jr, Js, Jt, Nat.reduceAdd, allOne, oneCell, Bool.and_self, Jc]; first | done | omega)) only [↓Qa, ↓Qb, ↓Qc, Qd, Qe, Qf, Qg, Qh, Qi, Qj, Qk, Ql, Qm, Qn, Qo, Qp, Qq, Qr, Qs, Qt, Qu, Qv, Qw, Qx, Qy, ptrTo, Qz, QA, QB, QC, QD, QE, QF, QG, QH, QI, QJ, QK, QL, QM, QN, QO, QP, QQ, QR, QS, QT, QU, QV, QW, QX, QY, QZ, Ja, Jb, Jc, Jd, Je, Jf, Jg, Jh, Ji, Jj, Jk, Jl, Jm, Jn, Jo, Jp, Jq, Jr, Js, Jt, Nat.reduceAdd]
  rw [oInt_u]
  simp only [aint, hz, mkB_e, oOpt_e, oIf_f, hn]
  rw [oInt_u]
  simp only [aint, mkI_e, oOpt_e]
  rw [oInt_u]
  simp only [aint, mkI_e, oOpt_e]
  have hs : ∀ z : Int, abin Tryd.prog .shr 112 (.int .u64 z) (.int .u64 58) = some (.int .u64 (ashr z (nmin (Int.toNat 58) (bitsN .u64)))) := fun z => by
    show ashift .shr .u64 z 58 = _
    unfold ashift
    rw [show ilt 58 0 = false from rfl]
    show mkI .u64 _ = _
    rw [mkI_e]
  rw [hs, oOpt_e]
  show oOpt (iaA 64 1 _ (.int .u64 (tzI x))) _ = _
  obtain ⟨j, hj⟩ : ∃ j : Nat, tzI x = j := ⟨(tzI x).toNat, by omega⟩
  rw [hj, Int.toNat_natCast] at h2 h3
  have hia : iaA 64 1 (.pointer (some ⟨1, 0, none⟩)) (.int .u64 (j : Int)) = some (.pointer (some ⟨1, 0 + j * 1, none⟩)) := by
    show iaA 64 1 _ (.int .u64 (Int.ofNat j)) = _
    have hb : Nat.blt j 64 = true := by simpa using h2
    simp only [iaA, hb, natK_eq]
    rfl
  rw [hj, hia, oOpt_e, ld1_u, hr1]
  have hc : rdo (some k1) (0 + j * 1) = some (.int .u8 (tz x : Int)) := by
    show (u8s db64)[0 + j * 1]? = _
    rw [Nat.zero_add, Nat.mul_one]
    simp only [u8s, List.getElem?_map, h3, Option.map_some]
  rw [hc, oOpt_e]
  have htz := (tz_bits ⟨x, hx⟩ h0).1
  simp only at htz
  have hcv : oCv .i64 (.int .u8 (tz x : Int)) (fun t9 => k t9 m) = k (.int .i64 (tz x : Int)) m := by
    show oOpt (mkI .i64 (fwrap .i64 (tz x : Int))) _ = _
    rw [fwrap_fit ⟨by omega, by omega⟩, mkI_e, oOpt_e]
  rw [hcv]
  exact hk
theorem tz_sp {x : Nat} (hT : TabOk mTab m) (hx : x < 64) (h0 : x ≠ 0) (hk : k (.int .i64 (tz x : Int)) m = some ()) : runT (tab lf) (n + 2) 80 [.int .u64 (x : Int)] L m k = some () := by
  rw [r80]
  dsimp only [S80, iofNat, inegSucc]
  try simp (disch := first | omega | with_unfolding_all exact id rfl | with_unfolding_all exact Nat.le_of_ble_eq_true rfl | (simp only [Jd, Je, Jr, Js, Jt, Nat.reduceAdd, allOne, oneCell, Bool.and_self, Jc]; first | done | omega)) only [↓Qa, ↓Qb, ↓Qc, Qd, Qe, Qf, Qg, Qh, Qi, Qj, Qk, Ql, Qm, Qn, Qo, Qp, Qq, Qr, Qs, Qt, Qu, Qv, Qw, Qx, Qy, ptrTo, Qz, QA, QB, QC, QD, QE, QF, QG, QH, QI, QJ, QK, QL, QM, QN, QO, QP, QQ, QR, QS, QT, QU, QV, QW, QX, QY, QZ, Ja, Jb, Jc, Jd, Je, Jf, Jg, Jh, Ji, Jj, Jk, Jl, Jm, Jn, Jo, Jp, Jq, Jr, Js, Jt, Nat.reduceAdd]
  exact tz64_sp hT hx h0 hk
theorem keys1_sp {h : Int} {v : Value} {l : List Int} (hlf : 1000000 ≤ lf) (hL : L ≤ m.next) (hT : TabOk mTab m) (hv : IL m v l) (hk : ∀ u m', Gt m m' → IL m' u (keysX h l) → k (.tuple ⟨[u, .int .i64 (chk h l)]⟩) m' = some ()) : runT (tab lf) (n + 8) 39 [Vit.hg h v] L m k = some () := by
  rw [r39]
  dsimp only [S39, iofNat, inegSucc]
  obtain ⟨p, c, rfl⟩ := hv.ex
  try simp (disch := first | omega | with_unfolding_all exact id rfl | with_unfolding_all exact Nat.le_of_ble_eq_true rfl | (simp only [Jd, Je, Jr, Js, Jt, Nat.reduceAdd, allOne, oneCell, Bool.and_self, Jc]; first | done | omega)) only [↓Qa, ↓Qb, ↓Qc, Qd, Qe, Qf, Qg, Qh, Qi, Qj, Qk, Ql, Qm, Qn, Qo, Qp, Qq, Qr, Qs, Qt, Qu, Qv, Qw, Qx, Qy, ptrTo, Qz, QA, QB, QC, QD, QE, QF, QG, QH, QI, QJ, QK, QL, QM, QN, QO, QP, QQ, QR, QS, QT, QU, QV, QW, QX, QY, QZ, Ja, Jb, Jc, Jd, Je, Jf, Jg, Jh, Ji, Jj, Jk, Jl, Jm, Jn, Jo, Jp, Jq, Jr, Js, Jt, Nat.reduceAdd]
  have g1 := Mem.gt_push m ⟨1, [.int .i64 h, .slice p l.length c], none⟩
  refine planned_sp hlf (by have := g1.next; omega) (hv.mono g1) fun m2 e2 => ?_
  have g1n := g1.next
  have e2n := e2.next
  try simp (disch := first | omega | with_unfolding_all exact id rfl | with_unfolding_all exact Nat.le_of_ble_eq_true rfl | (simp only [Jd, Je, Jr, Js, Jt, Nat.reduceAdd, allOne, oneCell, Bool.and_self, Jc]; first | done | omega)) only [↓Qa, ↓Qb, ↓Qc, Qd, Qe, Qf, Qg, Qh, Qi, Qj, Qk, Ql, Qm, Qn, Qo, Qp, Qq, Qr, Qs, Qt, Qu, Qv, Qw, Qx, Qy, ptrTo, Qz, QA, QB, QC, QD, QE, QF, QG, QH, QI, QJ, QK, QL, QM, QN, QO, QP, QQ, QR, QS, QT, QU, QV, QW, QX, QY, QZ, Ja, Jb, Jc, Jd, Je, Jf, Jg, Jh, Ji, Jj, Jk, Jl, Jm, Jn, Jo, Jp, Jq, Jr, Js, Jt, Nat.reduceAdd]
  have e3 : Gt m ((m2.push ⟨1, [.int .i64 0, .slice none 0 0], none⟩).put m2.next (some ⟨1, [.int .i64 h, .slice p l.length c], none⟩)) := Mem.put_gt ((g1.trans e2).trans (Mem.gt_push _ _)) _ (by omega)
  have h3 : At ((m2.push ⟨1, [.int .i64 0, .slice none 0 0], none⟩).put m2.next (some ⟨1, [.int .i64 h, .slice p l.length c], none⟩)) m2.next [.int .i64 h, .slice p l.length c] := Mem.rd_put_eq _ _ (by rw [Mem.push_next]; omega)
  generalize (m2.push ⟨1, [.int .i64 0, .slice none 0 0], none⟩).put m2.next (some ⟨1, [.int .i64 h, .slice p l.length c], none⟩) = m3 at e3 h3 ⊢
  have e3n := e3.next
  refine oIf_ndec (fun h4 => ?_) (fun h4 => ?_)
  · have := hk (.slice none 0 0) m3 e3 (by rw [keysX, if_neg h4]; exact IL.nil _)
    exact this
  · obtain ⟨a, rfl, ha1, ha6, hci, hlen, hlt, hlt64⟩ := chk_valid h4
    have hp := pow_le64 ha6
    have hin : IN m3 (.slice p l.length c) (nn l) := by unfold IN; rw [hci]; exact hv.mono e3
    have hnl := nn_length l
    rw [← hnl] at h3 hin
    have hh3 := h3.lt
    have hT3 := hT.mono e3
    have e4 := Mem.gt_push m3 ⟨1, azrow [.int .i64 0] a, none⟩
    have h34 := h3.mono e4
    have hin4 := hin.mono e4
    try simp (disch := first | omega | with_unfolding_all exact id rfl | with_unfolding_all exact Nat.le_of_ble_eq_true rfl | (simp only [Jd, Je, Jr, Js, Jt, Nat.reduceAdd, allOne, oneCell, Bool.and_self, Jc]; first | done | omega)) only [h3.rd, make22 m3 ha6, ln_e, ↓Qa, ↓Qb, ↓Qc, Qd, Qe, Qf, Qg, Qh, Qi, Qj, Qk, Ql, Qm, Qn, Qo, Qp, Qq, Qr, Qs, Qt, Qu, Qv, Qw, Qx, Qy, ptrTo, Qz, QA, QB, QC, QD, QE, QF, QG, QH, QI, QJ, QK, QL, QM, QN, QO, QP, QQ, QR, QS, QT, QU, QV, QW, QX, QY, QZ, Ja, Jb, Jc, Jd, Je, Jf, Jg, Jh, Ji, Jj, Jk, Jl, Jm, Jn, Jo, Jp, Jq, Jr, Js, Jt, Nat.reduceAdd]
    have hz : (m3.push ⟨1, azrow [.int .i64 0] a, none⟩).rd m3.next = some ⟨1, intV (List.replicate a 0), none⟩ := by
      rw [Mem.rd_push]
      have : azrow [.int .i64 0] a = intV (List.replicate a 0) := by
        refine List.ext_getElem? fun i => ?_
        by_cases hi : i < a
        · rw [azrow_get0 _ _ _ hi]; simp [intV, hi]
        · rw [List.getElem?_eq_none (by rw [azrow_len]; simp; omega), List.getElem?_eq_none (by simp [intV]; omega)]
      rw [this]
    refine loop_up (nn l).length (fun i vs m' => vs = [.int .i64 (i : Int)] ∧ Gt m3 m' ∧ IN m' (.slice p (nn l).length c) (nn l) ∧ ∃ cs : List Int, m'.rd m3.next = some ⟨1, intV cs, none⟩ ∧ cs.length = a ∧ ∀ x, x < a → cs[x]? = some (keyCount ((nn l).take i) x)) (by omega)
      ⟨rfl, e4, hin4, _, hz, by simp, fun x hx => by simp [hx, keyCount]⟩ ?_
    rintro i vs m5 hi ⟨rfl, e5, hin5, cs, hr5, hcl, hcs⟩ self hself
    try simp (disch := first | omega | with_unfolding_all exact id rfl | with_unfolding_all exact Nat.le_of_ble_eq_true rfl | (simp only [Jd, Je, Jr, Js, Jt, Nat.reduceAdd, allOne, oneCell, Bool.and_self, Jc]; first | done | omega)) only [↓Qa, ↓Qb, ↓Qc, Qd, Qe, Qf, Qg, Qh, Qi, Qj, Qk, Ql, Qm, Qn, Qo, Qp, Qq, Qr, Qs, Qt, Qu, Qv, Qw, Qx, Qy, ptrTo, Qz, QA, QB, QC, QD, QE, QF, QG, QH, QI, QJ, QK, QL, QM, QN, QO, QP, QQ, QR, QS, QT, QU, QV, QW, QX, QY, QZ, Ja, Jb, Jc, Jd, Je, Jf, Jg, Jh, Ji, Jj, Jk, Jl, Jm, Jn, Jo, Jp, Jq, Jr, Js, Jt, Nat.reduceAdd]
    refine oIf_dec (fun h5 => ?_) (fun h5 => ?_)
    · have h6 : i < (nn l).length := by omega
      have h7 : (nn l)[i] < 64 := hlt64 _ (List.getElem_mem h6)
      have h7a : (nn l)[i] < 2 ^ a := hlt _ (List.getElem_mem h6)
      have hkt : ∀ x, keyCount ((nn l).take (i + 1)) x = _ := fun x => keyCount_take (x := x) h6
      try simp (disch := first | omega | with_unfolding_all exact id rfl | with_unfolding_all exact Nat.le_of_ble_eq_true rfl | (simp only [Jd, Je, Jr, Js, Jt, Nat.reduceAdd, allOne, oneCell, Bool.and_self, Jc]; first | done | omega)) only [hin5.ia h6, hin5.ld h6, ↓Qa, ↓Qb, ↓Qc, Qd, Qe, Qf, Qg, Qh, Qi, Qj, Qk, Ql, Qm, Qn, Qo, Qp, Qq, Qr, Qs, Qt, Qu, Qv, Qw, Qx, Qy, ptrTo, Qz, QA, QB, QC, QD, QE, QF, QG, QH, QI, QJ, QK, QL, QM, QN, QO, QP, QQ, QR, QS, QT, QU, QV, QW, QX, QY, QZ, Ja, Jb, Jc, Jd, Je, Jf, Jg, Jh, Ji, Jj, Jk, Jl, Jm, Jn, Jo, Jp, Jq, Jr, Js, Jt, Nat.reduceAdd]
      generalize (nn l)[i] = g at h7 h7a hkt ⊢
      rw [oCv_u64 g h7]
      refine loop_of (fun nn2 vs m' => nn2 < 64 ∧ vs = [.int .u64 (nn2 : Int)] ∧ Gt m3 m' ∧ IN m' (.slice p (nn l).length c) (nn l) ∧ (∀ x, x < 6 → nn2.testBit x = true → g.testBit x = true) ∧ ∃ cs : List Int, m'.rd m3.next = some ⟨1, intV cs, none⟩ ∧ cs.length = a ∧
          ∀ x, x < a → cs[x]? = some (keyCount ((nn l).take i) x + (if (g.testBit x && !nn2.testBit x) = true then 1 else 0))) ?_
        ⟨h7, rfl, e5, hin5, fun _ _ h => h, cs, hr5, hcl, fun x hx => by rw [hcs x hx]; cases g.testBit x <;> simp⟩ (by omega)
      rintro left vs m6 ⟨h8, rfl, e6, hin6, hsub, cs6, hr6, hcl6, hcs6⟩ self2 hself2
      simp only [↓uc_e, oInt_neq_u]
      refine oIf_ndec (fun h9 => ?_) (fun h9 => ?_)
      · have h10 : left ≠ 0 := by omega
        obtain ⟨ht6, htb, hlt2, hbits⟩ := tz_bits ⟨left, h8⟩ h10
        simp only at ht6 htb hlt2 hbits
        have hta : tz left < a := bit_of_lt h7a (hsub _ ht6 htb)
        have hct : cs6[tz left]? = some (keyCount ((nn l).take i) (tz left)) := by
          rw [hcs6 _ hta, htb]; simp
        have hkl := keyCount_le (nn l) i (tz left)
        have hget : (intV cs6)[tz left]? = some (.int .i64 (keyCount ((nn l).take i) (tz left))) := by
          unfold intV; rw [List.getElem?_map, hct]; rfl
        refine tz_sp (hT3.mono e6) h8 h10 ?_
        try simp (disch := first | omega | with_unfolding_all exact id rfl | with_unfolding_all exact Nat.le_of_ble_eq_true rfl | (simp only [Jd, Je, Jr, Js, Jt, Nat.reduceAdd, allOne, oneCell, Bool.and_self, Jc]; first | done | omega)) only [ia_e (sz := 1) (b := m3.next) (o := 0) (n := a) (c := a) (i := tz left) (x := none) hta, Nat.mul_one, hr6, hget, ↓Qa, ↓Qb, ↓Qc, Qd, Qe, Qf, Qg, Qh, Qi, Qj, Qk, Ql, Qm, Qn, Qo, Qp, Qq, Qr, Qs, Qt, Qu, Qv, Qw, Qx, Qy, ptrTo, Qz, QA, QB, QC, QD, QE, QF, QG, QH, QI, QJ, QK, QL, QM, QN, QO, QP, QQ, QR, QS, QT, QU, QV, QW, QX, QY, QZ, Ja, Jb, Jc, Jd, Je, Jf, Jg, Jh, Ji, Jj, Jk, Jl, Jm, Jn, Jo, Jp, Jq, Jr, Js, Jt, Nat.reduceAdd]
        rw [oInt_add ⟨by omega, by omega⟩]
        have hst := st_int (L := L) (x := keyCount ((nn l).take i) (tz left) + 1) hr6 (q := tz left) (by rw [intV_len]; omega) (by omega)
        rw [st1_u, hr6] at hst
        rw [hst, oRes_e, oInt_sub_u1 h10 h8, oInt_and_u h8 (by omega)]
        have hbn := Mem.rd_lt hr6
        refine hself2 _ _ _ hlt2 ⟨by omega, rfl, Mem.put_gt e6 _ (Nat.le_refl _), ?_, fun x hx hb => ?_, cs6.set (tz left) (keyCount ((nn l).take i) (tz left) + 1), ?_, by rw [List.length_set]; exact hcl6, fun x hx => ?_⟩
        · refine hin6.put ?_ _
          intro hbid
          have := hin.1
          obtain ⟨q2, hq2⟩ : ∃ q2, p = some q2 := by
            cases p with
            | none => cases hbid
            | some q2 => exact ⟨q2, rfl⟩
          subst hq2
          have hpos : 0 < (ci (nn l)).length := by rw [ci_length]; omega
          have := Sl.bid_lt hin hpos _ hbid
          omega
        · have := hbits ⟨x, hx⟩
          simp only at this
          rw [this, Bool.and_eq_true] at hb
          exact hsub x hx hb.1
        · rw [Mem.rd_put_eq _ _ hbn]
          simp [intV, List.map_set]
        · have hx6 : x < 6 := by omega
          have hb := hbits ⟨x, hx6⟩
          simp only at hb
          rw [List.getElem?_set]
          by_cases hxt : tz left = x
          · subst hxt
            rw [if_pos rfl, if_pos (by omega), hb, hsub _ ht6 htb]
            simp
          · rw [if_neg hxt, hcs6 x hx, hb]
            have : ¬ x = tz left := fun e => hxt e.symm
            simp [this]
      · obtain rfl : left = 0 := by omega
        try simp (disch := first | omega | with_unfolding_all exact id rfl | with_unfolding_all exact Nat.le_of_ble_eq_true rfl | (simp only [Jd, Je, Jr, Js, Jt, Nat.reduceAdd, allOne, oneCell, Bool.and_self, Jc]; first | done | omega)) only [↓Qa, ↓Qb, ↓Qc, Qd, Qe, Qf, Qg, Qh, Qi, Qj, Qk, Ql, Qm, Qn, Qo, Qp, Qq, Qr, Qs, Qt, Qu, Qv, Qw, Qx, Qy, ptrTo, Qz, QA, QB, QC, QD, QE, QF, QG, QH, QI, QJ, QK, QL, QM, QN, QO, QP, QQ, QR, QS, QT, QU, QV, QW, QX, QY, QZ, Ja, Jb, Jc, Jd, Je, Jf, Jg, Jh, Ji, Jj, Jk, Jl, Jm, Jn, Jo, Jp, Jq, Jr, Js, Jt, Nat.reduceAdd]
        rw [oInt_add ⟨by omega, by omega⟩]
        refine hself h6 _ _ ⟨rfl, e6, hin6, cs6, hr6, hcl6, fun x hx => ?_⟩
        rw [hcs6 x hx, hkt x]
        simp
    · have hie : i = (nn l).length := by omega
      subst hie
      rw [List.take_length] at hcs
      have hcse : cs = (List.range a).map (keyCount (nn l)) := by
        refine List.ext_getElem? fun x => ?_
        by_cases hx : x < a
        · rw [hcs x hx]; simp [hx]
        · rw [List.getElem?_eq_none (by omega), List.getElem?_eq_none (by simp; omega)]
      have := hk (.slice (some ⟨m3.next, 0, none⟩) a a) m5 (e3.trans e5) (by
        rw [keysX, if_pos h4, Int.toNat_natCast, ← hcse]
        exact IL.of hr5 (by rw [intV_len]; omega) (by rw [List.drop_zero, List.take_of_length_le (by rw [intV_len]; omega)]; rfl))
      rw [h4] at this
      exact this
theorem oInt_rem2 (a : Nat) (k : Value → Option Unit) : oInt .rem .i64 (.int .i64 (a : Int)) (.int .i64 2) k = k (.int .i64 ((a % 2 : Nat) : Int)) := by
  rw [oInt_rem (by omega) (by omega)]; rfl
theorem shr_e (a x : Nat) (hx : x ≤ 64) : abin Tryd.prog .shr 3 (.int .i64 (a : Int)) (.int .i64 (x : Int)) = some (.int .i64 ((a >>> x : Nat) : Int)) := by
  show ashift .shr .i64 (Int.ofNat a) ((x : Nat) : Int) = _
  unfold ashift
  have h0 : ilt ((x : Nat) : Int) 0 = false := by rw [ilt_e]; simp
  rw [h0]
  show mkI .i64 (ashr (Int.ofNat a) (nmin (Int.toNat (x : Int)) 64)) = _
  have hmin : nmin x 64 = x := by unfold nmin; rw [ble_t hx]
  rw [Int.toNat_natCast, hmin, mkI_e]
  rfl
theorem shr_bit (a x : Nat) : (((a >>> x) % 2 : Nat) : Int) = 1 ↔ a.testBit x = true := by
  rw [Nat.testBit_eq_decide_div_mod_eq, decide_eq_true_eq, Nat.shiftRight_eq_div_pow]
  omega
theorem rkeys1_sp {h : Int} {v : Value} {l : List Int} (hlf : 1000000 ≤ lf) (hL : L ≤ m.next) (hv : IL m v l) (hk : ∀ u m', Gt m m' → IL m' u (keysX h l) → k (.tuple ⟨[u, .int .i64 (chk h l)]⟩) m' = some ()) : runT (tab lf) (n + 4) 53 [Vit.hg h v] L m k = some () := by
  rw [r53]
  dsimp only [S53, iofNat, inegSucc]
  obtain ⟨p, c, rfl⟩ := hv.ex
  have g1 := Mem.gt_push m ⟨1, [.int .i64 h, .slice p l.length c], none⟩
  have hb : At (m.push ⟨1, [.int .i64 h, .slice p l.length c], none⟩) m.next _ := At.push m [.int .i64 h, .slice p l.length c]
  try simp (disch := first | omega | with_unfolding_all exact id rfl | with_unfolding_all exact Nat.le_of_ble_eq_true rfl | (simp only [Jd, Je, Jr, Js, Jt, Nat.reduceAdd, allOne, oneCell, Bool.and_self, Jc]; first | done | omega)) only [↓Qa, ↓Qb, ↓Qc, Qd, Qe, Qf, Qg, Qh, Qi, Qj, Qk, Ql, Qm, Qn, Qo, Qp, Qq, Qr, Qs, Qt, Qu, Qv, Qw, Qx, Qy, ptrTo, Qz, QA, QB, QC, QD, QE, QF, QG, QH, QI, QJ, QK, QL, QM, QN, QO, QP, QQ, QR, QS, QT, QU, QV, QW, QX, QY, QZ, Ja, Jb, Jc, Jd, Je, Jf, Jg, Jh, Ji, Jj, Jk, Jl, Jm, Jn, Jo, Jp, Jq, Jr, Js, Jt, Nat.reduceAdd]
  refine rcheckPlan_sp hlf (hv.mono g1) fun m2 e2 => ?_
  have hb2 := hb.mono e2
  have e3 := g1.trans e2
  have e3n := e3.next
  try simp (disch := first | omega | with_unfolding_all exact id rfl | with_unfolding_all exact Nat.le_of_ble_eq_true rfl | (simp only [Jd, Je, Jr, Js, Jt, Nat.reduceAdd, allOne, oneCell, Bool.and_self, Jc]; first | done | omega)) only [↓Qa, ↓Qb, ↓Qc, Qd, Qe, Qf, Qg, Qh, Qi, Qj, Qk, Ql, Qm, Qn, Qo, Qp, Qq, Qr, Qs, Qt, Qu, Qv, Qw, Qx, Qy, ptrTo, Qz, QA, QB, QC, QD, QE, QF, QG, QH, QI, QJ, QK, QL, QM, QN, QO, QP, QQ, QR, QS, QT, QU, QV, QW, QX, QY, QZ, Ja, Jb, Jc, Jd, Je, Jf, Jg, Jh, Ji, Jj, Jk, Jl, Jm, Jn, Jo, Jp, Jq, Jr, Js, Jt, Nat.reduceAdd]
  refine oIf_ndec (fun h4 => ?_) (fun h4 => ?_)
  · have := hk (.slice none 0 0) m2 e3 (by rw [keysX, if_neg h4]; exact IL.nil _)
    exact this
  · obtain ⟨a, rfl, ha1, ha6, hci, hlen, hlt, hlt64⟩ := chk_valid h4
    have hin : IN m2 (.slice p l.length c) (nn l) := by unfold IN; rw [hci]; exact hv.mono e3
    have hnl := nn_length l
    rw [← hnl] at hb2 hin
    refine loop_up a (fun x vs m' => ∃ u, vs = [u, .int .i64 (x : Int)] ∧ Gt m2 m' ∧ GL m2.next m' u ((List.range x).map (keyCount (nn l)))) (by omega) ⟨_, rfl, Gt.refl _, GL.nil _ _⟩ ?_
    rintro x vs m3 hx ⟨u, rfl, e4, hu⟩ self hself
    have hb3 := hb2.mono e4
    have hin3 := hin.mono e4
    have e4n := e4.next
    try simp (disch := first | omega | with_unfolding_all exact id rfl | with_unfolding_all exact Nat.le_of_ble_eq_true rfl | (simp only [Jd, Je, Jr, Js, Jt, Nat.reduceAdd, allOne, oneCell, Bool.and_self, Jc]; first | done | omega)) only [hb3.rd, ↓Qa, ↓Qb, ↓Qc, Qd, Qe, Qf, Qg, Qh, Qi, Qj, Qk, Ql, Qm, Qn, Qo, Qp, Qq, Qr, Qs, Qt, Qu, Qv, Qw, Qx, Qy, ptrTo, Qz, QA, QB, QC, QD, QE, QF, QG, QH, QI, QJ, QK, QL, QM, QN, QO, QP, QQ, QR, QS, QT, QU, QV, QW, QX, QY, QZ, Ja, Jb, Jc, Jd, Je, Jf, Jg, Jh, Ji, Jj, Jk, Jl, Jm, Jn, Jo, Jp, Jq, Jr, Js, Jt, Nat.reduceAdd]
    refine oIf_dec (fun h5 => ?_) (fun h5 => ?_)
    · refine loop_up (nn l).length (fun i vs m' => vs = [.int .i64 (keyCount ((nn l).take i) x), .int .i64 (i : Int)] ∧ m' = m3) (by omega) ⟨by simp [keyCount], rfl⟩ ?_
      rintro i vs m4 hi ⟨rfl, rfl⟩ self2 hself2
      try simp (disch := first | omega | with_unfolding_all exact id rfl | with_unfolding_all exact Nat.le_of_ble_eq_true rfl | (simp only [Jd, Je, Jr, Js, Jt, Nat.reduceAdd, allOne, oneCell, Bool.and_self, Jc]; first | done | omega)) only [hb3.rd, ln_e, ↓Qa, ↓Qb, ↓Qc, Qd, Qe, Qf, Qg, Qh, Qi, Qj, Qk, Ql, Qm, Qn, Qo, Qp, Qq, Qr, Qs, Qt, Qu, Qv, Qw, Qx, Qy, ptrTo, Qz, QA, QB, QC, QD, QE, QF, QG, QH, QI, QJ, QK, QL, QM, QN, QO, QP, QQ, QR, QS, QT, QU, QV, QW, QX, QY, QZ, Ja, Jb, Jc, Jd, Je, Jf, Jg, Jh, Ji, Jj, Jk, Jl, Jm, Jn, Jo, Jp, Jq, Jr, Js, Jt, Nat.reduceAdd]
      refine oIf_dec (fun h6 => ?_) (fun h6 => ?_)
      · have h7 : i < (nn l).length := by omega
        have hkt := keyCount_take (x := x) h7
        have hkl := keyCount_le (nn l) i x
        try simp (disch := first | omega | with_unfolding_all exact id rfl | with_unfolding_all exact Nat.le_of_ble_eq_true rfl | (simp only [Jd, Je, Jr, Js, Jt, Nat.reduceAdd, allOne, oneCell, Bool.and_self, Jc]; first | done | omega)) only [hb3.rd, hin3.ia h7, hin3.ld h7, shr_e _ x (by omega), ↓Qa, ↓Qb, ↓Qc, Qd, Qe, Qf, Qg, Qh, Qi, Qj, Qk, Ql, Qm, Qn, Qo, Qp, Qq, Qr, Qs, Qt, Qu, Qv, Qw, Qx, Qy, ptrTo, Qz, QA, QB, QC, QD, QE, QF, QG, QH, QI, QJ, QK, QL, QM, QN, QO, QP, QQ, QR, QS, QT, QU, QV, QW, QX, QY, QZ, Ja, Jb, Jc, Jd, Je, Jf, Jg, Jh, Ji, Jj, Jk, Jl, Jm, Jn, Jo, Jp, Jq, Jr, Js, Jt, Nat.reduceAdd]
        rw [oInt_rem2]
        try simp (disch := first | omega | with_unfolding_all exact id rfl | with_unfolding_all exact Nat.le_of_ble_eq_true rfl | (simp only [Jd, Je, Jr, Js, Jt, Nat.reduceAdd, allOne, oneCell, Bool.and_self, Jc]; first | done | omega)) only [↓Qa, ↓Qb, ↓Qc, Qd, Qe, Qf, Qg, Qh, Qi, Qj, Qk, Ql, Qm, Qn, Qo, Qp, Qq, Qr, Qs, Qt, Qu, Qv, Qw, Qx, Qy, ptrTo, Qz, QA, QB, QC, QD, QE, QF, QG, QH, QI, QJ, QK, QL, QM, QN, QO, QP, QQ, QR, QS, QT, QU, QV, QW, QX, QY, QZ, Ja, Jb, Jc, Jd, Je, Jf, Jg, Jh, Ji, Jj, Jk, Jl, Jm, Jn, Jo, Jp, Jq, Jr, Js, Jt, Nat.reduceAdd]
        refine oIf_dec (fun h8 => ?_) (fun h8 => ?_)
        · rw [shr_bit] at h8
          rw [if_pos h8] at hkt
          rw [oInt_add ⟨by omega, by omega⟩]
          try simp (disch := first | omega | with_unfolding_all exact id rfl | with_unfolding_all exact Nat.le_of_ble_eq_true rfl | (simp only [Jd, Je, Jr, Js, Jt, Nat.reduceAdd, allOne, oneCell, Bool.and_self, Jc]; first | done | omega)) only [↓Qa, ↓Qb, ↓Qc, Qd, Qe, Qf, Qg, Qh, Qi, Qj, Qk, Ql, Qm, Qn, Qo, Qp, Qq, Qr, Qs, Qt, Qu, Qv, Qw, Qx, Qy, ptrTo, Qz, QA, QB, QC, QD, QE, QF, QG, QH, QI, QJ, QK, QL, QM, QN, QO, QP, QQ, QR, QS, QT, QU, QV, QW, QX, QY, QZ, Ja, Jb, Jc, Jd, Je, Jf, Jg, Jh, Ji, Jj, Jk, Jl, Jm, Jn, Jo, Jp, Jq, Jr, Js, Jt, Nat.reduceAdd]
          rw [oInt_add ⟨by omega, by omega⟩]
          refine hself2 h7 _ _ ⟨?_, rfl⟩
          rw [hkt]; rfl
        · rw [shr_bit] at h8
          rw [if_neg h8, Int.add_zero] at hkt
          try simp (disch := first | omega | with_unfolding_all exact id rfl | with_unfolding_all exact Nat.le_of_ble_eq_true rfl | (simp only [Jd, Je, Jr, Js, Jt, Nat.reduceAdd, allOne, oneCell, Bool.and_self, Jc]; first | done | omega)) only [↓Qa, ↓Qb, ↓Qc, Qd, Qe, Qf, Qg, Qh, Qi, Qj, Qk, Ql, Qm, Qn, Qo, Qp, Qq, Qr, Qs, Qt, Qu, Qv, Qw, Qx, Qy, ptrTo, Qz, QA, QB, QC, QD, QE, QF, QG, QH, QI, QJ, QK, QL, QM, QN, QO, QP, QQ, QR, QS, QT, QU, QV, QW, QX, QY, QZ, Ja, Jb, Jc, Jd, Je, Jf, Jg, Jh, Ji, Jj, Jk, Jl, Jm, Jn, Jo, Jp, Jq, Jr, Js, Jt, Nat.reduceAdd]
          rw [oInt_add ⟨by omega, by omega⟩]
          refine hself2 h7 _ _ ⟨?_, rfl⟩
          rw [hkt]; rfl
      · have hie : i = (nn l).length := by omega
        subst hie
        rw [List.take_length]
        obtain ⟨u2, m5, h8, h9, e7, h10⟩ := GL.snoc (P := Tryd.prog) (t := 22) (L := L) (m0 := m2) (keyCount (nn l) x) ael22 (by omega) hu (by simp; omega) (by omega) e4 (Nat.le_refl _)
        try simp (disch := first | omega | with_unfolding_all exact id rfl | with_unfolding_all exact Nat.le_of_ble_eq_true rfl | (simp only [Jd, Je, Jr, Js, Jt, Nat.reduceAdd, allOne, oneCell, Bool.and_self, Jc]; first | done | omega)) only [bs22, h8, ↓Qa, ↓Qb, ↓Qc, Qd, Qe, Qf, Qg, Qh, Qi, Qj, Qk, Ql, Qm, Qn, Qo, Qp, Qq, Qr, Qs, Qt, Qu, Qv, Qw, Qx, Qy, ptrTo, Qz, QA, QB, QC, QD, QE, QF, QG, QH, QI, QJ, QK, QL, QM, QN, QO, QP, QQ, QR, QS, QT, QU, QV, QW, QX, QY, QZ, Ja, Jb, Jc, Jd, Je, Jf, Jg, Jh, Ji, Jj, Jk, Jl, Jm, Jn, Jo, Jp, Jq, Jr, Js, Jt, Nat.reduceAdd]
        rw [oInt_add ⟨by omega, by omega⟩]
        refine hself (by omega) _ _ ⟨u2, rfl, e7, ?_⟩
        rw [List.range_succ, List.map_append]
        exact h9.le e4n
    · have hxa : x = a := by omega
      subst hxa
      have := hk u m3 (e3.trans e4) (by rw [keysX, if_pos h4, Int.toNat_natCast]; exact hu.il)
      rw [h4] at this
      exact this
end
end Go.Vit
