/- Walks: all carts come; where they park, in the reference's words. -/
import Derived.Test.YtnmmjbclidbdbaaDoorW2
import Derived.Test.YtnmmjbclidbdbaaDoorCoreD
set_option linter.unusedSimpArgs false
set_option linter.unusedVariables false
set_option maxRecDepth 20000
namespace Go.Vit
open Go Go.Proofs
attribute [local irreducible] runT loopS
theorem ael64 : aelem Tryd.prog 64 = some (1, 16) := by kernel_rfl
theorem bs64 (m : Mem) (t : Nat) (x : Value) : bs Tryd.prog m 64 1 [(0, .iface t x)] = some (slTo 1 m.next, m.push ⟨1, [.iface t x], none⟩) :=
  (show _ = anew m 1 [.iface t x] (slTo 1) by kernel_rfl).trans (anew_eq ..)
theorem bu76 (N : Int) : bu Tryd.prog 76 [(0, .int .i64 N)] = some (.agg ⟨[.int .i64 N, .int .u64 0]⟩) := by kernel_rfl
def fV (p : Int) (w : Nat) : Value := if p = -1 then leV else stV p (p - (w : Int))
def fates (n : Nat) (l : List Nat) : List Value := List.zipWith fV (parkL n l) l
theorem fV_one (p : Int) (w : Nat) : allOne [fV p w] = true := by
  unfold fV
  split <;> rfl
theorem fates_len (n : Nat) (l : List Nat) : (fates n l).length = l.length := by
  unfold fates; rw [List.length_zipWith, parkL_len, Nat.min_self]
theorem fates_snoc (n : Nat) (l : List Nat) (w : Nat) : fates n (l ++ [w]) = fates n l ++ [fV (bayOf n (parkL n l) w) w] := by
  unfold fates
  rw [parkL_snoc, List.zipWith_append (by rw [parkL_len])]
  rfl
theorem fates_take {n : Nat} {l : List Nat} {i : Nat} (h : i < l.length) : fates n (l.take (i + 1)) = fates n (l.take i) ++ [fV (bayOf n (parkL n (l.take i)) l[i]) l[i]] := by
  rw [List.take_add_one, List.getElem?_eq_getElem h]
  exact fates_snoc n _ _
theorem fates_get {n : Nat} {l : List Nat} {i : Nat} (h : i < l.length) (hp : i < (parkL n l).length) : (fates n l)[i]? = some (fV (parkL n l)[i] l[i]) := by
  unfold fates
  rw [List.getElem?_zipWith, List.getElem?_eq_getElem hp, List.getElem?_eq_getElem h]
section
variable {lf n L : Nat} {m : Mem} {k : Value → Mem → Option Unit}
theorem comeAll_sp {N : Int} {v : Value} {l : List Int} (hlf : 1000000 ≤ lf) (hL : L ≤ m.next) (hT : TabOk mTab m) (hv : IL m v l) (hl : l.length < 1000000)
    (hno : chkD N (N - 1) l ≠ 0 → ∀ m', Gt m m' → k (.tuple ⟨[.slice none 0 0, .int .i64 (chkD N (N - 1) l)]⟩) m' = some ())
    (hyes : ∀ (a : Nat) (w : List Nat), N = a → l = ci w → 1 ≤ a → a ≤ 8 → w.length ≤ a → (∀ x ∈ w, x < a) → chkD N (N - 1) l = 0 → ∀ u m', Gt m m' → Gs 1 m.next m' u (fates a w).length (fates a w) → k (.tuple ⟨[u, .int .i64 0]⟩) m' = some ()) :
    runT (tab lf) (n + 7) 56 [.int .i64 N, v] L m k = some () := by
  rw [r56]; dsimp only [S56, iofNat, inegSucc]
  try simp (disch := first | omega | with_unfolding_all exact id rfl | with_unfolding_all exact Nat.le_of_ble_eq_true rfl | (simp only [Jd, Je, Jr, Js, Jt, Nat.reduceAdd, allOne, oneCell, Bool.and_self, Jc]; first | done | omega)) only [↓Qa, ↓Qb, ↓Qc, Qd, Qe, Qf, Qg, Qh, Qi, Qj, Qk, Ql, Qm, Qn, Qo, Qp, Qq, Qr, Qs, Qt, Qu, Qv, Qw, Qx, Qy, ptrTo, Qz, QA, QB, QC, QD, QE, QF, QG, QH, QI, QJ, QK, QL, QM, QN, QO, QP, QQ, QR, QS, QT, QU, QV, QW, QX, QY, QZ, Ja, Jb, Jc, Jd, Je, Jf, Jg, Jh, Ji, Jj, Jk, Jl, Jm, Jn, Jo, Jp, Jq, Jr, Js, Jt, Nat.reduceAdd]
  refine check_sp hlf hv hl fun m1 e1 => ?_
  try simp (disch := first | omega | with_unfolding_all exact id rfl | with_unfolding_all exact Nat.le_of_ble_eq_true rfl | (simp only [Jd, Je, Jr, Js, Jt, Nat.reduceAdd, allOne, oneCell, Bool.and_self, Jc]; first | done | omega)) only [↓Qa, ↓Qb, ↓Qc, Qd, Qe, Qf, Qg, Qh, Qi, Qj, Qk, Ql, Qm, Qn, Qo, Qp, Qq, Qr, Qs, Qt, Qu, Qv, Qw, Qx, Qy, ptrTo, Qz, QA, QB, QC, QD, QE, QF, QG, QH, QI, QJ, QK, QL, QM, QN, QO, QP, QQ, QR, QS, QT, QU, QV, QW, QX, QY, QZ, Ja, Jb, Jc, Jd, Je, Jf, Jg, Jh, Ji, Jj, Jk, Jl, Jm, Jn, Jo, Jp, Jq, Jr, Js, Jt, Nat.reduceAdd]
  refine oIf_ndec (fun h => ?_) (fun h => ?_)
  · exact hno h m1 e1
  · have h0 : chkD N (N - 1) l = 0 := h
    obtain ⟨a, w, rfl, rfl, ha1, ha8, hwl, hw⟩ := chkD_ok h0
    have hyes' := hyes a w rfl rfl ha1 ha8 hwl hw h0
    clear hyes hno
    have hv1 : IN m1 v w := IL.mono hv e1
    have hT1 := hT.mono e1
    have e1n := e1.next
    try simp (disch := first | omega | with_unfolding_all exact id rfl | with_unfolding_all exact Nat.le_of_ble_eq_true rfl | (simp only [Jd, Je, Jr, Js, Jt, Nat.reduceAdd, allOne, oneCell, Bool.and_self, Jc]; first | done | omega)) only [bu76, hv1.ln, ↓Qa, ↓Qb, ↓Qc, Qd, Qe, Qf, Qg, Qh, Qi, Qj, Qk, Ql, Qm, Qn, Qo, Qp, Qq, Qr, Qs, Qt, Qu, Qv, Qw, Qx, Qy, ptrTo, Qz, QA, QB, QC, QD, QE, QF, QG, QH, QI, QJ, QK, QL, QM, QN, QO, QP, QQ, QR, QS, QT, QU, QV, QW, QX, QY, QZ, Ja, Jb, Jc, Jd, Je, Jf, Jg, Jh, Ji, Jj, Jk, Jl, Jm, Jn, Jo, Jp, Jq, Jr, Js, Jt, Nat.reduceAdd]
    have e2 : Gt m ((m1.push ⟨1, [.int .i64 0, .int .u64 0], none⟩).put m1.next (some (rowB a 0))) := Mem.put_gt (e1.trans (Mem.gt_push _ _)) _ (by omega)
    have e3 : Gt m1 ((m1.push ⟨1, [.int .i64 0, .int .u64 0], none⟩).put m1.next (some (rowB a 0))) := Mem.put_gt (Mem.gt_push _ _) _ (by omega)
    have hr : ((m1.push ⟨1, [.int .i64 0, .int .u64 0], none⟩).put m1.next (some (rowB a 0))).rd m1.next = some (rowB a 0) := Mem.rd_put_eq _ _ (by rw [Mem.push_next]; omega)
    have hnx : ((m1.push ⟨1, [.int .i64 0, .int .u64 0], none⟩).put m1.next (some (rowB a 0))).next = m1.next + 1 := rfl
    show loopS _ lf [_, _] ((m1.push ⟨1, [.int .i64 0, .int .u64 0], none⟩).put m1.next (some (rowB a 0))) = some ()
    generalize (m1.push ⟨1, [.int .i64 0, .int .u64 0], none⟩).put m1.next (some (rowB a 0)) = m2 at e2 e3 hr hnx ⊢
    refine loop_up w.length (fun i vs m' => ∃ u T, vs = [u, .int .i64 (i : Int)] ∧ Gt m m' ∧ Gt m1 m' ∧ m1.next < m'.next ∧ m'.rd m1.next = some (rowB a T) ∧ BitsOf a T (parkL a (w.take i)) ∧ Gs 1 (m1.next + 1) m' u (fates a (w.take i)).length (fates a (w.take i))) (by omega)
      ⟨_, 0, rfl, e2, e3, by omega, hr, BitsOf.nil a, Gs.nil _ _ _⟩ ?_
    rintro i vs m3 hi ⟨u, T, rfl, e4, e5, hn3, hr3, hB, hu⟩ self hself
    try simp (disch := first | omega | with_unfolding_all exact id rfl | with_unfolding_all exact Nat.le_of_ble_eq_true rfl | (simp only [Jd, Je, Jr, Js, Jt, Nat.reduceAdd, allOne, oneCell, Bool.and_self, Jc]; first | done | omega)) only [↓Qa, ↓Qb, ↓Qc, Qd, Qe, Qf, Qg, Qh, Qi, Qj, Qk, Ql, Qm, Qn, Qo, Qp, Qq, Qr, Qs, Qt, Qu, Qv, Qw, Qx, Qy, ptrTo, Qz, QA, QB, QC, QD, QE, QF, QG, QH, QI, QJ, QK, QL, QM, QN, QO, QP, QQ, QR, QS, QT, QU, QV, QW, QX, QY, QZ, Ja, Jb, Jc, Jd, Je, Jf, Jg, Jh, Ji, Jj, Jk, Jl, Jm, Jn, Jo, Jp, Jq, Jr, Js, Jt, Nat.reduceAdd]
    refine oIf_dec (fun h1 => ?_) (fun h1 => ?_)
    · have hil : i < w.length := by omega
      have hwi := hw _ (List.getElem_mem hil)
      have hv3 : IN m3 v w := hv1.mono e5
      try simp (disch := first | omega | with_unfolding_all exact id rfl | with_unfolding_all exact Nat.le_of_ble_eq_true rfl | (simp only [Jd, Je, Jr, Js, Jt, Nat.reduceAdd, allOne, oneCell, Bool.and_self, Jc]; first | done | omega)) only [hv3.ia hil, hv3.ld hil, ↓Qa, ↓Qb, ↓Qc, Qd, Qe, Qf, Qg, Qh, Qi, Qj, Qk, Ql, Qm, Qn, Qo, Qp, Qq, Qr, Qs, Qt, Qu, Qv, Qw, Qx, Qy, ptrTo, Qz, QA, QB, QC, QD, QE, QF, QG, QH, QI, QJ, QK, QL, QM, QN, QO, QP, QQ, QR, QS, QT, QU, QV, QW, QX, QY, QZ, Ja, Jb, Jc, Jd, Je, Jf, Jg, Jh, Ji, Jj, Jk, Jl, Jm, Jn, Jo, Jp, Jq, Jr, Js, Jt, Nat.reduceAdd]
      have hfl : (fates a (w.take i)).length = i := by rw [fates_len, List.length_take]; omega
      have e4n := e4.next
      have step : ∀ (x : Value) (T' : Nat) (m4 : Mem), x = fV (bayOf a (parkL a (w.take i)) w[i]) w[i] → (∃ t y, x = .iface t y) → Gt m m4 → Gt m1 m4 → m4.next = m3.next → m4.rd m1.next = some (rowB a T') → BitsOf a T' (parkL a (w.take (i + 1))) → Gs 1 (m1.next + 1) m4 u (fates a (w.take i)).length (fates a (w.take i)) →
          (oRes (bs Tryd.prog m4 64 1 [(0, x)]) fun t25 m26 => oRes (aappend Tryd.prog L m26 64 u t25) fun t27 m28 => oInt .add .i64 (.int .i64 (i : Int)) (.int .i64 1) fun t29 => self [t27, t29] m28) = some () := by
        rintro x T' m4 hx ⟨t, y, hxi⟩ g1 g2 g3 g4 g5 g6
        obtain ⟨u', m5, k1, k2, k3, k4, k5⟩ := Gs.snocV (P := Tryd.prog) (L := L) (m0 := m1) x (by rw [hx]; exact fV_one _ _) ael64 (by omega) g6 (by omega) (by omega) g2 (by omega)
        rw [hxi, bs64, oRes_e, ← hxi, k1, oRes_e, oInt_add ⟨by omega, by omega⟩]
        refine hself hil _ _ ⟨u', T', rfl, e1.trans k3, k3, by omega, ?_, g5, ?_⟩
        · rw [k5 _ (by omega) fun hb => ?_, g4]
          have := g6.bid_lt _ hb; omega
        · rw [fates_take hil, ← hx]
          exact k2.le (by omega)
      refine come1_sp (b := m1.next) (hT1.mono e5) hr3 (by omega) ha8 hB.1 (by omega) (fun hf => ?_) (fun c hf => ?_)
      · rw [hB.fb] at hf
        refine step _ T m3 ?_ ⟨_, _, rfl⟩ e4 e5 rfl hr3 ?_ hu
        · unfold bayOf; rw [hf]; rfl
        · rw [parkL_take hil]; unfold bayOf; rw [hf]; exact hB.out
      · rw [hB.fb] at hf
        have hf2 := fbay_some hf
        have hne : ¬ ((c : Int) = -1) := by omega
        refine step _ (T ||| 2 ^ c) (m3.put m1.next (some (rowB a (T ||| 2 ^ c)))) ?_ ⟨_, _, rfl⟩ (Mem.put_gt e4 _ (by omega)) (Mem.put_gt e5 _ (by omega)) rfl (Mem.rd_put_eq _ _ (by omega)) ?_ ?_
        · unfold bayOf; rw [hf]; simp only [fV, if_neg hne]
        · rw [parkL_take hil]; unfold bayOf; rw [hf]; exact hB.put (by omega)
        · exact hu.keep fun d hd hd2 => Mem.rd_put _ _ _ _ (by omega)
    · have hiw : i = w.length := by omega
      subst hiw
      rw [List.take_length] at hu
      exact hyes' u m3 e4 (hu.le (by omega))
/-- The reference: the first free bay from a wish on. -/
theorem rnext_sp {a w : Nat} {v : Value} {acc : List Int} (hlf : 1000000 ≤ lf) (ha : a ≤ 8) (hw : w ≤ a) (hv : IL m v acc) (hl : acc.length < 1000000)
    (hk : k (.int .i64 (bayOf a acc w)) m = some ()) : runT (tab lf) (n + 2) 65 [.int .i64 (a : Int), v, .int .i64 (w : Int)] L m k = some () := by
  rw [r65]; dsimp only [S65, iofNat, inegSucc]
  try simp (disch := first | omega | with_unfolding_all exact id rfl | with_unfolding_all exact Nat.le_of_ble_eq_true rfl | (simp only [Jd, Je, Jr, Js, Jt, Nat.reduceAdd, allOne, oneCell, Bool.and_self, Jc]; first | done | omega)) only [↓Qa, ↓Qb, ↓Qc, Qd, Qe, Qf, Qg, Qh, Qi, Qj, Qk, Ql, Qm, Qn, Qo, Qp, Qq, Qr, Qs, Qt, Qu, Qv, Qw, Qx, Qy, ptrTo, Qz, QA, QB, QC, QD, QE, QF, QG, QH, QI, QJ, QK, QL, QM, QN, QO, QP, QQ, QR, QS, QT, QU, QV, QW, QX, QY, QZ, Ja, Jb, Jc, Jd, Je, Jf, Jg, Jh, Ji, Jj, Jk, Jl, Jm, Jn, Jo, Jp, Jq, Jr, Js, Jt, Nat.reduceAdd]
  refine loop_up (a - w) (fun i vs m' => vs = [.int .i64 ((w + i : Nat) : Int)] ∧ m' = m ∧ ∀ c, w ≤ c → c < w + i → decide ((c : Int) ∈ acc) = true) (by omega) ⟨rfl, rfl, fun c h1 h2 => by omega⟩ ?_
  rintro i vs m' hi ⟨rfl, rfl, hno⟩ self hself
  try simp (disch := first | omega | with_unfolding_all exact id rfl | with_unfolding_all exact Nat.le_of_ble_eq_true rfl | (simp only [Jd, Je, Jr, Js, Jt, Nat.reduceAdd, allOne, oneCell, Bool.and_self, Jc]; first | done | omega)) only [↓Qa, ↓Qb, ↓Qc, Qd, Qe, Qf, Qg, Qh, Qi, Qj, Qk, Ql, Qm, Qn, Qo, Qp, Qq, Qr, Qs, Qt, Qu, Qv, Qw, Qx, Qy, ptrTo, Qz, QA, QB, QC, QD, QE, QF, QG, QH, QI, QJ, QK, QL, QM, QN, QO, QP, QQ, QR, QS, QT, QU, QV, QW, QX, QY, QZ, Ja, Jb, Jc, Jd, Je, Jf, Jg, Jh, Ji, Jj, Jk, Jl, Jm, Jn, Jo, Jp, Jq, Jr, Js, Jt, Nat.reduceAdd]
  refine oIf_dec (fun h => ?_) (fun h => ?_)
  · refine has_sp hlf hv hl ?_
    cases hd : decide (((w + i : Nat) : Int) ∈ acc) with
    | false =>
      try simp (disch := first | omega | with_unfolding_all exact id rfl | with_unfolding_all exact Nat.le_of_ble_eq_true rfl | (simp only [Jd, Je, Jr, Js, Jt, Nat.reduceAdd, allOne, oneCell, Bool.and_self, Jc]; first | done | omega)) only [↓Qa, ↓Qb, ↓Qc, Qd, Qe, Qf, Qg, Qh, Qi, Qj, Qk, Ql, Qm, Qn, Qo, Qp, Qq, Qr, Qs, Qt, Qu, Qv, Qw, Qx, Qy, ptrTo, Qz, QA, QB, QC, QD, QE, QF, QG, QH, QI, QJ, QK, QL, QM, QN, QO, QP, QQ, QR, QS, QT, QU, QV, QW, QX, QY, QZ, Ja, Jb, Jc, Jd, Je, Jf, Jg, Jh, Ji, Jj, Jk, Jl, Jm, Jn, Jo, Jp, Jq, Jr, Js, Jt, Nat.reduceAdd]
      unfold bayOf at hk
      rw [fbay_of (b := w + i) (by omega) (by omega) hd hno] at hk
      exact hk
    | true =>
      try simp (disch := first | omega | with_unfolding_all exact id rfl | with_unfolding_all exact Nat.le_of_ble_eq_true rfl | (simp only [Jd, Je, Jr, Js, Jt, Nat.reduceAdd, allOne, oneCell, Bool.and_self, Jc]; first | done | omega)) only [↓Qa, ↓Qb, ↓Qc, Qd, Qe, Qf, Qg, Qh, Qi, Qj, Qk, Ql, Qm, Qn, Qo, Qp, Qq, Qr, Qs, Qt, Qu, Qv, Qw, Qx, Qy, ptrTo, Qz, QA, QB, QC, QD, QE, QF, QG, QH, QI, QJ, QK, QL, QM, QN, QO, QP, QQ, QR, QS, QT, QU, QV, QW, QX, QY, QZ, Ja, Jb, Jc, Jd, Je, Jf, Jg, Jh, Ji, Jj, Jk, Jl, Jm, Jn, Jo, Jp, Jq, Jr, Js, Jt, Nat.reduceAdd]
      rw [oInt_add ⟨by omega, by omega⟩, show ((w + i : Nat) : Int) + 1 = ((w + (i + 1) : Nat) : Int) by omega]
      refine hself (by omega) _ _ ⟨rfl, rfl, fun c h1 h2 => ?_⟩
      by_cases hc : c = w + i
      · subst hc; exact hd
      · exact hno c h1 (by omega)
  · unfold bayOf at hk
    rw [fbay_no fun c h1 h2 => hno c h1 (by omega)] at hk
    exact hk
theorem rpark_sp {a : Nat} {v : Value} {w : List Nat} (hlf : 1000000 ≤ lf) (hL : L ≤ m.next) (ha : a ≤ 8) (hwl : w.length ≤ a) (hw : ∀ x ∈ w, x < a) (hv : IN m v w)
    (hk : ∀ u m', Gt m m' → GL m.next m' u (parkL a w) → k u m' = some ()) : runT (tab lf) (n + 3) 57 [.int .i64 (a : Int), v] L m k = some () := by
  rw [r57]; dsimp only [S57, iofNat, inegSucc]
  try simp (disch := first | omega | with_unfolding_all exact id rfl | with_unfolding_all exact Nat.le_of_ble_eq_true rfl | (simp only [Jd, Je, Jr, Js, Jt, Nat.reduceAdd, allOne, oneCell, Bool.and_self, Jc]; first | done | omega)) only [↓Qa, ↓Qb, ↓Qc, Qd, Qe, Qf, Qg, Qh, Qi, Qj, Qk, Ql, Qm, Qn, Qo, Qp, Qq, Qr, Qs, Qt, Qu, Qv, Qw, Qx, Qy, ptrTo, Qz, QA, QB, QC, QD, QE, QF, QG, QH, QI, QJ, QK, QL, QM, QN, QO, QP, QQ, QR, QS, QT, QU, QV, QW, QX, QY, QZ, Ja, Jb, Jc, Jd, Je, Jf, Jg, Jh, Ji, Jj, Jk, Jl, Jm, Jn, Jo, Jp, Jq, Jr, Js, Jt, Nat.reduceAdd]
  refine loop_up w.length (fun i vs m' => ∃ u, vs = [u, .int .i64 (i : Int)] ∧ Gt m m' ∧ GL m.next m' u (parkL a (w.take i))) (by omega) ⟨_, rfl, Gt.refl m, GL.nil _ _⟩ ?_
  rintro i vs m1 hi ⟨u, rfl, e, hu⟩ self hself
  have hv1 := hv.mono e
  try simp (disch := first | omega | with_unfolding_all exact id rfl | with_unfolding_all exact Nat.le_of_ble_eq_true rfl | (simp only [Jd, Je, Jr, Js, Jt, Nat.reduceAdd, allOne, oneCell, Bool.and_self, Jc]; first | done | omega)) only [hv1.ln, ↓Qa, ↓Qb, ↓Qc, Qd, Qe, Qf, Qg, Qh, Qi, Qj, Qk, Ql, Qm, Qn, Qo, Qp, Qq, Qr, Qs, Qt, Qu, Qv, Qw, Qx, Qy, ptrTo, Qz, QA, QB, QC, QD, QE, QF, QG, QH, QI, QJ, QK, QL, QM, QN, QO, QP, QQ, QR, QS, QT, QU, QV, QW, QX, QY, QZ, Ja, Jb, Jc, Jd, Je, Jf, Jg, Jh, Ji, Jj, Jk, Jl, Jm, Jn, Jo, Jp, Jq, Jr, Js, Jt, Nat.reduceAdd]
  refine oIf_dec (fun h => ?_) (fun h => ?_)
  · have hil : i < w.length := by omega
    have hwi := hw _ (List.getElem_mem hil)
    have hpl : (parkL a (w.take i)).length = i := by rw [parkL_len, List.length_take]; omega
    try simp (disch := first | omega | with_unfolding_all exact id rfl | with_unfolding_all exact Nat.le_of_ble_eq_true rfl | (simp only [Jd, Je, Jr, Js, Jt, Nat.reduceAdd, allOne, oneCell, Bool.and_self, Jc]; first | done | omega)) only [hv1.ia hil, hv1.ld hil, ↓Qa, ↓Qb, ↓Qc, Qd, Qe, Qf, Qg, Qh, Qi, Qj, Qk, Ql, Qm, Qn, Qo, Qp, Qq, Qr, Qs, Qt, Qu, Qv, Qw, Qx, Qy, ptrTo, Qz, QA, QB, QC, QD, QE, QF, QG, QH, QI, QJ, QK, QL, QM, QN, QO, QP, QQ, QR, QS, QT, QU, QV, QW, QX, QY, QZ, Ja, Jb, Jc, Jd, Je, Jf, Jg, Jh, Ji, Jj, Jk, Jl, Jm, Jn, Jo, Jp, Jq, Jr, Js, Jt, Nat.reduceAdd]
    refine rnext_sp hlf ha (by omega) hu.il (by omega) ?_
    obtain ⟨u', m2, h1, h2, h3, h4, h5⟩ := GL.snocV (P := Tryd.prog) (L := L) (m0 := m) (bayOf a (parkL a (w.take i)) w[i]) ael22 (by omega) hu (by omega) hL e (Nat.le_refl _)
    rw [bs22, oRes_e, h1, oRes_e, oInt_add ⟨by omega, by omega⟩]
    have en := e.next
    refine hself hil _ _ ⟨u', rfl, h3, ?_⟩
    rw [parkL_take hil]
    exact h2.le en
  · have hiw : i = w.length := by omega
    subst hiw
    rw [List.take_length] at hu
    exact hk u m1 e hu
end
end Go.Vit
