/- Walks: Concat, the steps of a box both ways. -/
import Derived.Test.YtffomiamkiakcaaW1
set_option linter.unusedSimpArgs false
set_option linter.unusedVariables false
set_option maxRecDepth 20000
namespace Go.Vit
open Go Go.Proofs
attribute [local irreducible] runT loopS
theorem rd_other {m : Mem} {b c : Nat} {k : Option Blk} (h : c ≠ b) : (m.put b k).rd c = m.rd c := Mem.rd_put _ _ _ _ (Ne.symm h)
theorem awr_e {L : Nat} {m : Mem} {b o s : Nat} {cs vs : List Value} (hL : L ≤ b) (h : m.rd b = some ⟨s, cs, none⟩) (hn : o + vs.length ≤ cs.length) (ho : allOne vs = true) :
    awr L m b o vs = some (m.put b (some ⟨s, cs.take o ++ (vs ++ cs.drop (o + vs.length)), none⟩)) := by
  unfold awr
  simp only [ble_t hL, h, show Nat.add o vs.length = o + vs.length from rfl, ble_t hn, ho, Bool.and_self]
theorem aapp_in {P : Program} {t : TypeId} {y L : Nat} {m : Mem} {b o n c s j : Nat} {x : Value} {cs ds : List Value} (ht : aelem P t = some (1, y)) (hx : asrc m 1 x = some (j + 1, ds)) (hd : ds.length = j + 1) (hn : n + (j + 1) ≤ c) (hL : L ≤ b) (h : m.rd b = some ⟨s, cs, none⟩) (hc : o + c ≤ cs.length) (ho : allOne ds = true) :
    aappend P L m t (.slice (some ⟨b, o, none⟩) n c) x = some (.slice (some ⟨b, o, none⟩) (n + (j + 1)) c, m.put b (some ⟨s, cs.take (o + n) ++ (ds ++ cs.drop (o + n + ds.length)), none⟩)) := by
  unfold aappend
  rw [ht]
  have h1 : Nat.add o (Nat.mul n 1) = o + n := by show o + n * 1 = o + n; omega
  simp only [hx, ble_t (show n ≤ c by omega), natK_eq, show Nat.add n (Nat.succ j) = n + (j + 1) from rfl, ble_t hn, h1]
  rw [awr_e hL h (by omega) ho]
theorem bs632 (m : Mem) (p q : Option Addr) (a b c d : Nat) : bs Try.prog m 63 2 [(0, .slice p a b), (1, .slice q c d)] = some (slTo 2 m.next, m.push ⟨1, [.slice p a b, .slice q c d], none⟩) :=
  (show _ = anew m 1 [.slice p a b, .slice q c d] (slTo 2) by kernel_rfl).trans (anew_eq ..)
theorem cap_nil : abuiltin Try.prog .cap #[22] [.slice none 0 0] = some (.int .i64 0) := by kernel_rfl
theorem sl_nil0 : sl Try.prog 22 (.slice none 0 0) none (some (.int .i64 0)) none = some (.slice none 0 0) := by kernel_rfl
theorem azero3 : azero Try.prog 3 = some [.int .i64 0] := by kernel_rfl
theorem isInt3 : isIntT Try.prog 3 = true := by kernel_rfl
theorem azrow_rep (x : Value) : ∀ n, azrow [x] n = List.replicate n x
  | 0 => rfl
  | n + 1 => by
    show x :: azrow [x] n = _
    rw [azrow_rep x n]; rfl
theorem growZ (m : Mem) {j : Nat} (hj : j < 1000) : aappendZ Try.prog m 22 3 (.slice none 0 0) (.int .i64 ((j + 1 : Nat) : Int)) = some (slTo (j + 1) m.next, m.push ⟨1, List.replicate (j + 1) (.int .i64 0), none⟩) := by
  unfold aappendZ
  have h1 : anat (.int .i64 ((j + 1 : Nat) : Int)) = some (Nat.succ j) := by
    show anat (.int .i64 (Int.ofNat (Nat.succ j))) = _
    simp only [anat, natK_eq]
  have hr := roomy_of (n := j + 1) (y := 8) (by omega) (by omega)
  simp only [ael22, isInt3, u22, azero3, h1, show roomy (Nat.succ j) 8 = true from hr, anew_eq, azrow_rep]
section
variable {lf n L : Nat} {m : Mem} {k : Value → Mem → Option Unit}
/-- slices.Grow of nothing. -/
theorem grow_sp {j : Nat} (hj : j < 1000) (hk : k (.slice (some ⟨m.next, 0, none⟩) 0 (j + 1)) (m.push ⟨1, List.replicate (j + 1) (.int .i64 0), none⟩) = some ()) :
    runT (tab lf) (n + 1) 125 [.slice none 0 0, .int .i64 ((j + 1 : Nat) : Int)] L m k = some () := by
  rw [r125]; dsimp only [S125, iofNat, inegSucc]
  have hs := sl_hi (P := Try.prog) u22 ts3 (b := m.next) (o := 0) (n := j + 1) (c := j + 1) (k := 0) (by omega)
  have hg := growZ m hj
  have hln : ln (.slice none 0 0) = some (.int .i64 0) := rfl
  try simp (disch := first | omega | with_unfolding_all exact id rfl | with_unfolding_all exact Nat.le_of_ble_eq_true rfl | (simp only [Jd, Je, Jr, Js, Jt, Nat.reduceAdd, allOne, oneCell, Bool.and_self, Jc]; first | done | omega)) only [cap_nil, hln, ↓Qa, ↓Qb, ↓Qc, Qd, Qe, Qf, Qg, Qh, Qi, Qj, Qk, Ql, Qm, Qn, Qo, Qp, Qq, Qr, Qs, Qt, Qu, Qv, Qw, Qx, Qy, ptrTo, Qz, QA, QB, QC, QD, QE, QF, QG, QH, QI, QJ, QK, QL, QM, QN, QO, QP, QQ, QR, QS, QT, QU, QV, QW, QX, QY, QZ, Ja, Jb, Jc, Jd, Je, Jf, Jg, Jh, Ji, Jj, Jk, Jl, Jm, Jn, Jo, Jp, Jq, Jr, Js, Jt, Nat.reduceAdd]
  rw [decide_eq_false (show ¬ ((j + 1 : Nat) : Int) < 0 by omega)]
  try simp (disch := first | omega | with_unfolding_all exact id rfl | with_unfolding_all exact Nat.le_of_ble_eq_true rfl | (simp only [Jd, Je, Jr, Js, Jt, Nat.reduceAdd, allOne, oneCell, Bool.and_self, Jc]; first | done | omega)) only [cap_nil, hln, ↓Qa, ↓Qb, ↓Qc, Qd, Qe, Qf, Qg, Qh, Qi, Qj, Qk, Ql, Qm, Qn, Qo, Qp, Qq, Qr, Qs, Qt, Qu, Qv, Qw, Qx, Qy, ptrTo, Qz, QA, QB, QC, QD, QE, QF, QG, QH, QI, QJ, QK, QL, QM, QN, QO, QP, QQ, QR, QS, QT, QU, QV, QW, QX, QY, QZ, Ja, Jb, Jc, Jd, Je, Jf, Jg, Jh, Ji, Jj, Jk, Jl, Jm, Jn, Jo, Jp, Jq, Jr, Js, Jt, Nat.reduceAdd]
  rw [oInt_sub ⟨by omega, by omega⟩, oInt_sub ⟨by omega, by omega⟩, show ((j + 1 : Nat) : Int) - (0 - 0) = ((j + 1 : Nat) : Int) by omega, oInt_gtr, decide_eq_true (show (0 : Int) < ((j + 1 : Nat) : Int) by omega)]
  try simp (disch := first | omega | with_unfolding_all exact id rfl | with_unfolding_all exact Nat.le_of_ble_eq_true rfl | (simp only [Jd, Je, Jr, Js, Jt, Nat.reduceAdd, allOne, oneCell, Bool.and_self, Jc]; first | done | omega)) only [cap_nil, sl_nil0, hg, hln, ↓Qa, ↓Qb, ↓Qc, Qd, Qe, Qf, Qg, Qh, Qi, Qj, Qk, Ql, Qm, Qn, Qo, Qp, Qq, Qr, Qs, Qt, Qu, Qv, Qw, Qx, Qy, ptrTo, Qz, QA, QB, QC, QD, QE, QF, QG, QH, QI, QJ, QK, QL, QM, QN, QO, QP, QQ, QR, QS, QT, QU, QV, QW, QX, QY, QZ, Ja, Jb, Jc, Jd, Je, Jf, Jg, Jh, Ji, Jj, Jk, Jl, Jm, Jn, Jo, Jp, Jq, Jr, Js, Jt, Nat.reduceAdd]
  have hs' : sl Try.prog 22 (slTo (j + 1) m.next) none (some (.int .i64 0)) none = some (.slice (some ⟨m.next, 0, none⟩) 0 (j + 1)) := hs
  first | rw [hs', oOpt_e] | skip
  exact hk
/-- slices.Concat of two lists. -/
theorem concat_sp {q : Nat} {v u : Value} {a b : List Int} (hlf : 1000000 ≤ lf) (hL : L ≤ m.next) (hv : IL m v a) (hu : IL m u b) (ha : 0 < a.length) (hb : 0 < b.length) (hl : a.length + b.length < 100)
    (hr : m.rd q = some ⟨1, [v, u], none⟩) (hk : ∀ x m', Gt m m' → IL m' x (a ++ b) → k x m' = some ()) : runT (tab lf) (n + 2) 118 [slTo 2 q] L m k = some () := by
  rw [r118]; dsimp only [S118, iofNat, inegSucc]
  obtain ⟨pv, cv, ev⟩ := hv.ex
  obtain ⟨pu, cu, eu⟩ := hu.ex
  have hsl : Sl 1 m (slTo 2 q) 2 [v, u] := Gs.sl (L := q) (.inr ⟨q, Nat.le_refl _, rfl, hr, rfl, by omega⟩)
  have hln : ln (slTo 2 q) = some (.int .i64 ((2 : Nat) : Int)) := hsl.ln
  have hc0 : ([v, u] : List Value)[0]? = some v := rfl
  have hc1 : ([v, u] : List Value)[1]? = some u := rfl
  have hi0 := hsl.ia (i := 0) (by omega)
  have hi1 := hsl.ia (i := 1) (by omega)
  have hd0 := hsl.ld (i := 0) (by omega) hc0
  have hd1 := hsl.ld (i := 1) (by omega) hc1
  rw [uc_e, un0_e, hln, oOpt_e]
  refine loop_up 2 (fun i vs m' => m' = m ∧ (i = 0 → vs = [.int .i64 0, .int .i64 0]) ∧ (i = 1 → vs = [.int .i64 (a.length : Int), .int .i64 1]) ∧ (i = 2 → vs = [.int .i64 ((a.length : Int) + b.length), .int .i64 2])) (by omega) ⟨rfl, (fun _ => rfl), (fun h => by omega), fun h => by omega⟩ ?_
  rintro i vs m' hi ⟨rfl, h0, h1, h2⟩ self hself
  match i, hi with
  | 0, _ =>
    obtain rfl := h0 rfl
    rw [uc_e, uc_e, oInt_lss, decide_eq_true (show (0 : Int) < ((2 : Nat) : Int) by omega), oIf_t, show (.int .i64 0 : Value) = .int .i64 ((0 : Nat) : Int) from rfl, hi0, oOpt_e, hd0, oOpt_e, hv.ln, oOpt_e, oInt_add ⟨by omega, by omega⟩, show ((0 : Nat) : Int) + (a.length : Int) = (a.length : Int) by omega, show ((0 : Nat) : Int) = 0 from rfl, oInt_lss, decide_eq_false (show ¬ (a.length : Int) < 0 by omega)]
    try simp (disch := first | omega | with_unfolding_all exact id rfl | with_unfolding_all exact Nat.le_of_ble_eq_true rfl | (simp only [Jd, Je, Jr, Js, Jt, Nat.reduceAdd, allOne, oneCell, Bool.and_self, Jc]; first | done | omega)) only [↓Qa, ↓Qb, ↓Qc, Qd, Qe, Qf, Qg, Qh, Qi, Qj, Qk, Ql, Qm, Qn, Qo, Qp, Qq, Qr, Qs, Qt, Qu, Qv, Qw, Qx, Qy, ptrTo, Qz, QA, QB, QC, QD, QE, QF, QG, QH, QI, QJ, QK, QL, QM, QN, QO, QP, QQ, QR, QS, QT, QU, QV, QW, QX, QY, QZ, Ja, Jb, Jc, Jd, Je, Jf, Jg, Jh, Ji, Jj, Jk, Jl, Jm, Jn, Jo, Jp, Jq, Jr, Js, Jt, Nat.reduceAdd]
    exact hself (by omega) _ _ ⟨rfl, (fun h => by omega), (fun _ => rfl), fun h => by omega⟩
  | 1, _ =>
    obtain rfl := h1 rfl
    rw [uc_e, uc_e, oInt_lss, decide_eq_true (show (1 : Int) < ((2 : Nat) : Int) by omega), oIf_t, show (.int .i64 1 : Value) = .int .i64 ((1 : Nat) : Int) from rfl, hi1, oOpt_e, hd1, oOpt_e, hu.ln, oOpt_e, oInt_add ⟨by omega, by omega⟩, oInt_lss, decide_eq_false (show ¬ (a.length : Int) + (b.length : Int) < 0 by omega)]
    try simp (disch := first | omega | with_unfolding_all exact id rfl | with_unfolding_all exact Nat.le_of_ble_eq_true rfl | (simp only [Jd, Je, Jr, Js, Jt, Nat.reduceAdd, allOne, oneCell, Bool.and_self, Jc]; first | done | omega)) only [↓Qa, ↓Qb, ↓Qc, Qd, Qe, Qf, Qg, Qh, Qi, Qj, Qk, Ql, Qm, Qn, Qo, Qp, Qq, Qr, Qs, Qt, Qu, Qv, Qw, Qx, Qy, ptrTo, Qz, QA, QB, QC, QD, QE, QF, QG, QH, QI, QJ, QK, QL, QM, QN, QO, QP, QQ, QR, QS, QT, QU, QV, QW, QX, QY, QZ, Ja, Jb, Jc, Jd, Je, Jf, Jg, Jh, Ji, Jj, Jk, Jl, Jm, Jn, Jo, Jp, Jq, Jr, Js, Jt, Nat.reduceAdd]
    exact hself (by omega) _ _ ⟨rfl, (fun h => by omega), (fun h => by omega), fun _ => rfl⟩
  | 2, _ =>
    obtain rfl := h2 rfl
    rw [uc_e, uc_e, oInt_lss, decide_eq_false (show ¬ (2 : Int) < ((2 : Nat) : Int) by omega), oIf_f]
    obtain ⟨c, hc⟩ : ∃ c, a.length + b.length = c + 1 := ⟨a.length + b.length - 1, by omega⟩
    rw [show (a.length : Int) + b.length = ((c + 1 : Nat) : Int) by omega]
    refine grow_sp (by omega) ?_
    have e1 := Mem.gt_push m' ⟨1, List.replicate (c + 1) (.int .i64 0), none⟩
    have q1 : (m'.push ⟨1, List.replicate (c + 1) (.int .i64 0), none⟩).rd m'.next = some ⟨1, List.replicate (c + 1) (.int .i64 0), none⟩ := Mem.rd_push _ _
    have l1 : (m'.push ⟨1, List.replicate (c + 1) (.int .i64 0), none⟩).next = m'.next + 1 := Mem.push_next _ _
    generalize m'.push ⟨1, List.replicate (c + 1) (.int .i64 0), none⟩ = m1 at e1 q1 l1 ⊢
    generalize hB : m'.next = B at *
    have hs1 := hsl.mono e1
    have hv1 := hv.mono e1
    have hu1 := hu.mono e1
    rw [oOpt_e]
    obtain ⟨ja, hja⟩ : ∃ j, a.length = j + 1 := ⟨a.length - 1, by omega⟩
    obtain ⟨jb, hjb⟩ : ∃ j, b.length = j + 1 := ⟨b.length - 1, by omega⟩
    have sa : asrc m1 1 v = some (ja + 1, a.map (Value.int .i64)) := by have := hv1.1; rwa [hja] at this
    have ap1 := aapp_in (P := Try.prog) (L := L) (t := 22) (b := B) (o := 0) (n := 0) (c := c + 1) (s := 1) (j := ja) (x := v) (cs := List.replicate (c + 1) (.int .i64 0)) (ds := a.map (Value.int .i64)) ael22 sa (by rw [List.length_map]; omega) (by omega) hL q1 (by rw [List.length_replicate]; omega) (allOne_map _)
    have hcells : (List.replicate (c + 1) (Value.int .i64 0)).take (0 + 0) ++ (a.map (Value.int .i64) ++ (List.replicate (c + 1) (Value.int .i64 0)).drop (0 + 0 + (a.map (Value.int .i64)).length)) = a.map (Value.int .i64) ++ List.replicate (c + 1 - a.length) (Value.int .i64 0) := by
      rw [List.length_map, List.drop_replicate]; simp
    rw [hcells] at ap1
    have e2 : Gt m' (m1.put B (some ⟨1, a.map (Value.int .i64) ++ List.replicate (c + 1 - a.length) (Value.int .i64 0), none⟩)) := Mem.put_gt e1 _ (by omega)
    have q2 : (m1.put B (some ⟨1, a.map (Value.int .i64) ++ List.replicate (c + 1 - a.length) (Value.int .i64 0), none⟩)).rd B = some ⟨1, a.map (Value.int .i64) ++ List.replicate (c + 1 - a.length) (Value.int .i64 0), none⟩ := Mem.rd_put_eq _ _ (by omega)
    have l2 : (m1.put B (some ⟨1, a.map (Value.int .i64) ++ List.replicate (c + 1 - a.length) (Value.int .i64 0), none⟩)).next = m1.next := rfl
    generalize m1.put B (some ⟨1, a.map (Value.int .i64) ++ List.replicate (c + 1 - a.length) (Value.int .i64 0), none⟩) = m2 at ap1 e2 q2 l2
    have hs2 := hsl.mono e2
    have hu2 := hu.mono e2
    have sb : asrc m2 1 u = some (jb + 1, b.map (Value.int .i64)) := by have := hu2.1; rwa [hjb] at this
    have ap2 := aapp_in (P := Try.prog) (L := L) (t := 22) (b := B) (o := 0) (n := 0 + (ja + 1)) (c := c + 1) (s := 1) (j := jb) (x := u) (cs := a.map (Value.int .i64) ++ List.replicate (c + 1 - a.length) (Value.int .i64 0)) (ds := b.map (Value.int .i64)) ael22 sb (by rw [List.length_map]; omega) (by omega) hL q2 (by rw [List.length_append, List.length_map, List.length_replicate]; omega) (allOne_map _)
    have hcells2 : (a.map (Value.int .i64) ++ List.replicate (c + 1 - a.length) (Value.int .i64 0)).take (0 + (0 + (ja + 1))) ++ (b.map (Value.int .i64) ++ (a.map (Value.int .i64) ++ List.replicate (c + 1 - a.length) (Value.int .i64 0)).drop (0 + (0 + (ja + 1)) + (b.map (Value.int .i64)).length)) = (a ++ b).map (Value.int .i64) := by
      rw [List.take_append_of_le_length (by rw [List.length_map]; omega), List.take_of_length_le (by rw [List.length_map]; omega), List.drop_of_length_le (by rw [List.length_append, List.length_map, List.length_map, List.length_replicate]; omega), List.append_nil, List.map_append]
    rw [hcells2] at ap2
    have e3 : Gt m' (m2.put B (some ⟨1, (a ++ b).map (Value.int .i64), none⟩)) := Mem.put_gt e2 _ (by omega)
    have q3 : (m2.put B (some ⟨1, (a ++ b).map (Value.int .i64), none⟩)).rd B = some ⟨1, (a ++ b).map (Value.int .i64), none⟩ := Mem.rd_put_eq _ _ (by omega)
    generalize m2.put B (some ⟨1, (a ++ b).map (Value.int .i64), none⟩) = m3 at ap2 e3 q3
    refine loop_up 2 (fun i vs mm => (i = 0 → mm = m1 ∧ vs = [.slice (some ⟨B, 0, none⟩) 0 (c + 1), .int .i64 0]) ∧ (i = 1 → mm = m2 ∧ vs = [.slice (some ⟨B, 0, none⟩) (0 + (ja + 1)) (c + 1), .int .i64 1]) ∧ (i = 2 → mm = m3 ∧ vs = [.slice (some ⟨B, 0, none⟩) (0 + (ja + 1) + (jb + 1)) (c + 1), .int .i64 2])) (by omega) ⟨fun _ => ⟨rfl, rfl⟩, (fun h => by omega), fun h => by omega⟩ ?_
    rintro i vs mm hi ⟨h0, h1, h2⟩ self2 hself2
    match i, hi with
    | 0, _ =>
      obtain ⟨rfl, rfl⟩ := h0 rfl
      rw [uc_e, uc_e, oInt_lss, decide_eq_true (show (0 : Int) < ((2 : Nat) : Int) by omega), oIf_t, show (0 : Int) = ((0 : Nat) : Int) from rfl, hs1.ia (by omega), oOpt_e, hs1.ld (by omega) hc0, oOpt_e, ap1, oRes_e, oInt_add ⟨by omega, by omega⟩]
      exact hself2 (by omega) _ _ ⟨(fun h => by omega), fun _ => ⟨rfl, rfl⟩, fun h => by omega⟩
    | 1, _ =>
      obtain ⟨rfl, rfl⟩ := h1 rfl
      rw [uc_e, uc_e, oInt_lss, decide_eq_true (show (1 : Int) < ((2 : Nat) : Int) by omega), oIf_t, show (1 : Int) = ((1 : Nat) : Int) from rfl, hs2.ia (by omega), oOpt_e, hs2.ld (by omega) hc1, oOpt_e, ap2, oRes_e, oInt_add ⟨by omega, by omega⟩]
      exact hself2 (by omega) _ _ ⟨(fun h => by omega), (fun h => by omega), fun _ => ⟨rfl, rfl⟩⟩
    | 2, _ =>
      obtain ⟨rfl, rfl⟩ := h2 rfl
      rw [uc_e, uc_e, oInt_lss, decide_eq_false (show ¬ (2 : Int) < ((2 : Nat) : Int) by omega), oIf_f]
      refine hk _ _ e3 ?_
      have := IL.of (x := none) (o := 0) (n := 0 + (ja + 1) + (jb + 1)) (c := c + 1) (l := a ++ b) q3 (by rw [List.length_map, List.length_append]; omega) (by rw [List.drop_zero, List.take_of_length_le (by rw [List.length_map, List.length_append]; omega)])
      exact this
end
end Go.Vit
