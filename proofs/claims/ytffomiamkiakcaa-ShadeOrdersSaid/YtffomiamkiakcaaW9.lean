/- Walks: all arrangements, and the best of them, as the reference finds it. -/
import Derived.Test.YtffomiamkiakcaaW8
set_option linter.unusedSimpArgs false
set_option linter.unusedVariables false
set_option maxRecDepth 20000
namespace Go.Vit
open Go Go.Proofs
attribute [local irreducible] runT loopS
section
variable {lf L : Nat}
theorem without_sp {n i : Nat} {m : Mem} {v : Value} {l : List Int} {k : Value → Mem → Option Unit} (hL : L ≤ m.next) (hv : IL m v l) (ho : Opn v) (hi : i < l.length) (hl : l.length < 1000)
    (hk : ∀ u m', Gt m m' → IL m' u (l.take i ++ l.drop (i + 1)) → Opn u → k u m' = some ()) : runT (tab lf) (n + 1) 106 [v, .int .i64 (i : Int)] L m k = some () := by
  rw [r106]; dsimp only [S106, iofNat, inegSucc]
  rw [uc_e, uc_e, un0_e, bs220, oRes_e]
  obtain ⟨u1, s1, s2⟩ := sl_pre hv ho (by omega) (i := i) (by omega)
  obtain ⟨u2, s3, s4⟩ := sl_suf hv ho (k := i + 1) (by omega) (by omega)
  rw [s1, oOpt_e]
  have g1 := Mem.gt_push m ⟨1, [], none⟩
  have n1 : (m.push ⟨1, [], none⟩).next = m.next + 1 := Mem.push_next _ _
  have p1 : (m.push ⟨1, [], none⟩).rd m.next = some ⟨1, [], none⟩ := Mem.rd_push _ _
  generalize m.push ⟨1, [], none⟩ = m1 at g1 n1 p1 ⊢
  have s2' := s2.mono g1
  have hf : ∀ K : Value → Option Unit, oInt .add .i64 (.int .i64 (i : Int)) (.int .i64 1) K = K (.int .i64 ((i + 1 : Nat) : Int)) := fun K => by rw [oInt_add ⟨by omega, by omega⟩]; rfl
  have tl : (l.take i).length = i := by rw [List.length_take]; omega
  have dl : (l.drop (i + 1)).length = l.length - (i + 1) := List.length_drop
  by_cases h0 : i = 0
  · have he : l.take i = [] := by rw [h0]; rfl
    rw [he] at s2'
    rw [app_nil s2', oRes_e, hf, s3, oOpt_e]
    have s4' := s4.mono g1
    by_cases hd : (l.drop (i + 1)).length = 0
    · have hd0 := List.length_eq_zero_iff.1 hd
      rw [hd0] at s4'
      rw [app_nil s4', oRes_e]
      refine hk _ _ g1 ?_ (Opn.nil0 _)
      rw [he, hd0]
      exact IL.nil0 _ _
    · rw [app_e0 p1 s4' (by omega) (by omega), oRes_e]
      have hg := gl_new (m := m1) (l := l.drop (i + 1)) (by omega) (L := m.next) (by omega)
      refine hk _ _ (g1.trans (Mem.gt_push _ _)) ?_ hg.opn
      rw [he]
      exact hg.il
  · rw [app_e0 p1 s2' (by omega) (by omega), oRes_e, hf, s3, oOpt_e]
    have hg := gl_new (m := m1) (l := l.take i) (by omega) (L := m.next) (by omega)
    have g2 := g1.trans (Mem.gt_push m1 ⟨1, (l.take i).map (Value.int .i64), none⟩)
    generalize m1.push ⟨1, (l.take i).map (Value.int .i64), none⟩ = m2 at hg g2 ⊢
    have n2 := g2.next
    obtain ⟨z, m3, q1, q2, q3, q4⟩ := GL.app (L := L) (m0 := m) hg (s4.mono g2) (by omega) hL (by omega) g2 (Nat.le_refl _)
    rw [q1, oRes_e]
    exact hk _ _ q3 q2.il q2.opn
set_option maxHeartbeats 1000000 in
theorem all_sp (hlf : 1000000 ≤ lf) : ∀ (kk : Nat) {n lo : Nat} {m : Mem} {bv lv : Value} {begun left : List Int} {k : Value → Mem → Option Unit}, left.length = kk → kk ≤ 7 → begun.length + kk ≤ 7 → IL m bv begun → Opn lv → IL m lv left → L ≤ lo → lo ≤ m.next →
    (∀ c, bid bv = some c → lo ≤ c ∧ c < m.next) → (∀ u m', Gt m m' → LJ lo m' u (allR kk begun left) → k u m' = some ()) → runT (tab lf) (n + kk + 2) 95 [bv, lv] L m k = some () := by
  intro kk
  induction kk with
  | zero =>
    intro n lo m bv lv begun left k hkk h7 hb7 hbv ho hlv hL hlo hbb hk
    rw [r95]; dsimp only [S95, iofNat, inegSucc]
    have hz := hlv.ln
    rw [hkk] at hz
    rw [uc_e, uc_e, un0_e, hz, oOpt_e, oInt_eql, decide_eq_true (show ((0 : Nat) : Int) = 0 from rfl), oIf_t, bs631 m bv hbv, oRes_e]
    exact hk _ _ (Mem.gt_push _ _) (LJ.one hbv hbb hlo)
  | succ kk ih =>
    intro n lo m bv lv begun left k hkk h7 hb7 hbv ho hlv hL hlo hbb hk
    rw [show n + (kk + 1) + 2 = (n + kk + 2) + 1 by omega, r95]; dsimp only [S95, iofNat, inegSucc]
    rw [uc_e, uc_e, un0_e, hlv.ln, oOpt_e, oInt_eql, decide_eq_false (show ¬ ((left.length : Nat) : Int) = 0 by omega), oIf_f]
    have hfac : (allR (kk + 1) begun left).length ≤ 5040 := by
      have h1 := allR_len (kk + 1) begun left hkk
      have : ∀ q, q ≤ 7 → fac q ≤ 5040 := by decide
      exact Nat.le_trans h1 (this _ h7)
    refine loop_up left.length (fun i vs m' => ∃ out X, vs = [out, .int .i64 (i : Int)] ∧ Gt m m' ∧ LJ lo m' out X ∧ (∀ c, bid out = some c → m.next ≤ c) ∧ X ++ allS (allR kk) begun (left.take i) (left.drop i) = allR (kk + 1) begun left) (by omega)
      ⟨_, [], rfl, Gt.refl _, LJ.nil hlo, (fun c hc => by cases hc), rfl⟩ ?_
    rintro i vs m9 hi ⟨out, X, rfl, e9, hX, hob, hT⟩ self hself
    have n9 := e9.next
    have hlv9 := hlv.mono e9
    rw [uc_e, uc_e, oOpt_e, oInt_lss]
    refine oIf_dec (fun h => ?_) (fun h => ?_)
    · have hil : i < left.length := by omega
      have hdr : left.drop i = left[i] :: left.drop (i + 1) := List.drop_eq_getElem_cons hil
      have htk : left.take (i + 1) = left.take i ++ [left[i]] := by rw [List.take_add_one, List.getElem?_eq_getElem hil]; rfl
      rw [hdr] at hT
      have hT2 : X ++ ((if left[i] ∈ left.take i then [] else allR kk (begun ++ [left[i]]) (left.take i ++ left.drop (i + 1))) ++ allS (allR kk) begun (left.take i ++ [left[i]]) (left.drop (i + 1))) = allR (kk + 1) begun left := hT
      obtain ⟨u1, s1, s2⟩ := sl_pre hlv9 ho (by omega) (i := i) (by omega)
      rw [s1, oOpt_e, hlv9.ia hil, oOpt_e, hlv9.ld hil, oOpt_e]
      refine has_sp _ hlf s2 (by rw [List.length_take]; omega) ?_
      by_cases hin : left[i] ∈ left.take i
      · rw [if_pos hin, List.nil_append] at hT2
        try simp (disch := first | omega | with_unfolding_all exact id rfl | with_unfolding_all exact Nat.le_of_ble_eq_true rfl | (simp only [Jd, Je, Jr, Js, Jt, Nat.reduceAdd, allOne, oneCell, Bool.and_self, Jc]; first | done | omega)) only [decide_eq_true hin, ↓Qa, ↓Qb, ↓Qc, Qd, Qe, Qf, Qg, Qh, Qi, Qj, Qk, Ql, Qm, Qn, Qo, Qp, Qq, Qr, Qs, Qt, Qu, Qv, Qw, Qx, Qy, ptrTo, Qz, QA, QB, QC, QD, QE, QF, QG, QH, QI, QJ, QK, QL, QM, QN, QO, QP, QQ, QR, QS, QT, QU, QV, QW, QX, QY, QZ, Ja, Jb, Jc, Jd, Je, Jf, Jg, Jh, Ji, Jj, Jk, Jl, Jm, Jn, Jo, Jp, Jq, Jr, Js, Jt, Nat.reduceAdd]
        rw [oInt_add ⟨by omega, by omega⟩]
        refine hself hil _ _ ⟨out, X, rfl, e9, hX, hob, ?_⟩
        rw [htk]; exact hT2
      · rw [if_neg hin] at hT2
        try simp (disch := first | omega | with_unfolding_all exact id rfl | with_unfolding_all exact Nat.le_of_ble_eq_true rfl | (simp only [Jd, Je, Jr, Js, Jt, Nat.reduceAdd, allOne, oneCell, Bool.and_self, Jc]; first | done | omega)) only [decide_eq_false hin, ↓Qa, ↓Qb, ↓Qc, Qd, Qe, Qf, Qg, Qh, Qi, Qj, Qk, Ql, Qm, Qn, Qo, Qp, Qq, Qr, Qs, Qt, Qu, Qv, Qw, Qx, Qy, ptrTo, Qz, QA, QB, QC, QD, QE, QF, QG, QH, QI, QJ, QK, QL, QM, QN, QO, QP, QQ, QR, QS, QT, QU, QV, QW, QX, QY, QZ, Ja, Jb, Jc, Jd, Je, Jf, Jg, Jh, Ji, Jj, Jk, Jl, Jm, Jn, Jo, Jp, Jq, Jr, Js, Jt, Nat.reduceAdd]
        rw [bs220, oRes_e]
        obtain ⟨w1, x1, u, x2, a1, a2, a3, a4, a5⟩ := app2 (L := L) (L' := (m9.push ⟨1, [], none⟩).next) (m := m9) left[i] (by omega) (hbv.mono e9) (by omega)
        have hlvx := hlv9.mono a2
        rw [a1, oRes_e, hlvx.ld hil, oOpt_e, bs22, oRes_e, a3, oRes_e]
        have nx := a4.next
        have hlvx2 := hlv9.mono a4
        refine without_sp (by omega) hlvx2 ho hil (by omega) fun u3 m40 e40 hu3 ho3 => ?_
        have n40 := e40.next
        have hlen : (left.take i ++ left.drop (i + 1)).length = kk := by rw [List.length_append, List.length_take, List.length_drop]; omega
        have a5b := a5.bid_lt
        refine ih (lo := m9.next) hlen (by omega) (by rw [List.length_append]; simp; omega) (a5.il.mono e40) ho3 hu3 (by omega) (by omega) (fun c hc => by have := a5b c hc; omega) fun u4 m42 e42 hu4 => ?_
        have e942 := (a4.trans e40).trans e42
        have n42 := e42.next
        have hpos : 0 < (allR kk (begun ++ [left[i]]) (left.take i ++ left.drop (i + 1))).length := by
          have : (begun ++ [left[i]]) ++ (left.take i ++ left.drop (i + 1)) ∈ allR kk (begun ++ [left[i]]) (left.take i ++ left.drop (i + 1)) := (allR_mem kk _ _ _ hlen).2 ⟨_, List.Perm.refl _, rfl⟩
          exact List.length_pos_of_mem this
        have hlenT := congrArg List.length hT2
        rw [List.length_append, List.length_append] at hlenT
        obtain ⟨z, m44, q1, q2, q3, q4, q5⟩ := LJ.app (P := Try.prog) (t := 63) (L := L) ael63 (by omega) (hX.mono e942) hu4 hpos (by omega) (fun c hc => (hX.fr c hc).2) (by omega) hL
        rw [q1, oRes_e]
        try simp (disch := first | omega | with_unfolding_all exact id rfl | with_unfolding_all exact Nat.le_of_ble_eq_true rfl | (simp only [Jd, Je, Jr, Js, Jt, Nat.reduceAdd, allOne, oneCell, Bool.and_self, Jc]; first | done | omega)) only [↓Qa, ↓Qb, ↓Qc, Qd, Qe, Qf, Qg, Qh, Qi, Qj, Qk, Ql, Qm, Qn, Qo, Qp, Qq, Qr, Qs, Qt, Qu, Qv, Qw, Qx, Qy, ptrTo, Qz, QA, QB, QC, QD, QE, QF, QG, QH, QI, QJ, QK, QL, QM, QN, QO, QP, QQ, QR, QS, QT, QU, QV, QW, QX, QY, QZ, Ja, Jb, Jc, Jd, Je, Jf, Jg, Jh, Ji, Jj, Jk, Jl, Jm, Jn, Jo, Jp, Jq, Jr, Js, Jt, Nat.reduceAdd]
        rw [oInt_add ⟨by omega, by omega⟩]
        refine hself hil _ _ ⟨z, X ++ allR kk (begun ++ [left[i]]) (left.take i ++ left.drop (i + 1)), rfl, ⟨by omega, fun c hc => ?_⟩, q2, fun c hc => by have := q3 c hc; omega, ?_⟩
        · rw [q5 c (by omega) (fun hb => by have := hob c hb; omega)]
          exact (e9.trans e942).kept c hc
        · rw [htk, List.append_assoc]; exact hT2
    · have hin : i = left.length := by omega
      subst hin
      rw [List.drop_length] at hT
      have hT2 : X ++ [] = allR (kk + 1) begun left := hT
      rw [List.append_nil] at hT2
      rw [← hT2] at hk
      exact hk _ _ e9 hX
theorem smaller_sp {n : Nat} {m : Mem} {v u : Value} {a b : List Int} {k : Value → Mem → Option Unit} (hlf : 1000000 ≤ lf) (hv : IL m v a) (hu : IL m u b) (hl : a.length = b.length) (hl2 : a.length < 1000) (hk : k (.bool (sm a b)) m = some ()) :
    runT (tab lf) (n + 1) 96 [v, u] L m k = some () := by
  rw [r96]; dsimp only [S96, iofNat, inegSucc]
  try simp (disch := first | omega | with_unfolding_all exact id rfl | with_unfolding_all exact Nat.le_of_ble_eq_true rfl | (simp only [Jd, Je, Jr, Js, Jt, Nat.reduceAdd, allOne, oneCell, Bool.and_self, Jc]; first | done | omega)) only [↓Qa, ↓Qb, ↓Qc, Qd, Qe, Qf, Qg, Qh, Qi, Qj, Qk, Ql, Qm, Qn, Qo, Qp, Qq, Qr, Qs, Qt, Qu, Qv, Qw, Qx, Qy, ptrTo, Qz, QA, QB, QC, QD, QE, QF, QG, QH, QI, QJ, QK, QL, QM, QN, QO, QP, QQ, QR, QS, QT, QU, QV, QW, QX, QY, QZ, Ja, Jb, Jc, Jd, Je, Jf, Jg, Jh, Ji, Jj, Jk, Jl, Jm, Jn, Jo, Jp, Jq, Jr, Js, Jt, Nat.reduceAdd]
  refine loop_up a.length (fun i vs m' => vs = [.int .i64 (i : Int)] ∧ m' = m ∧ sm (a.drop i) (b.drop i) = sm a b) (by omega) ⟨rfl, rfl, rfl⟩ ?_
  rintro i vs m' hi ⟨rfl, rfl, hS⟩ self hself
  try simp (disch := first | omega | with_unfolding_all exact id rfl | with_unfolding_all exact Nat.le_of_ble_eq_true rfl | (simp only [Jd, Je, Jr, Js, Jt, Nat.reduceAdd, allOne, oneCell, Bool.and_self, Jc]; first | done | omega)) only [hv.ln, ↓Qa, ↓Qb, ↓Qc, Qd, Qe, Qf, Qg, Qh, Qi, Qj, Qk, Ql, Qm, Qn, Qo, Qp, Qq, Qr, Qs, Qt, Qu, Qv, Qw, Qx, Qy, ptrTo, Qz, QA, QB, QC, QD, QE, QF, QG, QH, QI, QJ, QK, QL, QM, QN, QO, QP, QQ, QR, QS, QT, QU, QV, QW, QX, QY, QZ, Ja, Jb, Jc, Jd, Je, Jf, Jg, Jh, Ji, Jj, Jk, Jl, Jm, Jn, Jo, Jp, Jq, Jr, Js, Jt, Nat.reduceAdd]
  refine oIf_dec (fun h => ?_) (fun h => ?_)
  · have hia : i < a.length := by omega
    have hib : i < b.length := by omega
    have hS2 : (if a[i] = b[i] then sm (a.drop (i + 1)) (b.drop (i + 1)) else decide (a[i] < b[i])) = sm a b := by
      rw [List.drop_eq_getElem_cons hia, List.drop_eq_getElem_cons hib] at hS
      exact hS
    try simp (disch := first | omega | with_unfolding_all exact id rfl | with_unfolding_all exact Nat.le_of_ble_eq_true rfl | (simp only [Jd, Je, Jr, Js, Jt, Nat.reduceAdd, allOne, oneCell, Bool.and_self, Jc]; first | done | omega)) only [hv.ia hia, hv.ld hia, hu.ia hib, hu.ld hib, ↓Qa, ↓Qb, ↓Qc, Qd, Qe, Qf, Qg, Qh, Qi, Qj, Qk, Ql, Qm, Qn, Qo, Qp, Qq, Qr, Qs, Qt, Qu, Qv, Qw, Qx, Qy, ptrTo, Qz, QA, QB, QC, QD, QE, QF, QG, QH, QI, QJ, QK, QL, QM, QN, QO, QP, QQ, QR, QS, QT, QU, QV, QW, QX, QY, QZ, Ja, Jb, Jc, Jd, Je, Jf, Jg, Jh, Ji, Jj, Jk, Jl, Jm, Jn, Jo, Jp, Jq, Jr, Js, Jt, Nat.reduceAdd]
    refine oIf_ndec (fun h2 => ?_) (fun h2 => ?_)
    · rw [if_neg h2] at hS2
      try simp (disch := first | omega | with_unfolding_all exact id rfl | with_unfolding_all exact Nat.le_of_ble_eq_true rfl | (simp only [Jd, Je, Jr, Js, Jt, Nat.reduceAdd, allOne, oneCell, Bool.and_self, Jc]; first | done | omega)) only [hv.ia hia, hv.ld hia, hu.ia hib, hu.ld hib, ↓Qa, ↓Qb, ↓Qc, Qd, Qe, Qf, Qg, Qh, Qi, Qj, Qk, Ql, Qm, Qn, Qo, Qp, Qq, Qr, Qs, Qt, Qu, Qv, Qw, Qx, Qy, ptrTo, Qz, QA, QB, QC, QD, QE, QF, QG, QH, QI, QJ, QK, QL, QM, QN, QO, QP, QQ, QR, QS, QT, QU, QV, QW, QX, QY, QZ, Ja, Jb, Jc, Jd, Je, Jf, Jg, Jh, Ji, Jj, Jk, Jl, Jm, Jn, Jo, Jp, Jq, Jr, Js, Jt, Nat.reduceAdd]
      rw [hS2]; exact hk
    · rw [if_pos h2] at hS2
      rw [oInt_add ⟨by omega, by omega⟩]
      exact hself hia _ _ ⟨rfl, rfl, hS2⟩
  · have hin : i = a.length := by omega
    subst hin
    rw [List.drop_length] at hS
    have : sm [] (b.drop a.length) = false := rfl
    rw [this] at hS
    rw [← hS] at hk
    exact hk
theorem LJ.ld {lo : Nat} {m : Mem} {u : Value} {ll : List (List Int)} (h : LJ lo m u ll) {i : Nat} (hi : i < ll.length) : ∃ v, ld1 m (ep 1 u i) = some v ∧ IL m v ll[i] := h.li.ld hi
theorem best_mem {s p : List Int} (h : p ∈ allR s.length [] s) : p.Perm s := by
  obtain ⟨q, hq, rfl⟩ := (allR_mem s.length [] s p rfl).1 h
  exact hq
set_option maxHeartbeats 1000000 in
theorem rbox_sp {n : Nat} {m : Mem} {v : Value} {l : List Int} {r : Bool} {k : Value → Mem → Option Unit} (hlf : 1000000 ≤ lf) (hL : L ≤ m.next) (hv : IL m v l) (ho : Opn v) (h1 : 1 ≤ l.length) (h7 : l.length ≤ 7) (hle : ∀ x ∈ l, 0 ≤ x ∧ x ≤ 60)
    (hk : ∀ u m' R, Gt m m' → IL m' u R → Best (cM r) l R → k u m' = some ()) : runT (tab lf) (n + 10) 73 [v, .bool r] L m k = some () := by
  rw [r73]; dsimp only [S73, iofNat, inegSucc]
  rw [uc_e, uc_e, un0_e]
  rw [show n + 9 = (n + (7 - l.length)) + l.length + 2 by omega]
  refine all_sp hlf l.length (lo := m.next) rfl h7 (by simp; omega) (IL.nil m) ho hv hL (Nat.le_refl _) (fun c hc => by cases hc) fun t4 m5 e5 ht4 => ?_
  rw [show (n + (7 - l.length)) + l.length + 2 = (n + 7) + 2 by omega]
  obtain ⟨b, q, hbq⟩ := allR_ne l
  have hB := ref_best (cost := cM r) hbq
  have hmem : ∀ i (hi : i < (allR l.length [] l).length), (allR l.length [] l)[i].Perm l := fun i hi => best_mem (List.getElem_mem hi)
  have hlen : (allR l.length [] l).length ≤ 5040 := by
    have h1 := allR_len l.length [] l rfl
    have : ∀ q, q ≤ 7 → fac q ≤ 5040 := by decide
    exact Nat.le_trans h1 (this _ h7)
  have hb0 : b.Perm l := best_mem (by rw [hbq]; simp)
  have hql : (allR l.length [] l).length = q.length + 1 := by rw [hbq]; rfl
  have hqd : ∀ i, (allR l.length [] l).drop (i + 1) = q.drop i := fun i => by rw [hbq]; rfl
  have h00 : ∀ h : 0 < (allR l.length [] l).length, (allR l.length [] l)[0] = b := fun h => by simp only [hbq, List.getElem_cons_zero]
  generalize allR l.length [] l = A at ht4 hmem hlen hql hqd h00
  have hA0 : 0 < A.length := by omega
  obtain ⟨v0, c1, c2⟩ := ht4.ld hA0
  rw [h00 hA0] at c2
  have i0 : ia 1 t4 (.int .i64 0) = some (ep 1 t4 0) := ht4.li.ia hA0
  rw [i0, oOpt_e, c1, oOpt_e]
  have hperm : ∀ {p : List Int}, p.Perm l → 1 ≤ p.length ∧ p.length ≤ 7 ∧ ∀ x ∈ p, 0 ≤ x ∧ x ≤ 60 := fun hp => by
    have := hp.length_eq
    exact ⟨by omega, by omega, fun x hx => hle x (hp.mem_iff.1 hx)⟩
  refine loop_up q.length (fun i vs m' => ∃ cur R, vs = [cur, .int .i64 ((i + 1 : Nat) : Int)] ∧ Gt m5 m' ∧ IL m' cur R ∧ R.Perm l ∧ refL (cM r) R (q.drop i) = refL (cM r) b q) (by omega) ⟨v0, b, rfl, Gt.refl _, c2, hb0, rfl⟩ ?_
  rintro i vs m9 hi ⟨cur, R, rfl, e9, hcur, hRp, hR⟩ self hself
  have n5 := e5.next
  have n9 := e9.next
  have ht9 := ht4.mono e9
  rw [uc_e, uc_e, ht9.ln, oOpt_e, oInt_lss]
  refine oIf_dec (fun h => ?_) (fun h => ?_)
  · have hiA : i + 1 < A.length := by omega
    have hiq : i < q.length := by omega
    obtain ⟨x, x1, x2⟩ := ht9.ld hiA
    have hxp := hmem _ hiA
    rw [ht9.li.ia hiA, oOpt_e, x1, oOpt_e]
    have hAq : q[i] = A[i + 1] := by
      have h2 := hqd i
      rw [List.drop_eq_getElem_cons hiA, List.drop_eq_getElem_cons hiq] at h2
      exact (List.cons.inj h2).1.symm
    rw [List.drop_eq_getElem_cons hiq, hAq] at hR
    have hR2 : refL (cM r) (if (decide (cM r A[i + 1] < cM r R) || (decide (cM r A[i + 1] = cM r R) && sm A[i + 1] R)) = true then A[i + 1] else R) (q.drop (i + 1)) = refL (cM r) b q := hR
    obtain ⟨p1, p2, p3⟩ := hperm hxp
    obtain ⟨p4, p5, p6⟩ := hperm hRp
    refine rmax_sp hlf (by omega) x2 p1 p2 p3 fun m10 e10 => ?_
    have n10 := e10.next
    refine rmax_sp hlf (by omega) (hcur.mono e10) p4 p5 p6 fun m11 e11 => ?_
    have e911 := e10.trans e11
    have ht11 := ht9.mono e911
    obtain ⟨x', x1', x2'⟩ := ht11.ld hiA
    have hadd : ∀ K : Value → Option Unit, oInt .add .i64 (.int .i64 ((i + 1 : Nat) : Int)) (.int .i64 1) K = K (.int .i64 ((i + 1 + 1 : Nat) : Int)) := fun K => by rw [oInt_add ⟨by omega, by omega⟩]; rfl
    have hc1 : (stepX A[i + 1] r).foldl fMax 0 = cM r A[i + 1] := rfl
    have hc2 : (stepX R r).foldl fMax 0 = cM r R := rfl
    rw [hc1, hc2]
    generalize cM r A[i + 1] = ca at hR2 ⊢
    generalize cM r R = cr at hR2 ⊢
    by_cases h2 : ca < cr
    · rw [decide_eq_true h2, Bool.true_or, if_pos rfl] at hR2
      try simp (disch := first | omega | with_unfolding_all exact id rfl | with_unfolding_all exact Nat.le_of_ble_eq_true rfl | (simp only [Jd, Je, Jr, Js, Jt, Nat.reduceAdd, allOne, oneCell, Bool.and_self, Jc]; first | done | omega)) only [decide_eq_true (show ca < cr by omega), ht11.li.ia hiA, x1', hadd, ↓Qa, ↓Qb, ↓Qc, Qd, Qe, Qf, Qg, Qh, Qi, Qj, Qk, Ql, Qm, Qn, Qo, Qp, Qq, Qr, Qs, Qt, Qu, Qv, Qw, Qx, Qy, ptrTo, Qz, QA, QB, QC, QD, QE, QF, QG, QH, QI, QJ, QK, QL, QM, QN, QO, QP, QQ, QR, QS, QT, QU, QV, QW, QX, QY, QZ, Ja, Jb, Jc, Jd, Je, Jf, Jg, Jh, Ji, Jj, Jk, Jl, Jm, Jn, Jo, Jp, Jq, Jr, Js, Jt, Nat.reduceAdd]
      exact hself hiq _ _ ⟨x', _, rfl, e9.trans e911, x2', hxp, hR2⟩
    · rw [decide_eq_false h2, Bool.false_or] at hR2
      by_cases h3 : ca = cr
      · rw [decide_eq_true h3, Bool.true_and] at hR2
        try simp (disch := first | omega | with_unfolding_all exact id rfl | with_unfolding_all exact Nat.le_of_ble_eq_true rfl | (simp only [Jd, Je, Jr, Js, Jt, Nat.reduceAdd, allOne, oneCell, Bool.and_self, Jc]; first | done | omega)) only [decide_eq_false (show ¬ ca < cr by omega), decide_eq_true (show ca = cr by omega), ht11.li.ia hiA, x1', ↓Qa, ↓Qb, ↓Qc, Qd, Qe, Qf, Qg, Qh, Qi, Qj, Qk, Ql, Qm, Qn, Qo, Qp, Qq, Qr, Qs, Qt, Qu, Qv, Qw, Qx, Qy, ptrTo, Qz, QA, QB, QC, QD, QE, QF, QG, QH, QI, QJ, QK, QL, QM, QN, QO, QP, QQ, QR, QS, QT, QU, QV, QW, QX, QY, QZ, Ja, Jb, Jc, Jd, Je, Jf, Jg, Jh, Ji, Jj, Jk, Jl, Jm, Jn, Jo, Jp, Jq, Jr, Js, Jt, Nat.reduceAdd]
        refine smaller_sp hlf x2' (hcur.mono e911) (by have := hxp.length_eq; have := hRp.length_eq; omega) (by omega) ?_
        cases hs : sm A[i + 1] R with
        | true =>
          rw [hs, if_pos rfl] at hR2
          try simp (disch := first | omega | with_unfolding_all exact id rfl | with_unfolding_all exact Nat.le_of_ble_eq_true rfl | (simp only [Jd, Je, Jr, Js, Jt, Nat.reduceAdd, allOne, oneCell, Bool.and_self, Jc]; first | done | omega)) only [decide_eq_false (show ¬ ca < cr by omega), ht11.li.ia hiA, x1', hadd, ↓Qa, ↓Qb, ↓Qc, Qd, Qe, Qf, Qg, Qh, Qi, Qj, Qk, Ql, Qm, Qn, Qo, Qp, Qq, Qr, Qs, Qt, Qu, Qv, Qw, Qx, Qy, ptrTo, Qz, QA, QB, QC, QD, QE, QF, QG, QH, QI, QJ, QK, QL, QM, QN, QO, QP, QQ, QR, QS, QT, QU, QV, QW, QX, QY, QZ, Ja, Jb, Jc, Jd, Je, Jf, Jg, Jh, Ji, Jj, Jk, Jl, Jm, Jn, Jo, Jp, Jq, Jr, Js, Jt, Nat.reduceAdd]
          exact hself hiq _ _ ⟨x', _, rfl, e9.trans e911, x2', hxp, hR2⟩
        | false =>
          rw [hs, if_neg (by simp)] at hR2
          try simp (disch := first | omega | with_unfolding_all exact id rfl | with_unfolding_all exact Nat.le_of_ble_eq_true rfl | (simp only [Jd, Je, Jr, Js, Jt, Nat.reduceAdd, allOne, oneCell, Bool.and_self, Jc]; first | done | omega)) only [decide_eq_false (show ¬ ca < cr by omega), hadd, ↓Qa, ↓Qb, ↓Qc, Qd, Qe, Qf, Qg, Qh, Qi, Qj, Qk, Ql, Qm, Qn, Qo, Qp, Qq, Qr, Qs, Qt, Qu, Qv, Qw, Qx, Qy, ptrTo, Qz, QA, QB, QC, QD, QE, QF, QG, QH, QI, QJ, QK, QL, QM, QN, QO, QP, QQ, QR, QS, QT, QU, QV, QW, QX, QY, QZ, Ja, Jb, Jc, Jd, Je, Jf, Jg, Jh, Ji, Jj, Jk, Jl, Jm, Jn, Jo, Jp, Jq, Jr, Js, Jt, Nat.reduceAdd]
          exact hself hiq _ _ ⟨cur, R, rfl, e9.trans e911, hcur.mono e911, hRp, hR2⟩
      · rw [decide_eq_false h3, Bool.false_and, if_neg (by simp)] at hR2
        try simp (disch := first | omega | with_unfolding_all exact id rfl | with_unfolding_all exact Nat.le_of_ble_eq_true rfl | (simp only [Jd, Je, Jr, Js, Jt, Nat.reduceAdd, allOne, oneCell, Bool.and_self, Jc]; first | done | omega)) only [decide_eq_false (show ¬ ca < cr by omega), decide_eq_false (show ¬ ca = cr by omega), hadd, ↓Qa, ↓Qb, ↓Qc, Qd, Qe, Qf, Qg, Qh, Qi, Qj, Qk, Ql, Qm, Qn, Qo, Qp, Qq, Qr, Qs, Qt, Qu, Qv, Qw, Qx, Qy, ptrTo, Qz, QA, QB, QC, QD, QE, QF, QG, QH, QI, QJ, QK, QL, QM, QN, QO, QP, QQ, QR, QS, QT, QU, QV, QW, QX, QY, QZ, Ja, Jb, Jc, Jd, Je, Jf, Jg, Jh, Ji, Jj, Jk, Jl, Jm, Jn, Jo, Jp, Jq, Jr, Js, Jt, Nat.reduceAdd]
        exact hself hiq _ _ ⟨cur, R, rfl, e9.trans e911, hcur.mono e911, hRp, hR2⟩
  · have hin : i = q.length := by omega
    subst hin
    rw [List.drop_length] at hR
    have hR2 : R = refL (cM r) b q := hR
    rw [← hR2] at hB
    exact hk _ _ R (e5.trans e9) hcur hB
set_option maxHeartbeats 1000000 in
theorem rwide_sp {n : Nat} {m : Mem} {v : Value} {l : List Int} {r : Bool} {k : Value → Mem → Option Unit} (hlf : 1000000 ≤ lf) (hL : L ≤ m.next) (hv : IL m v l) (ho : Opn v) (h1 : 1 ≤ l.length) (h7 : l.length ≤ 7) (hle : ∀ x ∈ l, 0 ≤ x ∧ x ≤ 60)
    (hk : ∀ u m' R, Gt m m' → IL m' u R → Best (cS r) l R → k u m' = some ()) : runT (tab lf) (n + 10) 76 [v, .bool r] L m k = some () := by
  rw [r76]; dsimp only [S76, iofNat, inegSucc]
  rw [uc_e, uc_e, un0_e]
  rw [show n + 9 = (n + (7 - l.length)) + l.length + 2 by omega]
  refine all_sp hlf l.length (lo := m.next) rfl h7 (by simp; omega) (IL.nil m) ho hv hL (Nat.le_refl _) (fun c hc => by cases hc) fun t4 m5 e5 ht4 => ?_
  rw [show (n + (7 - l.length)) + l.length + 2 = (n + 7) + 2 by omega]
  obtain ⟨b, q, hbq⟩ := allR_ne l
  have hB := ref_best (cost := cS r) hbq
  have hmem : ∀ i (hi : i < (allR l.length [] l).length), (allR l.length [] l)[i].Perm l := fun i hi => best_mem (List.getElem_mem hi)
  have hlen : (allR l.length [] l).length ≤ 5040 := by
    have h1 := allR_len l.length [] l rfl
    have : ∀ q, q ≤ 7 → fac q ≤ 5040 := by decide
    exact Nat.le_trans h1 (this _ h7)
  have hb0 : b.Perm l := best_mem (by rw [hbq]; simp)
  have hql : (allR l.length [] l).length = q.length + 1 := by rw [hbq]; rfl
  have hqd : ∀ i, (allR l.length [] l).drop (i + 1) = q.drop i := fun i => by rw [hbq]; rfl
  have h00 : ∀ h : 0 < (allR l.length [] l).length, (allR l.length [] l)[0] = b := fun h => by simp only [hbq, List.getElem_cons_zero]
  generalize allR l.length [] l = A at ht4 hmem hlen hql hqd h00
  have hA0 : 0 < A.length := by omega
  obtain ⟨v0, c1, c2⟩ := ht4.ld hA0
  rw [h00 hA0] at c2
  have i0 : ia 1 t4 (.int .i64 0) = some (ep 1 t4 0) := ht4.li.ia hA0
  rw [i0, oOpt_e, c1, oOpt_e]
  have hperm : ∀ {p : List Int}, p.Perm l → 1 ≤ p.length ∧ p.length ≤ 7 ∧ ∀ x ∈ p, 0 ≤ x ∧ x ≤ 60 := fun hp => by
    have := hp.length_eq
    exact ⟨by omega, by omega, fun x hx => hle x (hp.mem_iff.1 hx)⟩
  refine loop_up q.length (fun i vs m' => ∃ cur R, vs = [cur, .int .i64 ((i + 1 : Nat) : Int)] ∧ Gt m5 m' ∧ IL m' cur R ∧ R.Perm l ∧ refL (cS r) R (q.drop i) = refL (cS r) b q) (by omega) ⟨v0, b, rfl, Gt.refl _, c2, hb0, rfl⟩ ?_
  rintro i vs m9 hi ⟨cur, R, rfl, e9, hcur, hRp, hR⟩ self hself
  have n5 := e5.next
  have n9 := e9.next
  have ht9 := ht4.mono e9
  rw [uc_e, uc_e, ht9.ln, oOpt_e, oInt_lss]
  refine oIf_dec (fun h => ?_) (fun h => ?_)
  · have hiA : i + 1 < A.length := by omega
    have hiq : i < q.length := by omega
    obtain ⟨x, x1, x2⟩ := ht9.ld hiA
    have hxp := hmem _ hiA
    rw [ht9.li.ia hiA, oOpt_e, x1, oOpt_e]
    have hAq : q[i] = A[i + 1] := by
      have h2 := hqd i
      rw [List.drop_eq_getElem_cons hiA, List.drop_eq_getElem_cons hiq] at h2
      exact (List.cons.inj h2).1.symm
    rw [List.drop_eq_getElem_cons hiq, hAq] at hR
    have hR2 : refL (cS r) (if (decide (cS r A[i + 1] < cS r R) || (decide (cS r A[i + 1] = cS r R) && sm A[i + 1] R)) = true then A[i + 1] else R) (q.drop (i + 1)) = refL (cS r) b q := hR
    obtain ⟨p1, p2, p3⟩ := hperm hxp
    obtain ⟨p4, p5, p6⟩ := hperm hRp
    refine rsum_sp hlf (by omega) x2 p1 p2 p3 fun m10 e10 => ?_
    have n10 := e10.next
    refine rsum_sp hlf (by omega) (hcur.mono e10) p4 p5 p6 fun m11 e11 => ?_
    have e911 := e10.trans e11
    have ht11 := ht9.mono e911
    obtain ⟨x', x1', x2'⟩ := ht11.ld hiA
    have hadd : ∀ K : Value → Option Unit, oInt .add .i64 (.int .i64 ((i + 1 : Nat) : Int)) (.int .i64 1) K = K (.int .i64 ((i + 1 + 1 : Nat) : Int)) := fun K => by rw [oInt_add ⟨by omega, by omega⟩]; rfl
    have hc1 : (stepX A[i + 1] r).foldl fAdd 0 = - cS r A[i + 1] := (Int.neg_neg _).symm
    have hc2 : (stepX R r).foldl fAdd 0 = - cS r R := (Int.neg_neg _).symm
    rw [hc1, hc2]
    generalize cS r A[i + 1] = ca at hR2 ⊢
    generalize cS r R = cr at hR2 ⊢
    by_cases h2 : ca < cr
    · rw [decide_eq_true h2, Bool.true_or, if_pos rfl] at hR2
      try simp (disch := first | omega | with_unfolding_all exact id rfl | with_unfolding_all exact Nat.le_of_ble_eq_true rfl | (simp only [Jd, Je, Jr, Js, Jt, Nat.reduceAdd, allOne, oneCell, Bool.and_self, Jc]; first | done | omega)) only [decide_eq_true (show - cr < - ca by omega), ht11.li.ia hiA, x1', hadd, ↓Qa, ↓Qb, ↓Qc, Qd, Qe, Qf, Qg, Qh, Qi, Qj, Qk, Ql, Qm, Qn, Qo, Qp, Qq, Qr, Qs, Qt, Qu, Qv, Qw, Qx, Qy, ptrTo, Qz, QA, QB, QC, QD, QE, QF, QG, QH, QI, QJ, QK, QL, QM, QN, QO, QP, QQ, QR, QS, QT, QU, QV, QW, QX, QY, QZ, Ja, Jb, Jc, Jd, Je, Jf, Jg, Jh, Ji, Jj, Jk, Jl, Jm, Jn, Jo, Jp, Jq, Jr, Js, Jt, Nat.reduceAdd]
      exact hself hiq _ _ ⟨x', _, rfl, e9.trans e911, x2', hxp, hR2⟩
    · rw [decide_eq_false h2, Bool.false_or] at hR2
      by_cases h3 : ca = cr
      · rw [decide_eq_true h3, Bool.true_and] at hR2
        try simp (disch := first | omega | with_unfolding_all exact id rfl | with_unfolding_all exact Nat.le_of_ble_eq_true rfl | (simp only [Jd, Je, Jr, Js, Jt, Nat.reduceAdd, allOne, oneCell, Bool.and_self, Jc]; first | done | omega)) only [decide_eq_false (show ¬ - cr < - ca by omega), decide_eq_true (show - ca = - cr by omega), ht11.li.ia hiA, x1', ↓Qa, ↓Qb, ↓Qc, Qd, Qe, Qf, Qg, Qh, Qi, Qj, Qk, Ql, Qm, Qn, Qo, Qp, Qq, Qr, Qs, Qt, Qu, Qv, Qw, Qx, Qy, ptrTo, Qz, QA, QB, QC, QD, QE, QF, QG, QH, QI, QJ, QK, QL, QM, QN, QO, QP, QQ, QR, QS, QT, QU, QV, QW, QX, QY, QZ, Ja, Jb, Jc, Jd, Je, Jf, Jg, Jh, Ji, Jj, Jk, Jl, Jm, Jn, Jo, Jp, Jq, Jr, Js, Jt, Nat.reduceAdd]
        refine smaller_sp hlf x2' (hcur.mono e911) (by have := hxp.length_eq; have := hRp.length_eq; omega) (by omega) ?_
        cases hs : sm A[i + 1] R with
        | true =>
          rw [hs, if_pos rfl] at hR2
          try simp (disch := first | omega | with_unfolding_all exact id rfl | with_unfolding_all exact Nat.le_of_ble_eq_true rfl | (simp only [Jd, Je, Jr, Js, Jt, Nat.reduceAdd, allOne, oneCell, Bool.and_self, Jc]; first | done | omega)) only [decide_eq_false (show ¬ - cr < - ca by omega), ht11.li.ia hiA, x1', hadd, ↓Qa, ↓Qb, ↓Qc, Qd, Qe, Qf, Qg, Qh, Qi, Qj, Qk, Ql, Qm, Qn, Qo, Qp, Qq, Qr, Qs, Qt, Qu, Qv, Qw, Qx, Qy, ptrTo, Qz, QA, QB, QC, QD, QE, QF, QG, QH, QI, QJ, QK, QL, QM, QN, QO, QP, QQ, QR, QS, QT, QU, QV, QW, QX, QY, QZ, Ja, Jb, Jc, Jd, Je, Jf, Jg, Jh, Ji, Jj, Jk, Jl, Jm, Jn, Jo, Jp, Jq, Jr, Js, Jt, Nat.reduceAdd]
          exact hself hiq _ _ ⟨x', _, rfl, e9.trans e911, x2', hxp, hR2⟩
        | false =>
          rw [hs, if_neg (by simp)] at hR2
          try simp (disch := first | omega | with_unfolding_all exact id rfl | with_unfolding_all exact Nat.le_of_ble_eq_true rfl | (simp only [Jd, Je, Jr, Js, Jt, Nat.reduceAdd, allOne, oneCell, Bool.and_self, Jc]; first | done | omega)) only [decide_eq_false (show ¬ - cr < - ca by omega), hadd, ↓Qa, ↓Qb, ↓Qc, Qd, Qe, Qf, Qg, Qh, Qi, Qj, Qk, Ql, Qm, Qn, Qo, Qp, Qq, Qr, Qs, Qt, Qu, Qv, Qw, Qx, Qy, ptrTo, Qz, QA, QB, QC, QD, QE, QF, QG, QH, QI, QJ, QK, QL, QM, QN, QO, QP, QQ, QR, QS, QT, QU, QV, QW, QX, QY, QZ, Ja, Jb, Jc, Jd, Je, Jf, Jg, Jh, Ji, Jj, Jk, Jl, Jm, Jn, Jo, Jp, Jq, Jr, Js, Jt, Nat.reduceAdd]
          exact hself hiq _ _ ⟨cur, R, rfl, e9.trans e911, hcur.mono e911, hRp, hR2⟩
      · rw [decide_eq_false h3, Bool.false_and, if_neg (by simp)] at hR2
        try simp (disch := first | omega | with_unfolding_all exact id rfl | with_unfolding_all exact Nat.le_of_ble_eq_true rfl | (simp only [Jd, Je, Jr, Js, Jt, Nat.reduceAdd, allOne, oneCell, Bool.and_self, Jc]; first | done | omega)) only [decide_eq_false (show ¬ - cr < - ca by omega), decide_eq_false (show ¬ - ca = - cr by omega), hadd, ↓Qa, ↓Qb, ↓Qc, Qd, Qe, Qf, Qg, Qh, Qi, Qj, Qk, Ql, Qm, Qn, Qo, Qp, Qq, Qr, Qs, Qt, Qu, Qv, Qw, Qx, Qy, ptrTo, Qz, QA, QB, QC, QD, QE, QF, QG, QH, QI, QJ, QK, QL, QM, QN, QO, QP, QQ, QR, QS, QT, QU, QV, QW, QX, QY, QZ, Ja, Jb, Jc, Jd, Je, Jf, Jg, Jh, Ji, Jj, Jk, Jl, Jm, Jn, Jo, Jp, Jq, Jr, Js, Jt, Nat.reduceAdd]
        exact hself hiq _ _ ⟨cur, R, rfl, e9.trans e911, hcur.mono e911, hRp, hR2⟩
  · have hin : i = q.length := by omega
    subst hin
    rw [List.drop_length] at hR
    have hR2 : R = refL (cS r) b q := hR
    rw [← hR2] at hB
    exact hk _ _ R (e5.trans e9) hcur hB
end
end Go.Vit
