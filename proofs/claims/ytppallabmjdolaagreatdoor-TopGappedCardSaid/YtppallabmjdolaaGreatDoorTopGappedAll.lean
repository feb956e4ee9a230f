/- The law TopGapped: its walk. -/
import Derived.Test.YtppallabmjdolaaGreatDoorG6
import Derived.Test.YtppallabmjdolaaGreatDoorG5
set_option linter.unusedSimpArgs false
set_option linter.unusedVariables false
set_option maxRecDepth 20000
namespace Go.Vit
open Go Go.Proofs
attribute [local irreducible] runT loopS
theorem neqb (x : Int) : decide (x = x) = true := decide_eq_true rfl
theorem u22 : Tryz.prog.underlying 22 = some (.slice 3) := by kernel_rfl
theorem ts3 : tsize Tryz.prog 3 = some 1 := by kernel_rfl
theorem GL.opn {L : Nat} {m : Mem} {v : Value} {l : List Int} (h : GL L m v l) : Opn v := by
  rcases h with ⟨h, _, _⟩ | ⟨b, _, h, _⟩
  · exact .inl h
  · exact .inr ⟨b, 0, none, _, _, h, Nat.le_refl _, .inl rfl⟩
theorem sl22_pre {v : Value} {x l : Nat} {m : Mem} {c : List Int} (h : GL l m v c) (h0 : 0 < c.length) (hx : x ≤ c.length) : ∃ u, sl Tryz.prog 22 v none (some (.int .i64 (x : Int))) none = some u ∧ IL m u (c.take x) := by
  obtain ⟨u, h1, _, h2⟩ := Opn.preI (P := Tryz.prog) u22 ts3 h.opn h.il hx h0
  exact ⟨u, h1, h2⟩
theorem gapN_le {M S T a b q : Nat} (hM : 0 < M) : gapN M S T a b q ≤ M := by
  unfold gapN
  have := Nat.mod_lt (nextN T a b q * S % M + M - q * S % M) hM
  show (if _ = 0 then M else _) ≤ M
  split <;> omega
theorem gaps_le {M S T i : Nat} (hM : 0 < M) : (gapsN M S T).getD i 0 ≤ M := by
  have hall : ∀ x ∈ gapsN M S T, x ≤ M := fun x hx => by
    obtain ⟨j, _, rfl⟩ := List.mem_map.1 hx
    exact gapN_le hM
  rw [List.getD_eq_getElem?_getD]
  by_cases h : i < (gapsN M S T).length
  · rw [List.getElem?_eq_getElem h]
    exact hall _ (List.getElem_mem h)
  · rw [List.getElem?_eq_none (by omega)]; exact Nat.zero_le _
theorem oneS_le {g : List Nat} {B : Nat} (h : ∀ i, g.getD i 0 ≤ B) : ∀ i, oneS g i ≤ B
  | 0 => Nat.zero_le _
  | i + 1 => by
    have h1 := oneS_le h i
    have h2 := h i
    show max (oneS g i) (g.getD i 0) ≤ B
    omega
theorem twoS_le {g : List Nat} {B : Nat} (h : ∀ i, g.getD i 0 ≤ B) : ∀ i, twoS g i ≤ B + B
  | 0 => Nat.zero_le _
  | i + 1 => by
    have h1 := twoS_le h i
    have h2 := h i
    have h3 := h (i - 1)
    show (if 0 < i then max (twoS g i) (g.getD i 0 + g.getD (i - 1) 0) else twoS g i) ≤ B + B
    split <;> omega
section
variable {lf n L : Nat} {m : Mem} {k : Value → Mem → Option Unit}
set_option maxHeartbeats 4000000 in
theorem gappedL_sp {a s t : Nat} (hlf : 1000000 ≤ lf) (hL : L ≤ m.next) (hTab : TabOk mTab m) (ha : a < 256) (hs : s < 256) (ht : t < 256)
    (hk : ∀ m', Gt m m' → k (.bool true) m' = some ()) : runT (tab lf) (n + 40) 5 [.int .u8 (a : Int), .int .u8 (s : Int), .int .u8 (t : Int)] L m k = some () := by
  rw [r5]; dsimp only [S5, iofNat, inegSucc]
  rw [uc_e, uc_e, uc_e, un0_e]
  refine wound_sp hlf hL ha hs ht fun M S T m1 e1 hM hM6 hS h1 hno => ?_
  have n1 := e1.next
  rw [anew_eq, oRes_e]
  have hL1 : L ≤ m1.next := by omega
  have hst : st1 3 L (m1.push ⟨1, [.int .i64 0, .int .i64 0, .int .i64 0], none⟩) (ptrTo m1.next) (wrV M S T) = some (Go.undef, (m1.push ⟨1, [.int .i64 0, .int .i64 0, .int .i64 0], none⟩).put m1.next (some ⟨1, wrC M S T, none⟩)) := by
    show st1 3 L _ (.pointer (some ⟨m1.next, 0, none⟩)) _ = _
    rw [st1_u, Mem.rd_push]
    exact stw_e hL1 rfl (Nat.le_refl _) rfl
  rw [hst, oRes_e]
  have e2 : Gt m1 ((m1.push ⟨1, [.int .i64 0, .int .i64 0, .int .i64 0], none⟩).put m1.next (some ⟨1, wrC M S T, none⟩)) := Mem.put_gt (Mem.gt_push _ _) _ (Nat.le_refl _)
  have q2 : ((m1.push ⟨1, [.int .i64 0, .int .i64 0, .int .i64 0], none⟩).put m1.next (some ⟨1, wrC M S T, none⟩)).rd m1.next = some ⟨1, wrC M S T, none⟩ := Mem.rd_put_eq _ _ (by rw [Mem.push_next]; omega)
  have n2 : ((m1.push ⟨1, [.int .i64 0, .int .i64 0, .int .i64 0], none⟩).put m1.next (some ⟨1, wrC M S T, none⟩)).next = m1.next + 1 := rfl
  generalize (m1.push ⟨1, [.int .i64 0, .int .i64 0, .int .i64 0], none⟩).put m1.next (some ⟨1, wrC M S T, none⟩) = m2 at e2 q2 n2 ⊢
  have f2 : fa 2 (ptrTo m1.next) = some (.pointer (some ⟨m1.next, 2, none⟩)) := rfl
  have l2 : ∀ (M' : Mem) (T : Nat), M'.rd m1.next = some ⟨1, wrC M S T, none⟩ → ld1 M' (.pointer (some ⟨m1.next, 2, none⟩)) = some (.int .i64 (T : Int)) := fun M' T h => by rw [ld1_u, h]; rfl
  obtain ⟨U, hU⟩ : ∃ U, U = min T 7 := ⟨_, rfl⟩
  have hmin : min (T : Int) 7 = (U : Int) := by omega
  rw [f2, oOpt_e, l2 m2 T q2, oOpt_e, minI_e, oOpt_e, hmin, oOpt_e, st_int q2 (by show 2 < 3; omega) hL1, oRes_e, show (wrC M S T).set 2 (Value.int .i64 (U : Int)) = wrC M S U from rfl]
  have e3 : Gt m1 (m2.put m1.next (some ⟨1, wrC M S U, none⟩)) := Mem.put_gt e2 _ (Nat.le_refl _)
  have q3 : (m2.put m1.next (some ⟨1, wrC M S U, none⟩)).rd m1.next = some ⟨1, wrC M S U, none⟩ := Mem.rd_put_eq _ _ (by omega)
  have n3 : (m2.put m1.next (some ⟨1, wrC M S U, none⟩)).next = m2.next := rfl
  generalize m2.put m1.next (some ⟨1, wrC M S U, none⟩) = m3 at e3 q3 n3 ⊢
  have hfree : free M S U = true := List.all_eq_true.2 fun j hj => by
    have hjU := List.mem_range.1 hj
    by_cases hj0 : j = 0
    · subst hj0; rfl
    · have := hno j (by omega) (by omega)
      show (Nat.beq j 0 || !(Nat.beq (j * S % M) 0)) = true
      cases hb : Nat.beq (j * S % M) 0 with
      | false => simp
      | true => exact absurd (Nat.eq_of_beq_eq_true hb) this
  have hU1 : 1 ≤ U := by omega
  have hU7 : U ≤ 7 := by omega
  obtain ⟨g1, g2, g3, g4⟩ := law_at (by omega) hS hU1 hU7 hfree
  have hgl : (gapsN M S U).length = U := by unfold gapsN; rw [List.length_map, List.length_range]
  have hr : ∀ (M' : Mem), M'.rd m1.next = some ⟨1, wrC M S U, none⟩ → ldN M' 3 (ptrTo m1.next) = some (wrV M S U) := fun M' h => by
    show ldN M' 3 (.pointer (some ⟨m1.next, 0, none⟩)) = _
    rw [ldN_u, h]; kernel_rfl
  rw [hr m3 q3, oOpt_e]
  refine gaps_sp hlf (by omega) hM hM6 hS hU1 hU7 g1 g2 fun u m4 e4 hu => ?_
  have n4 := e4.next
  have q4 := (e4.kept _ (by omega)).trans q3
  have hln := hu.ln
  rw [ci_length, hgl] at hln
  have l4 := l2 m4 U q4
  try simp (disch := first | omega | with_unfolding_all exact id rfl | with_unfolding_all exact Nat.le_of_ble_eq_true rfl | (simp only [Jd, Je, Jr, Js, Jt, Nat.reduceAdd, allOne, oneCell, Bool.and_self, Jc]; first | done | omega)) only [hln, l4, neqb, ↓Qa, ↓Qb, Qd, Qe, Qf, Qg, Qh, Qi, Qj, Qk, Ql, Qm, Qn, Qo, Qp, Qq, Qr, Qs, Qt, Qu, Qv, Qw, Qx, Qy, ptrTo, Qz, QA, QB, QC, QD, QE, QF, QG, QH, QI, QJ, QK, QL, QM, QN, QO, QP, QQ, QR, QS, QT, QU, QV, QW, QX, QY, QZ, Ja, Jb, Jc, Jd, Je, Jf, Jg, Jh, Ji, Jj, Jk, Jl, Jm, Jn, Jo, Jp, Jq, Jr, Js, Jt, Nat.reduceAdd]
  repeat (rw [join_e]; try simp (disch := first | omega | with_unfolding_all exact id rfl | with_unfolding_all exact Nat.le_of_ble_eq_true rfl | (simp only [Jd, Je, Jr, Js, Jt, Nat.reduceAdd, allOne, oneCell, Bool.and_self, Jc]; first | done | omega)) only [hln, l4, neqb, ↓Qa, ↓Qb, Qd, Qe, Qf, Qg, Qh, Qi, Qj, Qk, Ql, Qm, Qn, Qo, Qp, Qq, Qr, Qs, Qt, Qu, Qv, Qw, Qx, Qy, ptrTo, Qz, QA, QB, QC, QD, QE, QF, QG, QH, QI, QJ, QK, QL, QM, QN, QO, QP, QQ, QR, QS, QT, QU, QV, QW, QX, QY, QZ, Ja, Jb, Jc, Jd, Je, Jf, Jg, Jh, Ji, Jj, Jk, Jl, Jm, Jn, Jo, Jp, Jq, Jr, Js, Jt, Nat.reduceAdd])
  have hr4 : rdn (m4.rd m1.next) 0 3 = some (wrV M S U) := by rw [q4]; kernel_rfl
  rw [hr4, oOpt_e]
  refine places_sp hlf (by omega) hM hM6 hS hU7 fun p m5 e5 hp => ?_
  have n5 := e5.next
  have hp : GL m4.next m5 p (ci (plc M S U)) := hp
  have hpl : (ci (plc M S U)).length = U := by unfold plc; rw [ci_length, List.length_map, List.length_range]
  rw [oInt_sub ⟨by omega, by omega⟩, show (U : Int) - 1 = ((U - 1 : Nat) : Int) by omega]
  have hcl : (ci (gapsN M S U)).length = U := by rw [ci_length, hgl]
  have hu5 := hu.mono e5
  obtain ⟨u', hsl, hu'⟩ := sl22_pre (x := U - 1) hu5 (by omega) (by omega)
  have hln' := hu'.ln
  rw [List.length_take, hcl, show min (U - 1) U = U - 1 by omega] at hln'
  rw [hsl, oOpt_e, hln', oOpt_e]
  have hgM : ∀ i, (gapsN M S U).getD i 0 ≤ 60 := fun i => Nat.le_trans (gaps_le hM) hM6
  have hge : ∀ i (h : i < (ci (gapsN M S U)).length), (ci (gapsN M S U))[i] = (((gapsN M S U).getD i 0 : Nat) : Int) := fun i h => by
    have h' : i < (gapsN M S U).length := by rw [ci_length] at h; exact h
    rw [List.getD_eq_getElem?_getD, List.getElem?_eq_getElem h']
    exact List.getElem_map _
  generalize gapsN M S U = g at hu hu5 hu' g3 g4 hgl hcl hgM hge
  refine loop_up (U - 1) (fun i vs m' => vs = [.int .i64 (oneS g i : Int), .int .i64 (twoS g i : Int), .int .i64 (i : Int)] ∧ m' = m5) (by omega) ⟨rfl, rfl⟩ ?_
  rintro i vs m6 hi ⟨rfl, rfl⟩ self hself
  have b1 := oneS_le hgM i
  have b2 := twoS_le hgM i
  rw [uc_e, uc_e, uc_e, oInt_lss]
  refine oIf_dec (fun h => ?_) (fun h => ?_)
  · have hiU : i < U - 1 := by omega
    have hil : i < ((ci g).take (U - 1)).length := by rw [List.length_take]; omega
    have hgi := hgM i
    have hgi1 := hgM (i - 1)
    have hel : ((ci g).take (U - 1))[i] = ((g.getD i 0 : Nat) : Int) := by rw [List.getElem_take]; exact hge i (by omega)
    rw [hu'.ia hil, oOpt_e, hu'.ld hil, hel, oOpt_e, maxI_e, oOpt_e, oInt_gtr, join_e]
    have hone : max (oneS g i : Int) ((g.getD i 0 : Nat) : Int) = (oneS g (i + 1) : Int) := by
      show _ = ((max (oneS g i) (g.getD i 0) : Nat) : Int)
      omega
    rw [hone]
    refine oIf_dec (fun h2 => ?_) (fun h2 => ?_)
    · have hi0 : 0 < i := by omega
      have hi1 : i - 1 < (ci g).length := by omega
      rw [oInt_sub ⟨by omega, by omega⟩, show (i : Int) - 1 = ((i - 1 : Nat) : Int) by omega, hu5.il.ia hi1, oOpt_e, hu5.il.ld hi1, oOpt_e, hge (i - 1) (by omega), oInt_addN (by omega), maxI_e, oOpt_e]
      have htwo : max (twoS g i : Int) ((g.getD i 0 + g.getD (i - 1) 0 : Nat) : Int) = (twoS g (i + 1) : Int) := by
        show _ = ((if 0 < i then max (twoS g i) (g.getD i 0 + g.getD (i - 1) 0) else twoS g i : Nat) : Int)
        rw [if_pos hi0]; omega
      rw [htwo]
      dsimp only
      rw [uc_e, oInt_add ⟨by omega, by omega⟩]
      exact hself hiU _ _ ⟨rfl, rfl⟩
    · have htwo : twoS g (i + 1) = twoS g i := by
        show (if 0 < i then _ else twoS g i) = _
        rw [if_neg (by omega)]
      dsimp only
      rw [uc_e, oInt_add ⟨by omega, by omega⟩]
      refine hself hiU _ _ ⟨?_, rfl⟩
      rw [htwo]; rfl
  · have hiU : i = U - 1 := by omega
    subst hiU
    clear hself
    have q6 := (e5.kept _ (by omega)).trans q4
    have hrd : rdo (m6.rd m1.next) 2 = some (.int .i64 (U : Int)) := by rw [q6]; rfl
    have hchk : chkS (ci (plc M S U)) = 0 := chkS_of (by omega) (by omega) fun x hx => by
      unfold ci plc at hx
      obtain ⟨y, hy, rfl⟩ := List.mem_map.1 hx
      obtain ⟨j, hj, rfl⟩ := List.mem_map.1 hy
      have := Nat.mod_lt (j * S) hM
      omega
    have E6 : Gt m m6 := ((e1.trans e3).trans e4).trans e5
    have E6 : Gt m m6 := ((e1.trans e3).trans e4).trans e5
    rw [hrd, oOpt_e, oInt_eql, join_e]
    refine oIf_dec (fun h2 => ?_) (fun h2 => ?_)
    · have h2' : U = 2 := by omega
      rw [if_pos h2'] at g4
      dsimp only
      rw [uc_e]
      refine least_sp (n := n + 32) hlf (by omega) hp.il (by omega) fun m7 e7 => ?_
      have n7 := e7.next
      rw [g3, hchk]
      try simp (disch := first | omega | with_unfolding_all exact id rfl | with_unfolding_all exact Nat.le_of_ble_eq_true rfl | (simp only [Jd, Je, Jr, Js, Jt, Nat.reduceAdd, allOne, oneCell, Bool.and_self, Jc]; first | done | omega)) only [↓Qa, ↓Qb, Qd, Qe, Qf, Qg, Qh, Qi, Qj, Qk, Ql, Qm, Qn, Qo, Qp, Qq, Qr, Qs, Qt, Qu, Qv, Qw, Qx, Qy, ptrTo, Qz, QA, QB, QC, QD, QE, QF, QG, QH, QI, QJ, QK, QL, QM, QN, QO, QP, QQ, QR, QS, QT, QU, QV, QW, QX, QY, QZ, Ja, Jb, Jc, Jd, Je, Jf, Jg, Jh, Ji, Jj, Jk, Jl, Jm, Jn, Jo, Jp, Jq, Jr, Js, Jt, Nat.reduceAdd]
      refine least_sp (n := n + 32) hlf (by omega) (hp.mono e7).il (by omega) fun m8 e8 => ?_
      rw [g4, hchk]
      try simp (disch := first | omega | with_unfolding_all exact id rfl | with_unfolding_all exact Nat.le_of_ble_eq_true rfl | (simp only [Jd, Je, Jr, Js, Jt, Nat.reduceAdd, allOne, oneCell, Bool.and_self, Jc]; first | done | omega)) only [neqb, ↓Qa, ↓Qb, Qd, Qe, Qf, Qg, Qh, Qi, Qj, Qk, Ql, Qm, Qn, Qo, Qp, Qq, Qr, Qs, Qt, Qu, Qv, Qw, Qx, Qy, ptrTo, Qz, QA, QB, QC, QD, QE, QF, QG, QH, QI, QJ, QK, QL, QM, QN, QO, QP, QQ, QR, QS, QT, QU, QV, QW, QX, QY, QZ, Ja, Jb, Jc, Jd, Je, Jf, Jg, Jh, Ji, Jj, Jk, Jl, Jm, Jn, Jo, Jp, Jq, Jr, Js, Jt, Nat.reduceAdd]
      repeat (rw [join_e]; try simp (disch := first | omega | with_unfolding_all exact id rfl | with_unfolding_all exact Nat.le_of_ble_eq_true rfl | (simp only [Jd, Je, Jr, Js, Jt, Nat.reduceAdd, allOne, oneCell, Bool.and_self, Jc]; first | done | omega)) only [neqb, ↓Qa, ↓Qb, Qd, Qe, Qf, Qg, Qh, Qi, Qj, Qk, Ql, Qm, Qn, Qo, Qp, Qq, Qr, Qs, Qt, Qu, Qv, Qw, Qx, Qy, ptrTo, Qz, QA, QB, QC, QD, QE, QF, QG, QH, QI, QJ, QK, QL, QM, QN, QO, QP, QQ, QR, QS, QT, QU, QV, QW, QX, QY, QZ, Ja, Jb, Jc, Jd, Je, Jf, Jg, Jh, Ji, Jj, Jk, Jl, Jm, Jn, Jo, Jp, Jq, Jr, Js, Jt, Nat.reduceAdd])
      rw [r30]
      exact SClosed_sp (cK := runT (tab lf) (n + 39)) (L := L) (hTab.mono ((E6.trans e7).trans e8)) (hk _ ((E6.trans e7).trans e8))
    · have h2' : ¬ U = 2 := by omega
      rw [if_neg h2'] at g4
      dsimp only
      rw [uc_e]
      refine least_sp (n := n + 32) hlf (by omega) hp.il (by omega) fun m7 e7 => ?_
      have n7 := e7.next
      rw [g3, hchk]
      try simp (disch := first | omega | with_unfolding_all exact id rfl | with_unfolding_all exact Nat.le_of_ble_eq_true rfl | (simp only [Jd, Je, Jr, Js, Jt, Nat.reduceAdd, allOne, oneCell, Bool.and_self, Jc]; first | done | omega)) only [↓Qa, ↓Qb, Qd, Qe, Qf, Qg, Qh, Qi, Qj, Qk, Ql, Qm, Qn, Qo, Qp, Qq, Qr, Qs, Qt, Qu, Qv, Qw, Qx, Qy, ptrTo, Qz, QA, QB, QC, QD, QE, QF, QG, QH, QI, QJ, QK, QL, QM, QN, QO, QP, QQ, QR, QS, QT, QU, QV, QW, QX, QY, QZ, Ja, Jb, Jc, Jd, Je, Jf, Jg, Jh, Ji, Jj, Jk, Jl, Jm, Jn, Jo, Jp, Jq, Jr, Js, Jt, Nat.reduceAdd]
      refine least_sp (n := n + 32) hlf (by omega) (hp.mono e7).il (by omega) fun m8 e8 => ?_
      rw [g4, hchk]
      try simp (disch := first | omega | with_unfolding_all exact id rfl | with_unfolding_all exact Nat.le_of_ble_eq_true rfl | (simp only [Jd, Je, Jr, Js, Jt, Nat.reduceAdd, allOne, oneCell, Bool.and_self, Jc]; first | done | omega)) only [neqb, ↓Qa, ↓Qb, Qd, Qe, Qf, Qg, Qh, Qi, Qj, Qk, Ql, Qm, Qn, Qo, Qp, Qq, Qr, Qs, Qt, Qu, Qv, Qw, Qx, Qy, ptrTo, Qz, QA, QB, QC, QD, QE, QF, QG, QH, QI, QJ, QK, QL, QM, QN, QO, QP, QQ, QR, QS, QT, QU, QV, QW, QX, QY, QZ, Ja, Jb, Jc, Jd, Je, Jf, Jg, Jh, Ji, Jj, Jk, Jl, Jm, Jn, Jo, Jp, Jq, Jr, Js, Jt, Nat.reduceAdd]
      repeat (rw [join_e]; try simp (disch := first | omega | with_unfolding_all exact id rfl | with_unfolding_all exact Nat.le_of_ble_eq_true rfl | (simp only [Jd, Je, Jr, Js, Jt, Nat.reduceAdd, allOne, oneCell, Bool.and_self, Jc]; first | done | omega)) only [neqb, ↓Qa, ↓Qb, Qd, Qe, Qf, Qg, Qh, Qi, Qj, Qk, Ql, Qm, Qn, Qo, Qp, Qq, Qr, Qs, Qt, Qu, Qv, Qw, Qx, Qy, ptrTo, Qz, QA, QB, QC, QD, QE, QF, QG, QH, QI, QJ, QK, QL, QM, QN, QO, QP, QQ, QR, QS, QT, QU, QV, QW, QX, QY, QZ, Ja, Jb, Jc, Jd, Je, Jf, Jg, Jh, Ji, Jj, Jk, Jl, Jm, Jn, Jo, Jp, Jq, Jr, Js, Jt, Nat.reduceAdd])
      rw [r30]
      exact SClosed_sp (cK := runT (tab lf) (n + 39)) (L := L) (hTab.mono ((E6.trans e7).trans e8)) (hk _ ((E6.trans e7).trans e8))
end
end Go.Vit
