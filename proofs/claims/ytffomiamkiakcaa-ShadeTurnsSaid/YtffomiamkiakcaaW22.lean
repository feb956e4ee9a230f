/- Walks: every arrangement is looked at for turning. -/
import Derived.Test.YtffomiamkiakcaaW21
import Derived.Test.YtffomiamkiakcaaW13
import Derived.Test.YtffomiamkiakcaaP11
set_option linter.unusedSimpArgs false
set_option linter.unusedVariables false
set_option maxRecDepth 20000
namespace Go.Vit
open Go Go.Proofs
attribute [local irreducible] runT loopS
theorem neqb (x : Int) : decide (x = x) = true := decide_eq_true rfl
theorem beqb (x : Bool) : (x == x) = true := by cases x <;> rfl
theorem eqB (x y : Bool) : abin Try.prog .eql 4 (.bool x) (.bool y) = some (.bool (x == y)) := by cases x <;> cases y <;> kernel_rfl
theorem ord_rev {n : Int} : ∀ (rest pre : List Int), (∀ x ∈ rest, inI x 0 (n - 1)) → (pre ++ rest).Nodup → ordE n pre rest = 0
  | [], pre, _, _ => rfl
  | x :: rest, pre, h, hn => by
    show (if inI x 0 (n - 1) then (if x ∈ pre then 6 else ordE n (pre ++ [x]) rest) else 2) = 0
    have hx : x ∉ pre := fun hm => by
      have := List.nodup_append.1 hn
      exact this.2.2 x hm x (by simp) rfl
    rw [if_pos (h x (by simp)), if_neg hx]
    exact ord_rev rest (pre ++ [x]) (fun y hy => h y (List.mem_cons_of_mem _ hy)) (by simpa using hn)
theorem chk_range {N : Nat} {b : List Nat} (h1 : 1 ≤ N) (h9 : N ≤ 9) (hp : b.Perm (List.range N)) : chkO (ci b) = 0 := by
  have hl : b.length = N := by rw [hp.length_eq, List.length_range]
  unfold chkO
  rw [ci_length, hl, if_neg (by omega), if_neg (by omega)]
  refine ord_rev _ _ (fun x hx => ?_) ?_
  · unfold ci at hx
    obtain ⟨y, hy, rfl⟩ := List.mem_map.1 hx
    have := List.mem_range.1 (hp.mem_iff.1 hy)
    exact ⟨by omega, by omega⟩
  · rw [List.nil_append]
    have hnd : b.Nodup := hp.symm.nodup List.nodup_range
    unfold ci
    refine List.Pairwise.map _ (fun a c (h : a ≠ c) => ?_) hnd
    intro h2; exact h (by omega)
/-- What the law keeps of the arrangements so far. -/
def trJ (pg pc pb : Nat) (done : List (List Int)) (m : Mem) : Prop :=
  m.rd pg = some ⟨1, [.bool true], none⟩ ∧ m.rd pc = some ⟨1, [.int .i64 (cnt done : Int)], none⟩ ∧ m.rd pb = some ⟨1, (List.range 8).map fun k => .int .i64 (cntK k done : Int), none⟩
theorem trJ.mono {pg pc pb : Nat} {d : List (List Int)} {m m' : Mem} (e : Gt m m') (h : trJ pg pc pb d m) : trJ pg pc pb d m' :=
  ⟨(e.kept _ (Mem.rd_lt h.1)).trans h.1, (e.kept _ (Mem.rd_lt h.2.1)).trans h.2.1, (e.kept _ (Mem.rd_lt h.2.2)).trans h.2.2⟩
theorem range8_set (f : Nat → Nat) {i : Nat} (hi : i < 8) (x : Nat) : ((List.range 8).map fun k => Value.int .i64 (f k : Int)).set i (.int .i64 (x : Int)) = (List.range 8).map fun k => .int .i64 ((if k = i then x else f k : Nat) : Int) := by
  refine List.ext_getElem? fun j => ?_
  rw [List.getElem?_set]
  by_cases h : j < 8
  · rw [List.getElem?_map, List.getElem?_map, List.getElem?_range h]
    by_cases e : i = j
    · subst e; simp [hi]
    · rw [if_neg e]
      show some (Value.int .i64 (f j : Int)) = some (Value.int .i64 ((if j = i then x else f j : Nat) : Int))
      rw [if_neg (fun h => e h.symm)]
  · rw [List.getElem?_eq_none (by simp; omega), List.getElem?_eq_none (by simp; omega)]
    split <;> simp <;> omega
section
variable {lf L : Nat}
set_option maxHeartbeats 8000000 in
theorem turnEach {pg pn pc pb N : Nat} {m0 : Mem} (hlf : 1000000 ≤ lf) (hLg : L ≤ pg) (hLc : L ≤ pc) (hLb : L ≤ pb) (hgc : pg ≠ pc) (hgb : pg ≠ pb) (hcb : pc ≠ pb) (hn : m0.rd pn = some ⟨1, [.int .i64 (N : Int)], none⟩) (hng : pn ≠ pg) (hnc : pn ≠ pc) (hnb : pn ≠ pb)
    (h1 : 1 ≤ N) (h7 : N ≤ 7) (hLm : L ≤ m0.next) :
    EachOk lf 8 L (.func (.func 55) #[] ⟨[.pointer (some ⟨pg, 0, none⟩), .pointer (some ⟨pn, 0, none⟩), .pointer (some ⟨pc, 0, none⟩), .pointer (some ⟨pb, 0, none⟩)]⟩) (fun c => c = pg ∨ c = pc ∨ c = pb) m0 (ci (List.range N)) (trJ pg pc pb) := by
  intro n m v l done k e hJ hAll hop hv hp hb hk
  rw [oCallV_e (hf := rfl)]
  show runT (tab lf) (n + 8) 55 [v, .pointer (some ⟨pg, 0, none⟩), .pointer (some ⟨pn, 0, none⟩), .pointer (some ⟨pc, 0, none⟩), .pointer (some ⟨pb, 0, none⟩)] L m k = some ()
  rw [r55]; dsimp only [S55, iofNat, inegSucc]
  obtain ⟨b, rfl, hpb⟩ : ∃ b : List Nat, l = ci b ∧ b.Perm (List.range N) := by
    refine ⟨l.map Int.toNat, ?_, ?_⟩
    · unfold ci
      rw [List.map_map]
      conv => lhs; rw [← List.map_id l]
      refine List.map_congr_left fun x hx => ?_
      have hx := hp.mem_iff.1 hx
      unfold ci at hx
      obtain ⟨y, _, rfl⟩ := List.mem_map.1 hx
      show (y : Int) = ((y : Int).toNat : Int)
      omega
    · have := hp.map Int.toNat
      rwa [toNat_ci] at this
  have hbl : b.length = N := by rw [hpb.length_eq, List.length_range]
  obtain ⟨E, hE⟩ := hAll
  rw [ci_length, List.length_range] at hE
  have hn' := (e.kept pn (Mem.rd_lt hn) (fun h => by rcases h with h | h | h <;> contradiction)).trans hn
  obtain ⟨jg, jc, jb⟩ := hJ
  have hcnt : cnt done ≤ cntR N N [] := by rw [← all_cnt, hE, cnt_app]; omega
  have hcb9 := cnt_bd (n := N) (m := N) (b := []) (by omega) (by omega)
  have nm := e.next
  have hgJ : rdo (m.rd pg) 0 = some (.bool true) := by rw [jg]; rfl
  have hnJ : rdo (m.rd pn) 0 = some (.int .i64 (N : Int)) := by rw [hn']; rfl
  have hcJ : rdo (m.rd pc) 0 = some (.int .i64 (cnt done : Int)) := by rw [jc]; rfl
  rw [uc_e, uc_e, uc_e, uc_e, uc_e, un0_e, ld1_u, hgJ, oOpt_e, show aun .not (.bool true) = some (.bool false) from rfl, oOpt_e, oIf_f]
  refine loop_up N (fun i vs m' => vs = [.bool (trnB true (b.take (i + 1))), .int .i64 ((i + 1 : Nat) : Int)] ∧ m' = m) (by omega) ⟨?_, rfl⟩ ?_
  · cases b with
    | nil => rfl
    | cons x b => rfl
  rintro i vs m' hi ⟨rfl, rfl⟩ self hself
  rw [uc_e, uc_e, ld1_u, hnJ, oOpt_e, oInt_lss]
  refine oIf_dec (fun h => ?_) (fun h => ?_)
  · have hi1 : i + 1 < b.length := by omega
    have hil : i < b.length := by omega
    have hc0 : i < (ci b).length := by rw [ci_length]; exact hil
    have hc1 : i + 1 < (ci b).length := by rw [ci_length]; exact hi1
    have hst := trn_take hi1
    cases ht : trnB true (b.take (i + 1)) with
    | false =>
      rw [ht, Bool.false_and] at hst
      rw [join_e]
      try simp (disch := first | omega | with_unfolding_all exact id rfl | with_unfolding_all exact Nat.le_of_ble_eq_true rfl | (simp only [Jd, Je, Jr, Js, Jt, Nat.reduceAdd, allOne, oneCell, Bool.and_self, Jc]; first | done | omega)) only [↓Qa, ↓Qb, ↓Qc, Qd, Qe, Qf, Qg, Qh, Qi, Qj, Qk, Ql, Qm, Qn, Qo, Qp, Qq, Qr, Qs, Qt, Qu, Qv, Qw, Qx, Qy, ptrTo, Qz, QA, QB, QC, QD, QE, QF, QG, QH, QI, QJ, QK, QL, QM, QN, QO, QP, QQ, QR, QS, QT, QU, QV, QW, QX, QY, QZ, Ja, Jb, Jc, Jd, Je, Jf, Jg, Jh, Ji, Jj, Jk, Jl, Jm, Jn, Jo, Jp, Jq, Jr, Js, Jt, Nat.reduceAdd]
      rw [oInt_add ⟨by omega, by omega⟩, show ((i + 1 : Nat) : Int) + 1 = ((i + 2 : Nat) : Int) by omega]
      exact hself (by omega) _ _ ⟨by rw [hst], rfl⟩
    | true =>
      rw [ht, Bool.true_and] at hst
      rw [join_e, oGT_t]
      rw [hv.ia hc1, oOpt_e, hv.ld hc1, oOpt_e, oInt_sub ⟨by omega, by omega⟩, show ((i + 1 : Nat) : Int) - 1 = ((i : Nat) : Int) by omega, hv.ia hc0, oOpt_e, hv.ld hc0, oOpt_e, oInt_gtr, show (2 : Int) = ((2 : Nat) : Int) from rfl, oInt_remN (by omega), oInt_eql, ci_getE b hil, ci_getE b hi1, eqB, oOpt_e]
      rw [show decide (((b[i + 1] : Nat) : Int) > ((b[i] : Nat) : Int)) = decide (b[i] < b[i + 1]) from decide_eq_decide.2 (by omega), show decide ((((i + 1) % 2 : Nat) : Int) = 1) = decide (i % 2 = 0) from decide_eq_decide.2 (by omega), ← hst]
      try simp (disch := first | omega | with_unfolding_all exact id rfl | with_unfolding_all exact Nat.le_of_ble_eq_true rfl | (simp only [Jd, Je, Jr, Js, Jt, Nat.reduceAdd, allOne, oneCell, Bool.and_self, Jc]; first | done | omega)) only [↓Qa, ↓Qb, ↓Qc, Qd, Qe, Qf, Qg, Qh, Qi, Qj, Qk, Ql, Qm, Qn, Qo, Qp, Qq, Qr, Qs, Qt, Qu, Qv, Qw, Qx, Qy, ptrTo, Qz, QA, QB, QC, QD, QE, QF, QG, QH, QI, QJ, QK, QL, QM, QN, QO, QP, QQ, QR, QS, QT, QU, QV, QW, QX, QY, QZ, Ja, Jb, Jc, Jd, Je, Jf, Jg, Jh, Ji, Jj, Jk, Jl, Jm, Jn, Jo, Jp, Jq, Jr, Js, Jt, Nat.reduceAdd]
      rw [oInt_add ⟨by omega, by omega⟩, show ((i + 1 : Nat) : Int) + 1 = ((i + 2 : Nat) : Int) by omega]
      exact hself (by omega) _ _ ⟨rfl, rfl⟩
  · clear hself
    rw [List.take_of_length_le (by omega)]
    have hk0 : trnB true b = false → ∀ m'', GtX (fun c => c = pg ∨ c = pc ∨ c = pb) m' m'' → trJ pg pc pb done m'' → k (.tuple ⟨[]⟩) m'' = some () := fun ht m'' e' hJ' => by
      refine hk m'' e' ?_
      have c1 : cnt (done ++ [ci b]) = cnt done := by rw [cnt_app, cnt_cons, trI_ci, ht]; rfl
      have c2 : ∀ q, cntK q (done ++ [ci b]) = cntK q done := fun q => by
        rw [cntK_app, cntK_cons]; unfold hdI
        rw [trI_ci, ht]; rfl
      unfold trJ
      rw [c1]
      simp only [c2]
      exact hJ'
    have hchk := chk_range h1 (by omega) hpb
    have htx : trnX (ci b) = trnB true b := by unfold trnX; rw [if_pos hchk, toNat_ci]
    have hbl9 : (ci b).length < 1000 := by rw [ci_length]; omega
    have r5 : ∀ K : Value → Option Unit, oInt .rem .i64 (.int .i64 (cnt done : Int)) (.int .i64 5) K = K (.int .i64 ((cnt done % 5 : Nat) : Int)) := fun K => oInt_remN (b := 5) (by omega) K
    have r3 : ∀ K : Value → Option Unit, oInt .rem .i64 (.int .i64 (cnt done : Int)) (.int .i64 3) K = K (.int .i64 ((cnt done % 3 : Nat) : Int)) := fun K => oInt_remN (b := 3) (by omega) K
    have jall : trJ pg pc pb done m' := ⟨jg, jc, jb⟩
    have hsg : ∀ (M : Mem) (K : Value → Mem → Option Unit), trJ pg pc pb done M → oRes (stw 1 L M pg 0 [Value.bool true] (M.rd pg)) K = K Go.undef (M.put pg (some ⟨1, [.bool true], none⟩)) := fun M K hM => by
      rw [hM.1]
      rw [show stw 1 L M pg 0 [Value.bool true] (some ⟨1, [.bool true], none⟩) = some (Go.undef, M.put pg (some ⟨1, [.bool true], none⟩)) from stw_e hLg rfl (Nat.le_refl _) rfl]
      exact oRes_e _ _ _
    have hput : ∀ (M : Mem), trJ pg pc pb done M → trJ pg pc pb done (M.put pg (some ⟨1, [.bool true], none⟩)) := fun M hM =>
      ⟨Mem.rd_put_eq _ _ (Mem.rd_lt hM.1), (Mem.rd_put _ _ _ _ hgc).trans hM.2.1, (Mem.rd_put _ _ _ _ hgb).trans hM.2.2⟩
    have hld : ∀ (M : Mem) (K : Value → Option Unit), trJ pg pc pb done M → oOpt (rdo (M.rd pg) 0) K = K (.bool true) := fun M K hM => by rw [hM.1]; exact oOpt_e _ _
    have hldc : ∀ (M : Mem) (K : Value → Option Unit), trJ pg pc pb done M → oOpt (rdo (M.rd pc) 0) K = K (.int .i64 (cnt done : Int)) := fun M K hM => by rw [hM.2.1]; exact oOpt_e _ _
    cases ht : trnB true b with
    | false =>
      have nx : numX (ci b) = 0 := by unfold numX; rw [if_pos hchk, htx, ht]; rfl
      have ne : numE (ci b) = 12 := by unfold numE; rw [if_pos hchk, htx, ht]; rfl
      by_cases h5 : cnt done % 5 = 0
      · try simp (disch := first | omega | with_unfolding_all exact id rfl | with_unfolding_all exact Nat.le_of_ble_eq_true rfl | (simp only [Jd, Je, Jr, Js, Jt, Nat.reduceAdd, allOne, oneCell, Bool.and_self, Jc]; first | done | omega)) only [hcJ, r5, h5, ↓Qa, ↓Qb, Qd, Qe, Qf, Qg, Qh, Qi, Qj, Qk, Ql, Qm, Qn, Qo, Qp, Qq, Qr, Qs, Qt, Qu, Qv, Qw, Qx, Qy, ptrTo, Qz, QA, QB, QC, QD, QE, QF, QG, QH, QI, QJ, QK, QL, QM, QN, QO, QP, QQ, QR, QS, QT, QU, QV, QW, QX, QY, QZ, Ja, Jb, Jc, Jd, Je, Jf, Jg, Jh, Ji, Jj, Jk, Jl, Jm, Jn, Jo, Jp, Jq, Jr, Js, Jt, Nat.reduceAdd]
        repeat (rw [join_e]; try simp (disch := first | omega | with_unfolding_all exact id rfl | with_unfolding_all exact Nat.le_of_ble_eq_true rfl | (simp only [Jd, Je, Jr, Js, Jt, Nat.reduceAdd, allOne, oneCell, Bool.and_self, Jc]; first | done | omega)) only [hcJ, r5, h5, ↓Qa, ↓Qb, Qd, Qe, Qf, Qg, Qh, Qi, Qj, Qk, Ql, Qm, Qn, Qo, Qp, Qq, Qr, Qs, Qt, Qu, Qv, Qw, Qx, Qy, ptrTo, Qz, QA, QB, QC, QD, QE, QF, QG, QH, QI, QJ, QK, QL, QM, QN, QO, QP, QQ, QR, QS, QT, QU, QV, QW, QX, QY, QZ, Ja, Jb, Jc, Jd, Je, Jf, Jg, Jh, Ji, Jj, Jk, Jl, Jm, Jn, Jo, Jp, Jq, Jr, Js, Jt, Nat.reduceAdd])
        rw [show (!decide (((0 : Nat) : Int) = 0)) = false from rfl, oIf_f]
        refine turning_sp (n := n + 2) hlf (by omega) hv hop hbl9 fun m1 e1 => ?_
        rw [htx, hchk, ht]
        have n1 := e1.next
        try simp (disch := first | omega | with_unfolding_all exact id rfl | with_unfolding_all exact Nat.le_of_ble_eq_true rfl | (simp only [Jd, Je, Jr, Js, Jt, Nat.reduceAdd, allOne, oneCell, Bool.and_self, Jc]; first | done | omega)) only [↓Qa, ↓Qb, Qd, Qe, Qf, Qg, Qh, Qi, Qj, Qk, Ql, Qm, Qn, Qo, Qp, Qq, Qr, Qs, Qt, Qu, Qv, Qw, Qx, Qy, ptrTo, Qz, QA, QB, QC, QD, QE, QF, QG, QH, QI, QJ, QK, QL, QM, QN, QO, QP, QQ, QR, QS, QT, QU, QV, QW, QX, QY, QZ, Ja, Jb, Jc, Jd, Je, Jf, Jg, Jh, Ji, Jj, Jk, Jl, Jm, Jn, Jo, Jp, Jq, Jr, Js, Jt, Nat.reduceAdd]
        refine num_sp (n := n + 1) hlf (by omega) (hv.mono e1) hop hbl9 fun m2 e2 => ?_
        rw [nx, ne]
        have J2 := (jall.mono e1).mono e2
        try simp (disch := first | omega | with_unfolding_all exact id rfl | with_unfolding_all exact Nat.le_of_ble_eq_true rfl | (simp only [Jd, Je, Jr, Js, Jt, Nat.reduceAdd, allOne, oneCell, Bool.and_self, Jc]; first | done | omega)) only [neqb, eqB, beqb, ↓Qa, ↓Qb, Qd, Qe, Qf, Qg, Qh, Qi, Qj, Qk, Ql, Qm, Qn, Qo, Qp, Qq, Qr, Qs, Qt, Qu, Qv, Qw, Qx, Qy, ptrTo, Qz, QA, QB, QC, QD, QE, QF, QG, QH, QI, QJ, QK, QL, QM, QN, QO, QP, QQ, QR, QS, QT, QU, QV, QW, QX, QY, QZ, Ja, Jb, Jc, Jd, Je, Jf, Jg, Jh, Ji, Jj, Jk, Jl, Jm, Jn, Jo, Jp, Jq, Jr, Js, Jt, Nat.reduceAdd]
        rw [join_e]
        try simp (disch := first | omega | with_unfolding_all exact id rfl | with_unfolding_all exact Nat.le_of_ble_eq_true rfl | (simp only [Jd, Je, Jr, Js, Jt, Nat.reduceAdd, allOne, oneCell, Bool.and_self, Jc]; first | done | omega)) only [neqb, eqB, beqb, ↓Qa, ↓Qb, Qd, Qe, Qf, Qg, Qh, Qi, Qj, Qk, Ql, Qm, Qn, Qo, Qp, Qq, Qr, Qs, Qt, Qu, Qv, Qw, Qx, Qy, ptrTo, Qz, QA, QB, QC, QD, QE, QF, QG, QH, QI, QJ, QK, QL, QM, QN, QO, QP, QQ, QR, QS, QT, QU, QV, QW, QX, QY, QZ, Ja, Jb, Jc, Jd, Je, Jf, Jg, Jh, Ji, Jj, Jk, Jl, Jm, Jn, Jo, Jp, Jq, Jr, Js, Jt, Nat.reduceAdd]
        rw [hsg m2 _ J2, hld _ _ (hput _ J2)]
        try simp (disch := first | omega | with_unfolding_all exact id rfl | with_unfolding_all exact Nat.le_of_ble_eq_true rfl | (simp only [Jd, Je, Jr, Js, Jt, Nat.reduceAdd, allOne, oneCell, Bool.and_self, Jc]; first | done | omega)) only [neqb, eqB, beqb, ↓Qa, ↓Qb, Qd, Qe, Qf, Qg, Qh, Qi, Qj, Qk, Ql, Qm, Qn, Qo, Qp, Qq, Qr, Qs, Qt, Qu, Qv, Qw, Qx, Qy, ptrTo, Qz, QA, QB, QC, QD, QE, QF, QG, QH, QI, QJ, QK, QL, QM, QN, QO, QP, QQ, QR, QS, QT, QU, QV, QW, QX, QY, QZ, Ja, Jb, Jc, Jd, Je, Jf, Jg, Jh, Ji, Jj, Jk, Jl, Jm, Jn, Jo, Jp, Jq, Jr, Js, Jt, Nat.reduceAdd]
        repeat (rw [join_e]; try simp (disch := first | omega | with_unfolding_all exact id rfl | with_unfolding_all exact Nat.le_of_ble_eq_true rfl | (simp only [Jd, Je, Jr, Js, Jt, Nat.reduceAdd, allOne, oneCell, Bool.and_self, Jc]; first | done | omega)) only [neqb, eqB, beqb, ↓Qa, ↓Qb, Qd, Qe, Qf, Qg, Qh, Qi, Qj, Qk, Ql, Qm, Qn, Qo, Qp, Qq, Qr, Qs, Qt, Qu, Qv, Qw, Qx, Qy, ptrTo, Qz, QA, QB, QC, QD, QE, QF, QG, QH, QI, QJ, QK, QL, QM, QN, QO, QP, QQ, QR, QS, QT, QU, QV, QW, QX, QY, QZ, Ja, Jb, Jc, Jd, Je, Jf, Jg, Jh, Ji, Jj, Jk, Jl, Jm, Jn, Jo, Jp, Jq, Jr, Js, Jt, Nat.reduceAdd])
        rw [hsg _ _ (hput _ J2)]
        exact hk0 ht _ (((GtX.of (e1.trans e2)).put (.inl rfl) _).put (.inl rfl) _) (hput _ (hput _ J2))
      · try simp (disch := first | omega | with_unfolding_all exact id rfl | with_unfolding_all exact Nat.le_of_ble_eq_true rfl | (simp only [Jd, Je, Jr, Js, Jt, Nat.reduceAdd, allOne, oneCell, Bool.and_self, Jc]; first | done | omega)) only [hcJ, r5, ↓Qa, ↓Qb, Qd, Qe, Qf, Qg, Qh, Qi, Qj, Qk, Ql, Qm, Qn, Qo, Qp, Qq, Qr, Qs, Qt, Qu, Qv, Qw, Qx, Qy, ptrTo, Qz, QA, QB, QC, QD, QE, QF, QG, QH, QI, QJ, QK, QL, QM, QN, QO, QP, QQ, QR, QS, QT, QU, QV, QW, QX, QY, QZ, Ja, Jb, Jc, Jd, Je, Jf, Jg, Jh, Ji, Jj, Jk, Jl, Jm, Jn, Jo, Jp, Jq, Jr, Js, Jt, Nat.reduceAdd]
        repeat (rw [join_e]; try simp (disch := first | omega | with_unfolding_all exact id rfl | with_unfolding_all exact Nat.le_of_ble_eq_true rfl | (simp only [Jd, Je, Jr, Js, Jt, Nat.reduceAdd, allOne, oneCell, Bool.and_self, Jc]; first | done | omega)) only [hcJ, r5, ↓Qa, ↓Qb, Qd, Qe, Qf, Qg, Qh, Qi, Qj, Qk, Ql, Qm, Qn, Qo, Qp, Qq, Qr, Qs, Qt, Qu, Qv, Qw, Qx, Qy, ptrTo, Qz, QA, QB, QC, QD, QE, QF, QG, QH, QI, QJ, QK, QL, QM, QN, QO, QP, QQ, QR, QS, QT, QU, QV, QW, QX, QY, QZ, Ja, Jb, Jc, Jd, Je, Jf, Jg, Jh, Ji, Jj, Jk, Jl, Jm, Jn, Jo, Jp, Jq, Jr, Js, Jt, Nat.reduceAdd])
        rw [show (!decide (((cnt done % 5 : Nat) : Int) = 0)) = true by rw [decide_eq_false (by omega)]; rfl, oIf_t]
        exact hk0 ht _ (GtX.refl _) jall
    | true =>
      obtain ⟨hat, hnum⟩ := all_one hE hbl ht
      have nx : numX (ci b) = (cnt done : Int) := by unfold numX; rw [if_pos hchk, htx, ht, if_pos rfl, toNat_ci, ci_length, hbl, hnum]
      have ne : numE (ci b) = 0 := by unfold numE; rw [if_pos hchk, htx, ht]; rfl
      have hlt : cnt done < cntR N N [] := by rw [← all_cnt, hE, cnt_app, cnt_cons, trI_ci, ht, if_pos rfl]; omega
      have hin : inI (N : Int) 1 9 := ⟨by omega, by omega⟩
      have hcx : cntX (N : Int) = (cntR N N [] : Int) := by unfold cntX; rw [if_pos hin, Int.toNat_natCast]
      have hok : atOk (N : Int) (cnt done : Int) := ⟨hin, by rw [hcx]; exact ⟨by omega, by omega⟩⟩
      have ax : atX (N : Int) (cnt done : Int) = b := by unfold atX; rw [if_pos hok, Int.toNat_natCast, Int.toNat_natCast]; exact hat
      have ae : atE (N : Int) (cnt done : Int) = 0 := by unfold atE; rw [if_pos hok]
      have hb0 : 0 < b.length := by omega
      have hcb0 : 0 < (ci b).length := by rw [ci_length]; exact hb0
      have hx7 : b[0] < 8 := by have := List.mem_range.1 (hpb.mem_iff.1 (List.getElem_mem hb0)); omega
      have hfin : ∀ M : Mem, GtX (fun c => c = pg ∨ c = pc ∨ c = pb) m' M → trJ pg pc pb done M → k (.tuple ⟨[]⟩) ((M.put pb (some ⟨1, ((List.range 8).map fun q => Value.int .i64 (cntK q done : Int)).set b[0] (.int .i64 ((cntK b[0] done + 1 : Nat) : Int)), none⟩)).put pc (some ⟨1, [.int .i64 ((cnt done + 1 : Nat) : Int)], none⟩)) = some () := fun M eM hM => by
        refine hk _ ((eM.put (.inr (.inr rfl)) _).put (.inr (.inl rfl)) _) ?_
        have c1 : cnt (done ++ [ci b]) = cnt done + 1 := by rw [cnt_app, cnt_cons, trI_ci, ht]; rfl
        have c2 : ∀ q, cntK q (done ++ [ci b]) = if q = b[0] then cntK b[0] done + 1 else cntK q done := fun q => by
          have hh : (ci b).head? = some (b[0] : Int) := by
            cases b with
            | nil => exact absurd hb0 (Nat.lt_irrefl _)
            | cons x b => rfl
          rw [cntK_app, cntK_cons]; unfold hdI
          rw [trI_ci, ht, hh]
          by_cases hq : q = b[0]
          · rw [if_pos hq, ← hq]
            have : ((some (q : Int)) == some (q : Int)) = true := by simp
            rw [this]; rfl
          · rw [if_neg hq]
            have : ((some (b[0] : Int)) == some (q : Int)) = false := by simp; omega
            rw [this]; rfl
        unfold trJ
        rw [c1]
        refine ⟨?_, Mem.rd_put_eq _ _ (by rw [Mem.put_next']; exact Mem.rd_lt hM.2.1), ?_⟩
        · rw [Mem.rd_put _ _ _ _ (Ne.symm hgc), Mem.rd_put _ _ _ _ (Ne.symm hgb)]; exact hM.1
        · rw [Mem.rd_put _ _ _ _ hcb, Mem.rd_put_eq _ _ (Mem.rd_lt hM.2.2), range8_set _ hx7]
          simp only [c2]
      try simp (disch := first | omega | with_unfolding_all exact id rfl | with_unfolding_all exact Nat.le_of_ble_eq_true rfl | (simp only [Jd, Je, Jr, Js, Jt, Nat.reduceAdd, allOne, oneCell, Bool.and_self, Jc]; first | done | omega)) only [↓Qa, ↓Qb, Qd, Qe, Qf, Qg, Qh, Qi, Qj, Qk, Ql, Qm, Qn, Qo, Qp, Qq, Qr, Qs, Qt, Qu, Qv, Qw, Qx, Qy, ptrTo, Qz, QA, QB, QC, QD, QE, QF, QG, QH, QI, QJ, QK, QL, QM, QN, QO, QP, QQ, QR, QS, QT, QU, QV, QW, QX, QY, QZ, Ja, Jb, Jc, Jd, Je, Jf, Jg, Jh, Ji, Jj, Jk, Jl, Jm, Jn, Jo, Jp, Jq, Jr, Js, Jt, Nat.reduceAdd]
      rw [join_e]
      try simp (disch := first | omega | with_unfolding_all exact id rfl | with_unfolding_all exact Nat.le_of_ble_eq_true rfl | (simp only [Jd, Je, Jr, Js, Jt, Nat.reduceAdd, allOne, oneCell, Bool.and_self, Jc]; first | done | omega)) only [hcJ, r5, ↓Qa, ↓Qb, Qd, Qe, Qf, Qg, Qh, Qi, Qj, Qk, Ql, Qm, Qn, Qo, Qp, Qq, Qr, Qs, Qt, Qu, Qv, Qw, Qx, Qy, ptrTo, Qz, QA, QB, QC, QD, QE, QF, QG, QH, QI, QJ, QK, QL, QM, QN, QO, QP, QQ, QR, QS, QT, QU, QV, QW, QX, QY, QZ, Ja, Jb, Jc, Jd, Je, Jf, Jg, Jh, Ji, Jj, Jk, Jl, Jm, Jn, Jo, Jp, Jq, Jr, Js, Jt, Nat.reduceAdd]
      refine turning_sp (n := n + 2) hlf (by omega) hv hop hbl9 fun m1 e1 => ?_
      rw [htx, hchk, ht]
      have n1 := e1.next
      try simp (disch := first | omega | with_unfolding_all exact id rfl | with_unfolding_all exact Nat.le_of_ble_eq_true rfl | (simp only [Jd, Je, Jr, Js, Jt, Nat.reduceAdd, allOne, oneCell, Bool.and_self, Jc]; first | done | omega)) only [↓Qa, ↓Qb, Qd, Qe, Qf, Qg, Qh, Qi, Qj, Qk, Ql, Qm, Qn, Qo, Qp, Qq, Qr, Qs, Qt, Qu, Qv, Qw, Qx, Qy, ptrTo, Qz, QA, QB, QC, QD, QE, QF, QG, QH, QI, QJ, QK, QL, QM, QN, QO, QP, QQ, QR, QS, QT, QU, QV, QW, QX, QY, QZ, Ja, Jb, Jc, Jd, Je, Jf, Jg, Jh, Ji, Jj, Jk, Jl, Jm, Jn, Jo, Jp, Jq, Jr, Js, Jt, Nat.reduceAdd]
      refine num_sp (n := n + 1) hlf (by omega) (hv.mono e1) hop hbl9 fun m2 e2 => ?_
      rw [nx, ne]
      have n2 := e2.next
      have J2 := (jall.mono e1).mono e2
      try simp (disch := first | omega | with_unfolding_all exact id rfl | with_unfolding_all exact Nat.le_of_ble_eq_true rfl | (simp only [Jd, Je, Jr, Js, Jt, Nat.reduceAdd, allOne, oneCell, Bool.and_self, Jc]; first | done | omega)) only [neqb, eqB, beqb, ↓Qa, ↓Qb, Qd, Qe, Qf, Qg, Qh, Qi, Qj, Qk, Ql, Qm, Qn, Qo, Qp, Qq, Qr, Qs, Qt, Qu, Qv, Qw, Qx, Qy, ptrTo, Qz, QA, QB, QC, QD, QE, QF, QG, QH, QI, QJ, QK, QL, QM, QN, QO, QP, QQ, QR, QS, QT, QU, QV, QW, QX, QY, QZ, Ja, Jb, Jc, Jd, Je, Jf, Jg, Jh, Ji, Jj, Jk, Jl, Jm, Jn, Jo, Jp, Jq, Jr, Js, Jt, Nat.reduceAdd]
      rw [join_e]
      try simp (disch := first | omega | with_unfolding_all exact id rfl | with_unfolding_all exact Nat.le_of_ble_eq_true rfl | (simp only [Jd, Je, Jr, Js, Jt, Nat.reduceAdd, allOne, oneCell, Bool.and_self, Jc]; first | done | omega)) only [neqb, eqB, beqb, ↓Qa, ↓Qb, Qd, Qe, Qf, Qg, Qh, Qi, Qj, Qk, Ql, Qm, Qn, Qo, Qp, Qq, Qr, Qs, Qt, Qu, Qv, Qw, Qx, Qy, ptrTo, Qz, QA, QB, QC, QD, QE, QF, QG, QH, QI, QJ, QK, QL, QM, QN, QO, QP, QQ, QR, QS, QT, QU, QV, QW, QX, QY, QZ, Ja, Jb, Jc, Jd, Je, Jf, Jg, Jh, Ji, Jj, Jk, Jl, Jm, Jn, Jo, Jp, Jq, Jr, Js, Jt, Nat.reduceAdd]
      rw [hsg m2 _ J2]
      have J3 := hput m2 J2
      have E3 : GtX (fun c => c = pg ∨ c = pc ∨ c = pb) m' (m2.put pg (some ⟨1, [.bool true], none⟩)) := (GtX.of (e1.trans e2)).put (.inl rfl) _
      generalize m2.put pg (some ⟨1, [.bool true], none⟩) = m3 at J3 E3 ⊢
      have n3 := E3.next
      have nn : ∀ c, (fun c => c = pg ∨ c = pc ∨ c = pb) c → c ≠ pn := fun c hc h => by
        subst h
        rcases hc with h | h | h <;> contradiction
      have hc3 : rdo (m3.rd pc) 0 = some (.int .i64 (cnt done : Int)) := by rw [J3.2.1]; rfl
      have hg3 : rdo (m3.rd pg) 0 = some (.bool true) := by rw [J3.1]; rfl
      try simp (disch := first | omega | with_unfolding_all exact id rfl | with_unfolding_all exact Nat.le_of_ble_eq_true rfl | (simp only [Jd, Je, Jr, Js, Jt, Nat.reduceAdd, allOne, oneCell, Bool.and_self, Jc]; first | done | omega)) only [hg3, hc3, neqb, eqB, beqb, ↓Qa, ↓Qb, Qd, Qe, Qf, Qg, Qh, Qi, Qj, Qk, Ql, Qm, Qn, Qo, Qp, Qq, Qr, Qs, Qt, Qu, Qv, Qw, Qx, Qy, ptrTo, Qz, QA, QB, QC, QD, QE, QF, QG, QH, QI, QJ, QK, QL, QM, QN, QO, QP, QQ, QR, QS, QT, QU, QV, QW, QX, QY, QZ, Ja, Jb, Jc, Jd, Je, Jf, Jg, Jh, Ji, Jj, Jk, Jl, Jm, Jn, Jo, Jp, Jq, Jr, Js, Jt, Nat.reduceAdd]
      rw [join_e]
      try simp (disch := first | omega | with_unfolding_all exact id rfl | with_unfolding_all exact Nat.le_of_ble_eq_true rfl | (simp only [Jd, Je, Jr, Js, Jt, Nat.reduceAdd, allOne, oneCell, Bool.and_self, Jc]; first | done | omega)) only [hg3, hc3, neqb, eqB, beqb, ↓Qa, ↓Qb, Qd, Qe, Qf, Qg, Qh, Qi, Qj, Qk, Ql, Qm, Qn, Qo, Qp, Qq, Qr, Qs, Qt, Qu, Qv, Qw, Qx, Qy, ptrTo, Qz, QA, QB, QC, QD, QE, QF, QG, QH, QI, QJ, QK, QL, QM, QN, QO, QP, QQ, QR, QS, QT, QU, QV, QW, QX, QY, QZ, Ja, Jb, Jc, Jd, Je, Jf, Jg, Jh, Ji, Jj, Jk, Jl, Jm, Jn, Jo, Jp, Jq, Jr, Js, Jt, Nat.reduceAdd]
      rw [join_e]
      try simp (disch := first | omega | with_unfolding_all exact id rfl | with_unfolding_all exact Nat.le_of_ble_eq_true rfl | (simp only [Jd, Je, Jr, Js, Jt, Nat.reduceAdd, allOne, oneCell, Bool.and_self, Jc]; first | done | omega)) only [hg3, hc3, neqb, eqB, beqb, ↓Qa, ↓Qb, Qd, Qe, Qf, Qg, Qh, Qi, Qj, Qk, Ql, Qm, Qn, Qo, Qp, Qq, Qr, Qs, Qt, Qu, Qv, Qw, Qx, Qy, ptrTo, Qz, QA, QB, QC, QD, QE, QF, QG, QH, QI, QJ, QK, QL, QM, QN, QO, QP, QQ, QR, QS, QT, QU, QV, QW, QX, QY, QZ, Ja, Jb, Jc, Jd, Je, Jf, Jg, Jh, Ji, Jj, Jk, Jl, Jm, Jn, Jo, Jp, Jq, Jr, Js, Jt, Nat.reduceAdd]
      rw [hsg m3 _ J3]
      have J4 := hput m3 J3
      have E4 := E3.put (b := pg) (.inl rfl) (some ⟨1, [.bool true], none⟩)
      generalize m3.put pg (some ⟨1, [.bool true], none⟩) = m4 at J4 E4 ⊢
      have n4 := E4.next
      have hc4 : rdo (m4.rd pc) 0 = some (.int .i64 (cnt done : Int)) := by rw [J4.2.1]; rfl
      have hg4 : rdo (m4.rd pg) 0 = some (.bool true) := by rw [J4.1]; rfl
      have hn4 : rdo (m4.rd pn) 0 = some (.int .i64 (N : Int)) := by rw [E4.kept pn (Mem.rd_lt hn') (fun hc => nn _ hc rfl), hn']; rfl
      have hv4 : IL m4 v (ci b) := hv.keep fun c hc => E4.kept c (hb c hc).2 (hb c hc).1
      have tail : ∀ M : Mem, GtX (fun c => c = pg ∨ c = pc ∨ c = pb) m' M → trJ pg pc pb done M → (oOpt (ia 1 v (Value.int IntKind.i64 0)) fun t104 => oOpt (ld1 M t104) fun t105 => oOpt (iaA 8 1 (Value.pointer (some { block := pb, off := 0 })) t105) fun t106 => oOpt (ld1 M t106) fun t107 =>
          oInt BinOp.add IntKind.i64 t107 (Value.int IntKind.i64 1) fun t108 => oOpt (iaA 8 1 (Value.pointer (some { block := pb, off := 0 })) t105) fun t109 => oRes (st1 1 L M t109 t108) fun t110 m111 => oOpt (rdo (m111.rd pc) 0) fun t112 => oInt BinOp.add IntKind.i64 t112 (Value.int IntKind.i64 1) fun t113 =>
          oRes (stw 1 L m111 pc 0 t113.cells.toList (m111.rd pc)) fun t114 m115 => k (Value.tuple { toList := [] }) m115) = some () := fun M eM hM => by
        have hvM : IL M v (ci b) := hv.keep fun c hc => eM.kept c (hb c hc).2 (hb c hc).1
        have hi0 : iaA 8 1 (.pointer (some ⟨pb, 0, none⟩)) (.int .i64 (b[0] : Int)) = some (.pointer (some ⟨pb, b[0], none⟩)) := by
          have := iaA_u (b := pb) (n := 8) (o := 0) (i := b[0]) hx7
          rwa [Nat.zero_add] at this
        have hle := cntK_le b[0] done
        have hldb : rdo (M.rd pb) b[0] = some (.int .i64 (cntK b[0] done : Int)) := by
          rw [hM.2.2]
          show ((List.range 8).map fun k => Value.int .i64 (cntK k done : Int))[b[0]]? = _
          rw [List.getElem?_map, List.getElem?_range hx7]; rfl
        have i0 := hvM.ia hcb0
        have l0 := hvM.ld hcb0
        rw [ci_getE b hb0] at l0
        rw [show (Value.int .i64 0) = Value.int .i64 ((0 : Nat) : Int) from rfl, i0, oOpt_e, l0, oOpt_e, hi0, oOpt_e, ld1_u, hldb, oOpt_e, oInt_add ⟨by omega, by omega⟩, oOpt_e, st_int hM.2.2 (by simp; omega) hLb, oRes_e, Mem.rd_put _ _ _ _ (Ne.symm hcb), hM.2.1]
        show oOpt (some (Value.int .i64 (cnt done : Int))) _ = _
        rw [oOpt_e, oInt_add ⟨by omega, by omega⟩]
        have hs : ∀ (x : Int), stw 1 L (M.put pb (some ⟨1, ((List.range 8).map fun q => Value.int .i64 (cntK q done : Int)).set b[0] (.int .i64 ((cntK b[0] done : Int) + 1)), none⟩)) pc 0 (Value.int .i64 x).cells.toList (some ⟨1, [.int .i64 (cnt done : Int)], none⟩) = some (Go.undef, (M.put pb (some ⟨1, ((List.range 8).map fun q => Value.int .i64 (cntK q done : Int)).set b[0] (.int .i64 ((cntK b[0] done : Int) + 1)), none⟩)).put pc (some ⟨1, [.int .i64 x], none⟩)) := fun x => stw_e hLc rfl (Nat.le_refl _) rfl
        rw [hs, oRes_e]
        exact hfin M eM hM
      by_cases h3 : cnt done % 3 = 0
      · try simp (disch := first | omega | with_unfolding_all exact id rfl | with_unfolding_all exact Nat.le_of_ble_eq_true rfl | (simp only [Jd, Je, Jr, Js, Jt, Nat.reduceAdd, allOne, oneCell, Bool.and_self, Jc]; first | done | omega)) only [hg4, hc4, r3, h3, ↓Qa, ↓Qb, Qd, Qe, Qf, Qg, Qh, Qi, Qj, Qk, Ql, Qm, Qn, Qo, Qp, Qq, Qr, Qs, Qt, Qu, Qv, Qw, Qx, Qy, ptrTo, Qz, QA, QB, QC, QD, QE, QF, QG, QH, QI, QJ, QK, QL, QM, QN, QO, QP, QQ, QR, QS, QT, QU, QV, QW, QX, QY, QZ, Ja, Jb, Jc, Jd, Je, Jf, Jg, Jh, Ji, Jj, Jk, Jl, Jm, Jn, Jo, Jp, Jq, Jr, Js, Jt, Nat.reduceAdd]
        rw [join_e]
        try simp (disch := first | omega | with_unfolding_all exact id rfl | with_unfolding_all exact Nat.le_of_ble_eq_true rfl | (simp only [Jd, Je, Jr, Js, Jt, Nat.reduceAdd, allOne, oneCell, Bool.and_self, Jc]; first | done | omega)) only [hg4, hc4, r3, h3, ↓Qa, ↓Qb, Qd, Qe, Qf, Qg, Qh, Qi, Qj, Qk, Ql, Qm, Qn, Qo, Qp, Qq, Qr, Qs, Qt, Qu, Qv, Qw, Qx, Qy, ptrTo, Qz, QA, QB, QC, QD, QE, QF, QG, QH, QI, QJ, QK, QL, QM, QN, QO, QP, QQ, QR, QS, QT, QU, QV, QW, QX, QY, QZ, Ja, Jb, Jc, Jd, Je, Jf, Jg, Jh, Ji, Jj, Jk, Jl, Jm, Jn, Jo, Jp, Jq, Jr, Js, Jt, Nat.reduceAdd]
        rw [show (decide (((0 : Nat) : Int) = 0)) = true from rfl, join_e]
        try simp (disch := first | omega | with_unfolding_all exact id rfl | with_unfolding_all exact Nat.le_of_ble_eq_true rfl | (simp only [Jd, Je, Jr, Js, Jt, Nat.reduceAdd, allOne, oneCell, Bool.and_self, Jc]; first | done | omega)) only [hg4, hc4, hn4, ↓Qa, ↓Qb, Qd, Qe, Qf, Qg, Qh, Qi, Qj, Qk, Ql, Qm, Qn, Qo, Qp, Qq, Qr, Qs, Qt, Qu, Qv, Qw, Qx, Qy, ptrTo, Qz, QA, QB, QC, QD, QE, QF, QG, QH, QI, QJ, QK, QL, QM, QN, QO, QP, QQ, QR, QS, QT, QU, QV, QW, QX, QY, QZ, Ja, Jb, Jc, Jd, Je, Jf, Jg, Jh, Ji, Jj, Jk, Jl, Jm, Jn, Jo, Jp, Jq, Jr, Js, Jt, Nat.reduceAdd]
        refine at_sp (n := n + 3) hlf (by omega) fun u m5 e5 hu => ?_
        rw [ae]
        rw [ax] at hu
        have n5 := e5.next
        have J5 := J4.mono e5
        have E5 := E4.trans (GtX.of e5)
        try simp (disch := first | omega | with_unfolding_all exact id rfl | with_unfolding_all exact Nat.le_of_ble_eq_true rfl | (simp only [Jd, Je, Jr, Js, Jt, Nat.reduceAdd, allOne, oneCell, Bool.and_self, Jc]; first | done | omega)) only [neqb, ↓Qa, ↓Qb, Qd, Qe, Qf, Qg, Qh, Qi, Qj, Qk, Ql, Qm, Qn, Qo, Qp, Qq, Qr, Qs, Qt, Qu, Qv, Qw, Qx, Qy, ptrTo, Qz, QA, QB, QC, QD, QE, QF, QG, QH, QI, QJ, QK, QL, QM, QN, QO, QP, QQ, QR, QS, QT, QU, QV, QW, QX, QY, QZ, Ja, Jb, Jc, Jd, Je, Jf, Jg, Jh, Ji, Jj, Jk, Jl, Jm, Jn, Jo, Jp, Jq, Jr, Js, Jt, Nat.reduceAdd]
        rw [join_e]
        try simp (disch := first | omega | with_unfolding_all exact id rfl | with_unfolding_all exact Nat.le_of_ble_eq_true rfl | (simp only [Jd, Je, Jr, Js, Jt, Nat.reduceAdd, allOne, oneCell, Bool.and_self, Jc]; first | done | omega)) only [neqb, ↓Qa, ↓Qb, Qd, Qe, Qf, Qg, Qh, Qi, Qj, Qk, Ql, Qm, Qn, Qo, Qp, Qq, Qr, Qs, Qt, Qu, Qv, Qw, Qx, Qy, ptrTo, Qz, QA, QB, QC, QD, QE, QF, QG, QH, QI, QJ, QK, QL, QM, QN, QO, QP, QQ, QR, QS, QT, QU, QV, QW, QX, QY, QZ, Ja, Jb, Jc, Jd, Je, Jf, Jg, Jh, Ji, Jj, Jk, Jl, Jm, Jn, Jo, Jp, Jq, Jr, Js, Jt, Nat.reduceAdd]
        refine same_sp (n := n + 6) hlf hu (hv4.mono e5) (by rw [ci_length]; omega) ?_
        try simp (disch := first | omega | with_unfolding_all exact id rfl | with_unfolding_all exact Nat.le_of_ble_eq_true rfl | (simp only [Jd, Je, Jr, Js, Jt, Nat.reduceAdd, allOne, oneCell, Bool.and_self, Jc]; first | done | omega)) only [decide_eq_true (rfl : ci b = ci b), ↓Qa, ↓Qb, Qd, Qe, Qf, Qg, Qh, Qi, Qj, Qk, Ql, Qm, Qn, Qo, Qp, Qq, Qr, Qs, Qt, Qu, Qv, Qw, Qx, Qy, ptrTo, Qz, QA, QB, QC, QD, QE, QF, QG, QH, QI, QJ, QK, QL, QM, QN, QO, QP, QQ, QR, QS, QT, QU, QV, QW, QX, QY, QZ, Ja, Jb, Jc, Jd, Je, Jf, Jg, Jh, Ji, Jj, Jk, Jl, Jm, Jn, Jo, Jp, Jq, Jr, Js, Jt, Nat.reduceAdd]
        rw [hsg m5 _ J5]
        exact tail _ (E5.put (.inl rfl) _) (hput m5 J5)
      · try simp (disch := first | omega | with_unfolding_all exact id rfl | with_unfolding_all exact Nat.le_of_ble_eq_true rfl | (simp only [Jd, Je, Jr, Js, Jt, Nat.reduceAdd, allOne, oneCell, Bool.and_self, Jc]; first | done | omega)) only [hg4, hc4, r3, ↓Qa, ↓Qb, Qd, Qe, Qf, Qg, Qh, Qi, Qj, Qk, Ql, Qm, Qn, Qo, Qp, Qq, Qr, Qs, Qt, Qu, Qv, Qw, Qx, Qy, ptrTo, Qz, QA, QB, QC, QD, QE, QF, QG, QH, QI, QJ, QK, QL, QM, QN, QO, QP, QQ, QR, QS, QT, QU, QV, QW, QX, QY, QZ, Ja, Jb, Jc, Jd, Je, Jf, Jg, Jh, Ji, Jj, Jk, Jl, Jm, Jn, Jo, Jp, Jq, Jr, Js, Jt, Nat.reduceAdd]
        rw [join_e]
        try simp (disch := first | omega | with_unfolding_all exact id rfl | with_unfolding_all exact Nat.le_of_ble_eq_true rfl | (simp only [Jd, Je, Jr, Js, Jt, Nat.reduceAdd, allOne, oneCell, Bool.and_self, Jc]; first | done | omega)) only [hg4, hc4, r3, ↓Qa, ↓Qb, Qd, Qe, Qf, Qg, Qh, Qi, Qj, Qk, Ql, Qm, Qn, Qo, Qp, Qq, Qr, Qs, Qt, Qu, Qv, Qw, Qx, Qy, ptrTo, Qz, QA, QB, QC, QD, QE, QF, QG, QH, QI, QJ, QK, QL, QM, QN, QO, QP, QQ, QR, QS, QT, QU, QV, QW, QX, QY, QZ, Ja, Jb, Jc, Jd, Je, Jf, Jg, Jh, Ji, Jj, Jk, Jl, Jm, Jn, Jo, Jp, Jq, Jr, Js, Jt, Nat.reduceAdd]
        rw [show (decide (((cnt done % 3 : Nat) : Int) = 0)) = false from decide_eq_false (by omega)]
        try simp (disch := first | omega | with_unfolding_all exact id rfl | with_unfolding_all exact Nat.le_of_ble_eq_true rfl | (simp only [Jd, Je, Jr, Js, Jt, Nat.reduceAdd, allOne, oneCell, Bool.and_self, Jc]; first | done | omega)) only [↓Qa, ↓Qb, Qd, Qe, Qf, Qg, Qh, Qi, Qj, Qk, Ql, Qm, Qn, Qo, Qp, Qq, Qr, Qs, Qt, Qu, Qv, Qw, Qx, Qy, ptrTo, Qz, QA, QB, QC, QD, QE, QF, QG, QH, QI, QJ, QK, QL, QM, QN, QO, QP, QQ, QR, QS, QT, QU, QV, QW, QX, QY, QZ, Ja, Jb, Jc, Jd, Je, Jf, Jg, Jh, Ji, Jj, Jk, Jl, Jm, Jn, Jo, Jp, Jq, Jr, Js, Jt, Nat.reduceAdd]
        rw [join_e]
        exact tail _ E4 J4
end
end Go.Vit
