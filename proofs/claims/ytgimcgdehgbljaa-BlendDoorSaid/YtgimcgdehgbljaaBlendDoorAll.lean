/- The law BlendDoor: its walk. -/
import Derived.Test.YtgimcgdehgbljaaWD
import Derived.Test.YtgimcgdehgbljaaBlendMetricAll
set_option linter.unusedSimpArgs false
set_option linter.unusedVariables false
set_option maxRecDepth 20000
namespace Go.Vit
open Go Go.Proofs
attribute [local irreducible] runT loopS
section
variable {lf n L : Nat} {m : Mem} {k : Value → Mem → Option Unit}
set_option maxHeartbeats 8000000 in
theorem door_sp {a b : Nat} (hlf : 1000000 ≤ lf) (hT : TabOk mTab m) (hL : L ≤ m.next) (ha : a < 256) (hb : b < 256) (hk : ∀ m', k (.bool true) m' = some ()) :
    runT (tab lf) (n + 20) 8 [.int .u8 (a : Int), .int .u8 (b : Int)] L m k = some () := by
  rw [r8]
  dsimp only [S8, iofNat, inegSucc]
  have c10 : (10 : Int) = ((10 : Nat) : Int) := rfl
  have c1 : (1 : Int) = ((1 : Nat) : Int) := rfl
  rw [uc_e, uc_e, un0_e, oCv_nat (by omega), c10, oInt_remN (by omega), c1, oInt_addN (by omega), oCv_nat (by omega), oInt_addN (by omega), oInt_remN (by omega), ← c1]
  have hN : 1 + a % 10 ≤ 10 := by have := Nat.mod_lt a (show 0 < 10 by decide); omega
  have hN1 : 1 ≤ 1 + a % 10 := by omega
  generalize 1 + a % 10 = N at hN hN1 ⊢
  have hq : b % (N + 1) ≤ N := by have := Nat.mod_lt b (show 0 < N + 1 by omega); omega
  generalize b % (N + 1) = q at hq ⊢
  have hM1 := chs_pos (n := N) (by omega) hq
  have hM2 := chs_le (n := N) (k := q) (by omega)
  have hlenR := rnd_len hN hq
  have hsz : szE (N : Int) (q : Int) = 0 := if_pos ⟨⟨by omega, by omega⟩, by omega, by omega⟩
  have hcnt : cntX (N : Int) (q : Int) = (chs N q : Int) := by unfold cntX; rw [if_pos hsz]; rfl
  refine cel_nw hL rfl rfl fun m1 e1 cb1 n1 => ?_
  refine blends_sp (g := 45) (X := fun x => x = m.next) (J := fun seen m' => Cel m' m.next (.int .i64 (seen.length : Int))) hlf rfl (by omega) hN1 hN (by rintro x rfl; omega) cb1 (fun seen x y h e => (e.kept _ (Mem.rd_lt h)).trans h) ?_ ?_
  · intro m2 u l seen K e hj hs _ _ _ _ hK
    rw [r45]; dsimp only [S45, iofNat, inegSucc]
    have hld : ld1 m2 (.pointer (some ⟨m.next, 0, none⟩)) = some (.int .i64 (seen.length : Int)) := by
      unfold ld1; simp only [hj]; rfl
    rw [uc_e, uc_e, un0_e, hld, oOpt_e, c1, oInt_addN (by omega), st_set hj Nat.zero_lt_one hL rfl rfl, oRes_e]
    refine hK _ (GtX.put (X := fun x => x = m.next) (GtX.refl m2) (b := m.next) rfl _) ?_
    rw [List.length_append]
    exact Mem.rd_put_eq _ _ (Mem.rd_lt hj)
  · intro m2 e2 hc2
    have hlen : (allH N q).length = chs N q := by rw [← (allH_perm hN hq).length_eq, hlenR]
    rw [hlen] at hc2
    have n2 := e2.next
    refine count_sp hlf ?_
    rw [hcnt, hsz]
    try simp (disch := first | omega | with_unfolding_all exact id rfl | with_unfolding_all exact Nat.le_of_ble_eq_true rfl | (simp only [Jd, Je, Jr, Js, Jt, Nat.reduceAdd, allOne, oneCell, Bool.and_self, Jc]; first | done | omega)) only [hc2, ↓Qa, ↓Qb, Qd, Qe, Qf, Qg, Qh, Qi, Qj, Qk, Ql, Qm, Qn, Qo, Qp, Qq, Qr, Qs, Qt, Qu, Qv, Qw, Qx, Qy, ptrTo, Qz, QA, QB, QC, QD, QE, QF, QG, QH, QI, QJ, QK, QL, QM, QN, QO, QP, QQ, QR, QS, QT, QU, QV, QW, QX, QY, QZ, Ja, Jb, Jc, Jd, Je, Jf, Jg, Jh, Ji, Jj, Jk, Jl, Jm, Jn, Jo, Jp, Jq, Jr, Js, Jt, Nat.reduceAdd]
    rw [join_e]; try simp (disch := first | omega | with_unfolding_all exact id rfl | with_unfolding_all exact Nat.le_of_ble_eq_true rfl | (simp only [Jd, Je, Jr, Js, Jt, Nat.reduceAdd, allOne, oneCell, Bool.and_self, Jc]; first | done | omega)) only [↓Qa, ↓Qb, Qd, Qe, Qf, Qg, Qh, Qi, Qj, Qk, Ql, Qm, Qn, Qo, Qp, Qq, Qr, Qs, Qt, Qu, Qv, Qw, Qx, Qy, ptrTo, Qz, QA, QB, QC, QD, QE, QF, QG, QH, QI, QJ, QK, QL, QM, QN, QO, QP, QQ, QR, QS, QT, QU, QV, QW, QX, QY, QZ, Ja, Jb, Jc, Jd, Je, Jf, Jg, Jh, Ji, Jj, Jk, Jl, Jm, Jn, Jo, Jp, Jq, Jr, Js, Jt, Nat.reduceAdd]
    have mk := amakeMap_e m2
    have g3 := Mem.gt_push m2 ⟨0, [], some []⟩
    have p3 : (m2.push ⟨0, [], some []⟩).rd m2.next = some ⟨0, [], some (entsI .u16 (entD ([] : List (List Nat))))⟩ := Mem.rd_push _ _
    have n3 : (m2.push ⟨0, [], some []⟩).next = m2.next + 1 := Mem.push_next _ _
    rw [mk, oRes_e]
    generalize m2.push ⟨0, [], some []⟩ = m3 at g3 p3 n3 ⊢
    generalize hmb : m2.next = mb at g3 p3 n3 ⊢
    refine loop_up (chs N q) (fun i vs m' => ∃ u, vs = [u, .int .i64 (i : Int)] ∧ GtX (fun x => x = mb) m3 m' ∧ DG (mb + 1) m' u ((rnd N q).take i) ∧ m'.rd mb = some ⟨0, [], some (entsI .u16 (entD ((rnd N q).take i)))⟩) (by omega)
      ⟨_, rfl, GtX.refl _, DG.nil (by omega), p3⟩ ?_
    rintro i vs m5 hi ⟨u, rfl, e5, hu, p5⟩ self hself
    have n5 := e5.next
    rw [uc_e, uc_e, oInt_lss]
    refine oIf_dec (fun h => ?_) (fun h => ?_)
    · have hiM : i < chs N q := by omega
      refine nth20o_sp hlf (by omega) hN1 hN hq hiM fun v m6 e6 hv hvb hvo => ?_
      have hil : i < (rnd N q).length := by omega
      obtain ⟨q1, q2⟩ := rnd_at hN hq hiM
      have hgi : (rnd N q).getD i [] = (rnd N q)[i] := by rw [List.getD_eq_getElem?_getD, List.getElem?_eq_getElem hil]; rfl
      rw [hgi] at q1 q2
      rw [q1] at hv
      have hbl := rnd_bl N q hq _ (List.getElem_mem hil)
      have hnew := door_new hN hq hil
      have htk : (rnd N q).take (i + 1) = (rnd N q).take i ++ [(rnd N q)[i]] := by rw [List.take_add_one, List.getElem?_eq_getElem hil]; rfl
      generalize (rnd N q)[i] = l at hv hbl hnew htk q2
      have hll := hbl.len
      try simp (disch := first | omega | with_unfolding_all exact id rfl | with_unfolding_all exact Nat.le_of_ble_eq_true rfl | (simp only [Jd, Je, Jr, Js, Jt, Nat.reduceAdd, allOne, oneCell, Bool.and_self, Jc]; first | done | omega)) only [↓Qa, ↓Qb, Qd, Qe, Qf, Qg, Qh, Qi, Qj, Qk, Ql, Qm, Qn, Qo, Qp, Qq, Qr, Qs, Qt, Qu, Qv, Qw, Qx, Qy, ptrTo, Qz, QA, QB, QC, QD, QE, QF, QG, QH, QI, QJ, QK, QL, QM, QN, QO, QP, QQ, QR, QS, QT, QU, QV, QW, QX, QY, QZ, Ja, Jb, Jc, Jd, Je, Jf, Jg, Jh, Ji, Jj, Jk, Jl, Jm, Jn, Jo, Jp, Jq, Jr, Js, Jt, Nat.reduceAdd]
      refine number18_sp hlf (l := ci l) hv hvo (by rw [ci_length]; omega) ?_
      have hck := chkB_ok hN1 hN hbl
      have hnum : numX (N : Int) (ci l) = (i : Int) := by unfold numX; rw [if_pos hck, nni_ci, ci_length, hll, q2]
      rw [hck, hnum]
      try simp (disch := first | omega | with_unfolding_all exact id rfl | with_unfolding_all exact Nat.le_of_ble_eq_true rfl | (simp only [Jd, Je, Jr, Js, Jt, Nat.reduceAdd, allOne, oneCell, Bool.and_self, Jc]; first | done | omega)) only [↓Qa, ↓Qb, Qd, Qe, Qf, Qg, Qh, Qi, Qj, Qk, Ql, Qm, Qn, Qo, Qp, Qq, Qr, Qs, Qt, Qu, Qv, Qw, Qx, Qy, ptrTo, Qz, QA, QB, QC, QD, QE, QF, QG, QH, QI, QJ, QK, QL, QM, QN, QO, QP, QQ, QR, QS, QT, QU, QV, QW, QX, QY, QZ, Ja, Jb, Jc, Jd, Je, Jf, Jg, Jh, Ji, Jj, Jk, Jl, Jm, Jn, Jo, Jp, Jq, Jr, Js, Jt, Nat.reduceAdd]
      rw [join_e]; try simp (disch := first | omega | with_unfolding_all exact id rfl | with_unfolding_all exact Nat.le_of_ble_eq_true rfl | (simp only [Jd, Je, Jr, Js, Jt, Nat.reduceAdd, allOne, oneCell, Bool.and_self, Jc]; first | done | omega)) only [↓Qa, ↓Qb, Qd, Qe, Qf, Qg, Qh, Qi, Qj, Qk, Ql, Qm, Qn, Qo, Qp, Qq, Qr, Qs, Qt, Qu, Qv, Qw, Qx, Qy, ptrTo, Qz, QA, QB, QC, QD, QE, QF, QG, QH, QI, QJ, QK, QL, QM, QN, QO, QP, QQ, QR, QS, QT, QU, QV, QW, QX, QY, QZ, Ja, Jb, Jc, Jd, Je, Jf, Jg, Jh, Ji, Jj, Jk, Jl, Jm, Jn, Jo, Jp, Jq, Jr, Js, Jt, Nat.reduceAdd]
      rw [join_e]; try simp (disch := first | omega | with_unfolding_all exact id rfl | with_unfolding_all exact Nat.le_of_ble_eq_true rfl | (simp only [Jd, Je, Jr, Js, Jt, Nat.reduceAdd, allOne, oneCell, Bool.and_self, Jc]; first | done | omega)) only [↓Qa, ↓Qb, Qd, Qe, Qf, Qg, Qh, Qi, Qj, Qk, Ql, Qm, Qn, Qo, Qp, Qq, Qr, Qs, Qt, Qu, Qv, Qw, Qx, Qy, ptrTo, Qz, QA, QB, QC, QD, QE, QF, QG, QH, QI, QJ, QK, QL, QM, QN, QO, QP, QQ, QR, QS, QT, QU, QV, QW, QX, QY, QZ, Ja, Jb, Jc, Jd, Je, Jf, Jg, Jh, Ji, Jj, Jk, Jl, Jm, Jn, Jo, Jp, Jq, Jr, Js, Jt, Nat.reduceAdd]
      rw [join_e]
      refine valid_sp hlf hv hbl hN ?_
      try simp (disch := first | omega | with_unfolding_all exact id rfl | with_unfolding_all exact Nat.le_of_ble_eq_true rfl | (simp only [Jd, Je, Jr, Js, Jt, Nat.reduceAdd, allOne, oneCell, Bool.and_self, Jc]; first | done | omega)) only [hv.ln, ↓Qa, ↓Qb, Qd, Qe, Qf, Qg, Qh, Qi, Qj, Qk, Ql, Qm, Qn, Qo, Qp, Qq, Qr, Qs, Qt, Qu, Qv, Qw, Qx, Qy, ptrTo, Qz, QA, QB, QC, QD, QE, QF, QG, QH, QI, QJ, QK, QL, QM, QN, QO, QP, QQ, QR, QS, QT, QU, QV, QW, QX, QY, QZ, Ja, Jb, Jc, Jd, Je, Jf, Jg, Jh, Ji, Jj, Jk, Jl, Jm, Jn, Jo, Jp, Jq, Jr, Js, Jt, Nat.reduceAdd]
      have hsl : ∀ j, setN (l.take j) < 1024 := fun j => setN_lt fun x hx => by have := hbl.lt x (List.mem_of_mem_take hx); omega
      refine loop_up l.length (fun j vs m' => vs = [.int .u16 (setN (l.take j) : Int), .int .i64 (j : Int)] ∧ m' = m6) (by omega) ⟨rfl, rfl⟩ ?_
      rintro j vs m7 hj ⟨rfl, rfl⟩ self2 hself2
      rw [uc_e, uc_e, oInt_lss]
      refine oIf_dec (fun h2 => ?_) (fun h2 => ?_)
      · have hjl : j < l.length := by omega
        have hx := hbl.lt l[j] (List.getElem_mem hjl)
        have hp2 : 2 ^ l[j] < 2 ^ 10 := Nat.pow_lt_pow_right (by decide) (by omega)
        have f6 : ∀ K : Value → Option Unit, oInt .add .i64 (.int .i64 (j : Int)) (.int .i64 1) K = K (.int .i64 ((j + 1 : Nat) : Int)) := fun K => by rw [oInt_add ⟨by omega, by omega⟩]; rfl
        rw [hv.ia hjl, oOpt_e, hv.ld hjl, oOpt_e, shl16 _ (by omega), oOpt_e, or16 (by have := hsl j; omega) (by omega), f6]
        refine hself2 hjl _ _ ⟨?_, rfl⟩
        rw [List.take_add_one, List.getElem?_eq_getElem hjl]
        show _ = [Value.int .u16 (setN (l.take j ++ [l[j]]) : Int), _]
        rw [setN_snoc]
      · have : j = l.length := by omega
        subst this
        rw [List.take_length]
        have n6 := e6.next
        have p6 : m7.rd mb = some ⟨0, [], some (entsI .u16 (entD ((rnd N q).take i)))⟩ := (e6.kept mb (by omega)).trans p5
        have hLb : L ≤ mb := by omega
        rw [look16 p6 hnew, oOpt_e, oIf_f, upd16 hLb p6 hnew, oRes_e]
        have e8 : GtX (fun x => x = mb) m3 (m7.put mb (some ⟨0, [], some (entsI .u16 (entD ((rnd N q).take i ++ [l])))⟩)) := GtX.put (X := fun x => x = mb) (e5.trans (GtX.of e6)) rfl _
        have p8 : (m7.put mb (some ⟨0, [], some (entsI .u16 (entD ((rnd N q).take i ++ [l])))⟩)).rd mb = _ := Mem.rd_put_eq _ _ (by omega)
        have k8 : ∀ c, c ≠ mb → (m7.put mb (some ⟨0, [], some (entsI .u16 (entD ((rnd N q).take i ++ [l])))⟩)).rd c = m7.rd c := fun c hc => Mem.rd_put _ _ _ _ (fun e => hc e.symm)
        have n8 : (m7.put mb (some ⟨0, [], some (entsI .u16 (entD ((rnd N q).take i ++ [l])))⟩)).next = m7.next := rfl
        generalize m7.put mb (some ⟨0, [], some (entsI .u16 (entD ((rnd N q).take i ++ [l])))⟩) = m8 at e8 p8 k8 n8 ⊢
        have hu8 : DG (mb + 1) m8 u ((rnd N q).take i) := (hu.mono e6).keep (fun c hc _ => k8 c (by omega)) (by omega)
        have hv8 : IN m8 v l := hv.keep fun c hc => k8 c (by have := hvb c hc; omega)
        have G8 : Gt m2 m8 := GtX.gt g3 e8 (by rintro c rfl; omega)
        obtain ⟨x, m9, a1, a2, a3, a4, a5⟩ := DG.snoc (P := Try.prog) (t := 37) (L := L) (m0 := m2) ael37 (by decide) hu8 hv8 hvo (fun c hc => by have := hvb c hc; omega) (fun c hc hc2 => by have := hvb c hc; have := hu.fr c hc2; omega) (by rw [List.length_take]; omega) (by omega) G8 (by omega)
        obtain ⟨pv, cv, ev⟩ := hv8.ex
        have hbs : bs Try.prog m8 37 1 [(0, v)] = some (slTo 1 m8.next, m8.push ⟨1, [v], none⟩) := by rw [ev]; exact bs37 _ _ _ _
        have f6 : ∀ K : Value → Option Unit, oInt .add .i64 (.int .i64 (i : Int)) (.int .i64 1) K = K (.int .i64 ((i + 1 : Nat) : Int)) := fun K => by rw [oInt_add ⟨by omega, by omega⟩]; rfl
        rw [hbs, oRes_e, a1, oRes_e, f6]
        refine hself hiM _ _ ⟨x, rfl, ⟨by omega, fun c hc hx => ?_⟩, by rw [htk]; exact a2, ?_⟩
        · rw [a3.kept c (by have : c ≠ mb := hx; omega), g3.kept c (by have : c ≠ mb := hx; omega)]
        · rw [htk, a5 mb (by omega) (fun hc => by have := hu8.fr mb hc; omega)]
          exact p8
    · have : i = chs N q := by omega
      subst this
      rw [← hlenR, List.take_length] at hu
      have G2 : Gt m m2 := GtX.gt e1 e2 (by rintro c rfl; omega)
      have G5 : Gt m m5 := GtX.gt (G2.trans g3) e5 (by rintro c rfl; omega)
      have nG := G5.next
      have sub1 : ∀ {x : Nat} (K : Value → Option Unit), 1 ≤ x → x < 100000 → oInt .sub .i64 (.int .i64 (x : Int)) (.int .i64 1) K = K (.int .i64 ((x - 1 : Nat) : Int)) := fun {x} K h1 h2 => by
        rw [oInt_sub ⟨by omega, by omega⟩, show (x : Int) - 1 = ((x - 1 : Nat) : Int) by omega]
      have add1 : ∀ {x : Nat} (K : Value → Option Unit), x < 100000 → oInt .add .i64 (.int .i64 (x : Int)) (.int .i64 1) K = K (.int .i64 ((x + 1 : Nat) : Int)) := fun {x} K h2 => by
        rw [oInt_add ⟨by omega, by omega⟩]; rfl
      have hget : ∀ {j : Nat} (hj : j < (rnd N q).length), (rnd N q).getD j [] = (rnd N q)[j] := fun {j} hj => by rw [List.getD_eq_getElem?_getD, List.getElem?_eq_getElem hj]; rfl
      try simp (disch := first | omega | with_unfolding_all exact id rfl | with_unfolding_all exact Nat.le_of_ble_eq_true rfl | (simp only [Jd, Je, Jr, Js, Jt, Nat.reduceAdd, allOne, oneCell, Bool.and_self, Jc]; first | done | omega)) only [hu.ll.ln, ↓Qa, ↓Qb, Qd, Qe, Qf, Qg, Qh, Qi, Qj, Qk, Ql, Qm, Qn, Qo, Qp, Qq, Qr, Qs, Qt, Qu, Qv, Qw, Qx, Qy, ptrTo, Qz, QA, QB, QC, QD, QE, QF, QG, QH, QI, QJ, QK, QL, QM, QN, QO, QP, QQ, QR, QS, QT, QU, QV, QW, QX, QY, QZ, Ja, Jb, Jc, Jd, Je, Jf, Jg, Jh, Ji, Jj, Jk, Jl, Jm, Jn, Jo, Jp, Jq, Jr, Js, Jt, Nat.reduceAdd]
      refine loop_up (rnd N q).length (fun i vs m' => vs = [.int .i64 (i : Int)] ∧ Gt m5 m') (by omega) ⟨rfl, Gt.refl _⟩ ?_
      rintro i vs m6 hi2 ⟨rfl, e6⟩ self2 hself2
      have n6 := e6.next
      have hu6 := hu.mono e6
      rw [uc_e, oInt_lss]
      refine oIf_dec (fun h2 => ?_) (fun h2 => ?_)
      · have hil : i < (rnd N q).length := by omega
        have hjm : (i + 1) % chs N q < chs N q := Nat.mod_lt _ (by omega)
        have hjl : (i + 1) % chs N q < (rnd N q).length := by omega
        obtain ⟨v, d1, d2, d3⟩ := hu6.ld hil
        obtain ⟨w, d4, d5, d6⟩ := hu6.ld hjl
        have a1 := hu6.ll.ia hil
        have a2 := hu6.ll.ia hjl
        rw [join_e, a1, oOpt_e, d1, oOpt_e, add1 _ (by omega), oInt_remN (by omega), a2, oOpt_e, d4, oOpt_e]
        have hbl := rnd_bl N q hq _ (List.getElem_mem hil)
        have hbl2 := rnd_bl N q hq _ (List.getElem_mem hjl)
        obtain ⟨_, q2⟩ := rnd_at hN hq (show i < chs N q by omega)
        obtain ⟨q3, _⟩ := rnd_at hN hq hjm
        rw [hget hil] at q2
        rw [hget hjl] at q3
        have haw : chs N q ≠ 1 → awayN (rnd N q)[i] (rnd N q)[(i + 1) % chs N q] = 1 := fun hM => by
          have := door_next hN hq hM (show i < chs N q by omega)
          rwa [hget hil, hget hjl] at this
        generalize (rnd N q)[i] = l at d2 hbl q2 haw
        generalize (rnd N q)[(i + 1) % chs N q] = l2 at d5 hbl2 q3 haw
        have hll := hbl.len
        have hll2 := hbl2.len
        have hck := chkB_ok hN1 hN hbl
        refine next23_sp hlf (l := ci l) (by omega) d2 d3 (by rw [ci_length]; omega) fun z m7 e7 hz => ?_
        have hv7 := d2.mono e7
        have hw7 := d5.mono e7
        by_cases hM : chs N q = 1
        · have hE : nxtE (N : Int) (ci l) = 12 := by unfold nxtE; rw [if_pos hck, ci_length, hll, Int.toNat_natCast, if_pos hM]
          have hE' : ¬ nxtE (N : Int) (ci l) = 0 := by rw [hE]; decide
          rw [show nxtL (N : Int) (ci l) = [] from if_neg hE'] at hz
          rw [show nxtO (N : Int) (ci l) = 0 from if_neg hE', show nxtI (N : Int) (ci l) = 0 from if_neg hE', hE]
          have z1 : Vit.ln z = some (.int .i64 0) := hz.ln
          have dM : decide ((chs N q : Int) = 1) = true := decide_eq_true (by omega)
          have d0 : decide ((0 : Int) < 0) = false := by decide
          have d12 : decide ((12 : Int) = 12) = true := by decide
          try simp (disch := first | omega | with_unfolding_all exact id rfl | with_unfolding_all exact Nat.le_of_ble_eq_true rfl | (simp only [Jd, Je, Jr, Js, Jt, Nat.reduceAdd, allOne, oneCell, Bool.and_self, Jc]; first | done | omega)) only [z1, dM, d0, d12, ↓Qa, ↓Qb, Qd, Qe, Qf, Qg, Qh, Qi, Qj, Qk, Ql, Qm, Qn, Qo, Qp, Qq, Qr, Qs, Qt, Qu, Qv, Qw, Qx, Qy, ptrTo, Qz, QA, QB, QC, QD, QE, QF, QG, QH, QI, QJ, QK, QL, QM, QN, QO, QP, QQ, QR, QS, QT, QU, QV, QW, QX, QY, QZ, Ja, Jb, Jc, Jd, Je, Jf, Jg, Jh, Ji, Jj, Jk, Jl, Jm, Jn, Jo, Jp, Jq, Jr, Js, Jt, Nat.reduceAdd]
          repeat (rw [join_e]; try simp (disch := first | omega | with_unfolding_all exact id rfl | with_unfolding_all exact Nat.le_of_ble_eq_true rfl | (simp only [Jd, Je, Jr, Js, Jt, Nat.reduceAdd, allOne, oneCell, Bool.and_self, Jc]; first | done | omega)) only [z1, dM, d0, d12, ↓Qa, ↓Qb, Qd, Qe, Qf, Qg, Qh, Qi, Qj, Qk, Ql, Qm, Qn, Qo, Qp, Qq, Qr, Qs, Qt, Qu, Qv, Qw, Qx, Qy, ptrTo, Qz, QA, QB, QC, QD, QE, QF, QG, QH, QI, QJ, QK, QL, QM, QN, QO, QP, QQ, QR, QS, QT, QU, QV, QW, QX, QY, QZ, Ja, Jb, Jc, Jd, Je, Jf, Jg, Jh, Ji, Jj, Jk, Jl, Jm, Jn, Jo, Jp, Jq, Jr, Js, Jt, Nat.reduceAdd])
          rw [add1 _ (by omega)]
          exact hself2 hil _ _ ⟨rfl, e6.trans e7⟩
        · have hE : nxtE (N : Int) (ci l) = 0 := by unfold nxtE; rw [if_pos hck, ci_length, hll, Int.toNat_natCast, if_neg hM]
          obtain ⟨i', hi', r1, r2, r3, r4, ⟨o, t, r5⟩, ⟨o2, t2, r6⟩⟩ := nx_ok (l := l) hN (hll ▸ hbl) (by rw [hll]; exact hM)
          rw [hll] at r1 r2
          have : i' = i := by rw [q2] at r1; exact (Int.ofNat.inj r1).symm
          subst this
          rw [q3] at r2
          have hnl : nxtL (N : Int) (ci l) = l2 := by unfold nxtL; rw [if_pos hE, nni_ci, Int.toNat_natCast]; exact r2
          rw [r2] at r5 r6
          have hno : nxtO (N : Int) (ci l) = (o : Int) := by unfold nxtO; rw [if_pos hE, nni_ci, hnl]; unfold misI; rw [r5]; rfl
          have hni : nxtI (N : Int) (ci l) = (o2 : Int) := by unfold nxtI; rw [if_pos hE, nni_ci, hnl]; unfold misI; rw [r6]; rfl
          have ho := mem_less.1 (show o ∈ less l l2 by rw [r5]; exact List.mem_cons_self)
          have ho2 := mem_less.1 (show o2 ∈ less l2 l by rw [r6]; exact List.mem_cons_self)
          rw [hnl] at hz
          rw [hno, hni, hE]
          have dM : decide ((chs N q : Int) = 1) = false := decide_eq_false (by omega)
          try simp (disch := first | omega | with_unfolding_all exact id rfl | with_unfolding_all exact Nat.le_of_ble_eq_true rfl | (simp only [Jd, Je, Jr, Js, Jt, Nat.reduceAdd, allOne, oneCell, Bool.and_self, Jc]; first | done | omega)) only [dM, ↓Qa, ↓Qb, Qd, Qe, Qf, Qg, Qh, Qi, Qj, Qk, Ql, Qm, Qn, Qo, Qp, Qq, Qr, Qs, Qt, Qu, Qv, Qw, Qx, Qy, ptrTo, Qz, QA, QB, QC, QD, QE, QF, QG, QH, QI, QJ, QK, QL, QM, QN, QO, QP, QQ, QR, QS, QT, QU, QV, QW, QX, QY, QZ, Ja, Jb, Jc, Jd, Je, Jf, Jg, Jh, Ji, Jj, Jk, Jl, Jm, Jn, Jo, Jp, Jq, Jr, Js, Jt, Nat.reduceAdd]
          rw [join_e]; try simp (disch := first | omega | with_unfolding_all exact id rfl | with_unfolding_all exact Nat.le_of_ble_eq_true rfl | (simp only [Jd, Je, Jr, Js, Jt, Nat.reduceAdd, allOne, oneCell, Bool.and_self, Jc]; first | done | omega)) only [↓Qa, ↓Qb, Qd, Qe, Qf, Qg, Qh, Qi, Qj, Qk, Ql, Qm, Qn, Qo, Qp, Qq, Qr, Qs, Qt, Qu, Qv, Qw, Qx, Qy, ptrTo, Qz, QA, QB, QC, QD, QE, QF, QG, QH, QI, QJ, QK, QL, QM, QN, QO, QP, QQ, QR, QS, QT, QU, QV, QW, QX, QY, QZ, Ja, Jb, Jc, Jd, Je, Jf, Jg, Jh, Ji, Jj, Jk, Jl, Jm, Jn, Jo, Jp, Jq, Jr, Js, Jt, Nat.reduceAdd]
          refine same_sp hlf hz hw7 (by rw [ci_length]; omega) ?_
          try simp (disch := first | omega | with_unfolding_all exact id rfl | with_unfolding_all exact Nat.le_of_ble_eq_true rfl | (simp only [Jd, Je, Jr, Js, Jt, Nat.reduceAdd, allOne, oneCell, Bool.and_self, Jc]; first | done | omega)) only [↓Qa, ↓Qb, Qd, Qe, Qf, Qg, Qh, Qi, Qj, Qk, Ql, Qm, Qn, Qo, Qp, Qq, Qr, Qs, Qt, Qu, Qv, Qw, Qx, Qy, ptrTo, Qz, QA, QB, QC, QD, QE, QF, QG, QH, QI, QJ, QK, QL, QM, QN, QO, QP, QQ, QR, QS, QT, QU, QV, QW, QX, QY, QZ, Ja, Jb, Jc, Jd, Je, Jf, Jg, Jh, Ji, Jj, Jk, Jl, Jm, Jn, Jo, Jp, Jq, Jr, Js, Jt, Nat.reduceAdd]
          rw [join_e]; try simp (disch := first | omega | with_unfolding_all exact id rfl | with_unfolding_all exact Nat.le_of_ble_eq_true rfl | (simp only [Jd, Je, Jr, Js, Jt, Nat.reduceAdd, allOne, oneCell, Bool.and_self, Jc]; first | done | omega)) only [↓Qa, ↓Qb, Qd, Qe, Qf, Qg, Qh, Qi, Qj, Qk, Ql, Qm, Qn, Qo, Qp, Qq, Qr, Qs, Qt, Qu, Qv, Qw, Qx, Qy, ptrTo, Qz, QA, QB, QC, QD, QE, QF, QG, QH, QI, QJ, QK, QL, QM, QN, QO, QP, QQ, QR, QS, QT, QU, QV, QW, QX, QY, QZ, Ja, Jb, Jc, Jd, Je, Jf, Jg, Jh, Ji, Jj, Jk, Jl, Jm, Jn, Jo, Jp, Jq, Jr, Js, Jt, Nat.reduceAdd]
          refine apart_sp hlf hv7 hw7 (by omega) (by omega) ?_
          rw [haw hM]
          have d11 : decide (((1 : Nat) : Int) = 1) = true := rfl
          try simp (disch := first | omega | with_unfolding_all exact id rfl | with_unfolding_all exact Nat.le_of_ble_eq_true rfl | (simp only [Jd, Je, Jr, Js, Jt, Nat.reduceAdd, allOne, oneCell, Bool.and_self, Jc]; first | done | omega)) only [d11, ↓Qa, ↓Qb, Qd, Qe, Qf, Qg, Qh, Qi, Qj, Qk, Ql, Qm, Qn, Qo, Qp, Qq, Qr, Qs, Qt, Qu, Qv, Qw, Qx, Qy, ptrTo, Qz, QA, QB, QC, QD, QE, QF, QG, QH, QI, QJ, QK, QL, QM, QN, QO, QP, QQ, QR, QS, QT, QU, QV, QW, QX, QY, QZ, Ja, Jb, Jc, Jd, Je, Jf, Jg, Jh, Ji, Jj, Jk, Jl, Jm, Jn, Jo, Jp, Jq, Jr, Js, Jt, Nat.reduceAdd]
          rw [join_e]; try simp (disch := first | omega | with_unfolding_all exact id rfl | with_unfolding_all exact Nat.le_of_ble_eq_true rfl | (simp only [Jd, Je, Jr, Js, Jt, Nat.reduceAdd, allOne, oneCell, Bool.and_self, Jc]; first | done | omega)) only [↓Qa, ↓Qb, Qd, Qe, Qf, Qg, Qh, Qi, Qj, Qk, Ql, Qm, Qn, Qo, Qp, Qq, Qr, Qs, Qt, Qu, Qv, Qw, Qx, Qy, ptrTo, Qz, QA, QB, QC, QD, QE, QF, QG, QH, QI, QJ, QK, QL, QM, QN, QO, QP, QQ, QR, QS, QT, QU, QV, QW, QX, QY, QZ, Ja, Jb, Jc, Jd, Je, Jf, Jg, Jh, Ji, Jj, Jk, Jl, Jm, Jn, Jo, Jp, Jq, Jr, Js, Jt, Nat.reduceAdd]
          refine contains_sp hlf hv7 (by omega) ?_
          rw [decide_eq_true ho.1]
          try simp (disch := first | omega | with_unfolding_all exact id rfl | with_unfolding_all exact Nat.le_of_ble_eq_true rfl | (simp only [Jd, Je, Jr, Js, Jt, Nat.reduceAdd, allOne, oneCell, Bool.and_self, Jc]; first | done | omega)) only [↓Qa, ↓Qb, Qd, Qe, Qf, Qg, Qh, Qi, Qj, Qk, Ql, Qm, Qn, Qo, Qp, Qq, Qr, Qs, Qt, Qu, Qv, Qw, Qx, Qy, ptrTo, Qz, QA, QB, QC, QD, QE, QF, QG, QH, QI, QJ, QK, QL, QM, QN, QO, QP, QQ, QR, QS, QT, QU, QV, QW, QX, QY, QZ, Ja, Jb, Jc, Jd, Je, Jf, Jg, Jh, Ji, Jj, Jk, Jl, Jm, Jn, Jo, Jp, Jq, Jr, Js, Jt, Nat.reduceAdd]
          rw [join_e]; try simp (disch := first | omega | with_unfolding_all exact id rfl | with_unfolding_all exact Nat.le_of_ble_eq_true rfl | (simp only [Jd, Je, Jr, Js, Jt, Nat.reduceAdd, allOne, oneCell, Bool.and_self, Jc]; first | done | omega)) only [↓Qa, ↓Qb, Qd, Qe, Qf, Qg, Qh, Qi, Qj, Qk, Ql, Qm, Qn, Qo, Qp, Qq, Qr, Qs, Qt, Qu, Qv, Qw, Qx, Qy, ptrTo, Qz, QA, QB, QC, QD, QE, QF, QG, QH, QI, QJ, QK, QL, QM, QN, QO, QP, QQ, QR, QS, QT, QU, QV, QW, QX, QY, QZ, Ja, Jb, Jc, Jd, Je, Jf, Jg, Jh, Ji, Jj, Jk, Jl, Jm, Jn, Jo, Jp, Jq, Jr, Js, Jt, Nat.reduceAdd]
          refine contains_sp hlf hw7 (by omega) ?_
          rw [decide_eq_false ho.2]
          try simp (disch := first | omega | with_unfolding_all exact id rfl | with_unfolding_all exact Nat.le_of_ble_eq_true rfl | (simp only [Jd, Je, Jr, Js, Jt, Nat.reduceAdd, allOne, oneCell, Bool.and_self, Jc]; first | done | omega)) only [↓Qa, ↓Qb, Qd, Qe, Qf, Qg, Qh, Qi, Qj, Qk, Ql, Qm, Qn, Qo, Qp, Qq, Qr, Qs, Qt, Qu, Qv, Qw, Qx, Qy, ptrTo, Qz, QA, QB, QC, QD, QE, QF, QG, QH, QI, QJ, QK, QL, QM, QN, QO, QP, QQ, QR, QS, QT, QU, QV, QW, QX, QY, QZ, Ja, Jb, Jc, Jd, Je, Jf, Jg, Jh, Ji, Jj, Jk, Jl, Jm, Jn, Jo, Jp, Jq, Jr, Js, Jt, Nat.reduceAdd]
          rw [join_e]; try simp (disch := first | omega | with_unfolding_all exact id rfl | with_unfolding_all exact Nat.le_of_ble_eq_true rfl | (simp only [Jd, Je, Jr, Js, Jt, Nat.reduceAdd, allOne, oneCell, Bool.and_self, Jc]; first | done | omega)) only [↓Qa, ↓Qb, Qd, Qe, Qf, Qg, Qh, Qi, Qj, Qk, Ql, Qm, Qn, Qo, Qp, Qq, Qr, Qs, Qt, Qu, Qv, Qw, Qx, Qy, ptrTo, Qz, QA, QB, QC, QD, QE, QF, QG, QH, QI, QJ, QK, QL, QM, QN, QO, QP, QQ, QR, QS, QT, QU, QV, QW, QX, QY, QZ, Ja, Jb, Jc, Jd, Je, Jf, Jg, Jh, Ji, Jj, Jk, Jl, Jm, Jn, Jo, Jp, Jq, Jr, Js, Jt, Nat.reduceAdd]
          refine contains_sp hlf hw7 (by omega) ?_
          rw [decide_eq_true ho2.1]
          try simp (disch := first | omega | with_unfolding_all exact id rfl | with_unfolding_all exact Nat.le_of_ble_eq_true rfl | (simp only [Jd, Je, Jr, Js, Jt, Nat.reduceAdd, allOne, oneCell, Bool.and_self, Jc]; first | done | omega)) only [↓Qa, ↓Qb, Qd, Qe, Qf, Qg, Qh, Qi, Qj, Qk, Ql, Qm, Qn, Qo, Qp, Qq, Qr, Qs, Qt, Qu, Qv, Qw, Qx, Qy, ptrTo, Qz, QA, QB, QC, QD, QE, QF, QG, QH, QI, QJ, QK, QL, QM, QN, QO, QP, QQ, QR, QS, QT, QU, QV, QW, QX, QY, QZ, Ja, Jb, Jc, Jd, Je, Jf, Jg, Jh, Ji, Jj, Jk, Jl, Jm, Jn, Jo, Jp, Jq, Jr, Js, Jt, Nat.reduceAdd]
          rw [join_e]; try simp (disch := first | omega | with_unfolding_all exact id rfl | with_unfolding_all exact Nat.le_of_ble_eq_true rfl | (simp only [Jd, Je, Jr, Js, Jt, Nat.reduceAdd, allOne, oneCell, Bool.and_self, Jc]; first | done | omega)) only [↓Qa, ↓Qb, Qd, Qe, Qf, Qg, Qh, Qi, Qj, Qk, Ql, Qm, Qn, Qo, Qp, Qq, Qr, Qs, Qt, Qu, Qv, Qw, Qx, Qy, ptrTo, Qz, QA, QB, QC, QD, QE, QF, QG, QH, QI, QJ, QK, QL, QM, QN, QO, QP, QQ, QR, QS, QT, QU, QV, QW, QX, QY, QZ, Ja, Jb, Jc, Jd, Je, Jf, Jg, Jh, Ji, Jj, Jk, Jl, Jm, Jn, Jo, Jp, Jq, Jr, Js, Jt, Nat.reduceAdd]
          refine contains_sp hlf hv7 (by omega) ?_
          rw [decide_eq_false ho2.2]
          try simp (disch := first | omega | with_unfolding_all exact id rfl | with_unfolding_all exact Nat.le_of_ble_eq_true rfl | (simp only [Jd, Je, Jr, Js, Jt, Nat.reduceAdd, allOne, oneCell, Bool.and_self, Jc]; first | done | omega)) only [↓Qa, ↓Qb, Qd, Qe, Qf, Qg, Qh, Qi, Qj, Qk, Ql, Qm, Qn, Qo, Qp, Qq, Qr, Qs, Qt, Qu, Qv, Qw, Qx, Qy, ptrTo, Qz, QA, QB, QC, QD, QE, QF, QG, QH, QI, QJ, QK, QL, QM, QN, QO, QP, QQ, QR, QS, QT, QU, QV, QW, QX, QY, QZ, Ja, Jb, Jc, Jd, Je, Jf, Jg, Jh, Ji, Jj, Jk, Jl, Jm, Jn, Jo, Jp, Jq, Jr, Js, Jt, Nat.reduceAdd]
          rw [add1 _ (by omega)]
          exact hself2 hil _ _ ⟨rfl, e6.trans e7⟩
      · have : i = (rnd N q).length := by omega
        subst this
        have G6 := G5.trans e6
        by_cases hz : q = 0
        · have dz : decide ((q : Int) = 0) = true := decide_eq_true (by omega)
          try simp (disch := first | omega | with_unfolding_all exact id rfl | with_unfolding_all exact Nat.le_of_ble_eq_true rfl | (simp only [Jd, Je, Jr, Js, Jt, Nat.reduceAdd, allOne, oneCell, Bool.and_self, Jc]; first | done | omega)) only [dz, ↓Qa, ↓Qb, Qd, Qe, Qf, Qg, Qh, Qi, Qj, Qk, Ql, Qm, Qn, Qo, Qp, Qq, Qr, Qs, Qt, Qu, Qv, Qw, Qx, Qy, ptrTo, Qz, QA, QB, QC, QD, QE, QF, QG, QH, QI, QJ, QK, QL, QM, QN, QO, QP, QQ, QR, QS, QT, QU, QV, QW, QX, QY, QZ, Ja, Jb, Jc, Jd, Je, Jf, Jg, Jh, Ji, Jj, Jk, Jl, Jm, Jn, Jo, Jp, Jq, Jr, Js, Jt, Nat.reduceAdd]
          repeat (rw [join_e]; try simp (disch := first | omega | with_unfolding_all exact id rfl | with_unfolding_all exact Nat.le_of_ble_eq_true rfl | (simp only [Jd, Je, Jr, Js, Jt, Nat.reduceAdd, allOne, oneCell, Bool.and_self, Jc]; first | done | omega)) only [dz, ↓Qa, ↓Qb, Qd, Qe, Qf, Qg, Qh, Qi, Qj, Qk, Ql, Qm, Qn, Qo, Qp, Qq, Qr, Qs, Qt, Qu, Qv, Qw, Qx, Qy, ptrTo, Qz, QA, QB, QC, QD, QE, QF, QG, QH, QI, QJ, QK, QL, QM, QN, QO, QP, QQ, QR, QS, QT, QU, QV, QW, QX, QY, QZ, Ja, Jb, Jc, Jd, Je, Jf, Jg, Jh, Ji, Jj, Jk, Jl, Jm, Jn, Jo, Jp, Jq, Jr, Js, Jt, Nat.reduceAdd])
          exact works_sp (hT.mono G6) (hk _)
        have dz : decide ((q : Int) = 0) = false := decide_eq_false (by omega)
        by_cases hqN : q = N
        · have dq : decide ((q : Int) = (N : Int)) = true := decide_eq_true (by omega)
          try simp (disch := first | omega | with_unfolding_all exact id rfl | with_unfolding_all exact Nat.le_of_ble_eq_true rfl | (simp only [Jd, Je, Jr, Js, Jt, Nat.reduceAdd, allOne, oneCell, Bool.and_self, Jc]; first | done | omega)) only [dz, dq, ↓Qa, ↓Qb, Qd, Qe, Qf, Qg, Qh, Qi, Qj, Qk, Ql, Qm, Qn, Qo, Qp, Qq, Qr, Qs, Qt, Qu, Qv, Qw, Qx, Qy, ptrTo, Qz, QA, QB, QC, QD, QE, QF, QG, QH, QI, QJ, QK, QL, QM, QN, QO, QP, QQ, QR, QS, QT, QU, QV, QW, QX, QY, QZ, Ja, Jb, Jc, Jd, Je, Jf, Jg, Jh, Ji, Jj, Jk, Jl, Jm, Jn, Jo, Jp, Jq, Jr, Js, Jt, Nat.reduceAdd]
          repeat (rw [join_e]; try simp (disch := first | omega | with_unfolding_all exact id rfl | with_unfolding_all exact Nat.le_of_ble_eq_true rfl | (simp only [Jd, Je, Jr, Js, Jt, Nat.reduceAdd, allOne, oneCell, Bool.and_self, Jc]; first | done | omega)) only [dz, dq, ↓Qa, ↓Qb, Qd, Qe, Qf, Qg, Qh, Qi, Qj, Qk, Ql, Qm, Qn, Qo, Qp, Qq, Qr, Qs, Qt, Qu, Qv, Qw, Qx, Qy, ptrTo, Qz, QA, QB, QC, QD, QE, QF, QG, QH, QI, QJ, QK, QL, QM, QN, QO, QP, QQ, QR, QS, QT, QU, QV, QW, QX, QY, QZ, Ja, Jb, Jc, Jd, Je, Jf, Jg, Jh, Ji, Jj, Jk, Jl, Jm, Jn, Jo, Jp, Jq, Jr, Js, Jt, Nat.reduceAdd])
          exact works_sp (hT.mono G6) (hk _)
        have dq : decide ((q : Int) = (N : Int)) = false := decide_eq_false (by omega)
        have hfew := chs_mono N (by omega) (N - 1) (by omega) q (by omega)
        have hsz2 : szE ((N - 1 : Nat) : Int) (q : Int) = 0 := if_pos ⟨⟨by omega, by omega⟩, by omega, by omega⟩
        have hcnt2 : cntX ((N - 1 : Nat) : Int) (q : Int) = (chs (N - 1) q : Int) := by unfold cntX; rw [if_pos hsz2]; rfl
        try simp (disch := first | omega | with_unfolding_all exact id rfl | with_unfolding_all exact Nat.le_of_ble_eq_true rfl | (simp only [Jd, Je, Jr, Js, Jt, Nat.reduceAdd, allOne, oneCell, Bool.and_self, Jc]; first | done | omega)) only [dz, dq, ↓Qa, ↓Qb, Qd, Qe, Qf, Qg, Qh, Qi, Qj, Qk, Ql, Qm, Qn, Qo, Qp, Qq, Qr, Qs, Qt, Qu, Qv, Qw, Qx, Qy, ptrTo, Qz, QA, QB, QC, QD, QE, QF, QG, QH, QI, QJ, QK, QL, QM, QN, QO, QP, QQ, QR, QS, QT, QU, QV, QW, QX, QY, QZ, Ja, Jb, Jc, Jd, Je, Jf, Jg, Jh, Ji, Jj, Jk, Jl, Jm, Jn, Jo, Jp, Jq, Jr, Js, Jt, Nat.reduceAdd]
        rw [join_e]; try simp (disch := first | omega | with_unfolding_all exact id rfl | with_unfolding_all exact Nat.le_of_ble_eq_true rfl | (simp only [Jd, Je, Jr, Js, Jt, Nat.reduceAdd, allOne, oneCell, Bool.and_self, Jc]; first | done | omega)) only [dz, dq, ↓Qa, ↓Qb, Qd, Qe, Qf, Qg, Qh, Qi, Qj, Qk, Ql, Qm, Qn, Qo, Qp, Qq, Qr, Qs, Qt, Qu, Qv, Qw, Qx, Qy, ptrTo, Qz, QA, QB, QC, QD, QE, QF, QG, QH, QI, QJ, QK, QL, QM, QN, QO, QP, QQ, QR, QS, QT, QU, QV, QW, QX, QY, QZ, Ja, Jb, Jc, Jd, Je, Jf, Jg, Jh, Ji, Jj, Jk, Jl, Jm, Jn, Jo, Jp, Jq, Jr, Js, Jt, Nat.reduceAdd]
        rw [sub1 _ hN1 (by omega)]
        refine count_sp hlf ?_
        rw [hcnt2, hsz2]
        have df : decide ((chs N q : Int) < (chs (N - 1) q : Int)) = false := decide_eq_false (by omega)
        try simp (disch := first | omega | with_unfolding_all exact id rfl | with_unfolding_all exact Nat.le_of_ble_eq_true rfl | (simp only [Jd, Je, Jr, Js, Jt, Nat.reduceAdd, allOne, oneCell, Bool.and_self, Jc]; first | done | omega)) only [df, ↓Qa, ↓Qb, Qd, Qe, Qf, Qg, Qh, Qi, Qj, Qk, Ql, Qm, Qn, Qo, Qp, Qq, Qr, Qs, Qt, Qu, Qv, Qw, Qx, Qy, ptrTo, Qz, QA, QB, QC, QD, QE, QF, QG, QH, QI, QJ, QK, QL, QM, QN, QO, QP, QQ, QR, QS, QT, QU, QV, QW, QX, QY, QZ, Ja, Jb, Jc, Jd, Je, Jf, Jg, Jh, Ji, Jj, Jk, Jl, Jm, Jn, Jo, Jp, Jq, Jr, Js, Jt, Nat.reduceAdd]
        rw [join_e]; try simp (disch := first | omega | with_unfolding_all exact id rfl | with_unfolding_all exact Nat.le_of_ble_eq_true rfl | (simp only [Jd, Je, Jr, Js, Jt, Nat.reduceAdd, allOne, oneCell, Bool.and_self, Jc]; first | done | omega)) only [df, hu6.ll.ln, ↓Qa, ↓Qb, Qd, Qe, Qf, Qg, Qh, Qi, Qj, Qk, Ql, Qm, Qn, Qo, Qp, Qq, Qr, Qs, Qt, Qu, Qv, Qw, Qx, Qy, ptrTo, Qz, QA, QB, QC, QD, QE, QF, QG, QH, QI, QJ, QK, QL, QM, QN, QO, QP, QQ, QR, QS, QT, QU, QV, QW, QX, QY, QZ, Ja, Jb, Jc, Jd, Je, Jf, Jg, Jh, Ji, Jj, Jk, Jl, Jm, Jn, Jo, Jp, Jq, Jr, Js, Jt, Nat.reduceAdd]
        refine loop_up (rnd N q).length (fun i vs m' => vs = [.int .i64 (i : Int)] ∧ Gt m5 m') (by omega) ⟨rfl, e6⟩ ?_
        rintro i vs m7 hi3 ⟨rfl, e7⟩ self3 hself3
        have n7 := e7.next
        have hu7 := hu.mono e7
        rw [uc_e, oInt_lss]
        refine oIf_dec (fun h3 => ?_) (fun h3 => ?_)
        · have hil : i < (rnd N q).length := by omega
          obtain ⟨v, d1, d2, d3⟩ := hu7.ld hil
          have a1 := hu7.ll.ia hil
          rw [a1, oOpt_e, d1, oOpt_e, sub1 _ hN1 (by omega)]
          have hbl := rnd_bl N q hq _ (List.getElem_mem hil)
          obtain ⟨q1, _⟩ := rnd_at hN hq (show i < chs N q by omega)
          obtain ⟨b1, b2⟩ := rest_at hN (by omega) (by omega) (show i < chs N q by omega)
          rw [hget hil] at q1 b1 b2
          generalize (rnd N q)[i] = l at d2 hbl q1 b1 b2
          have hll := hbl.len
          refine contains_sp hlf d2 (by omega) ?_
          have hab : ∀ x : Bool, abin Try.prog .neq 4 (.bool x) (.bool x) = some (.bool false) := fun x => by cases x <;> kernel_rfl
          by_cases hw : chs (N - 1) q ≤ i
          · obtain ⟨b3, b4⟩ := b2 hw
            rw [decide_eq_true (b1.2 hw), oInt_geq, decide_eq_true (show (chs (N - 1) q : Int) ≤ (i : Int) by omega), hab, oOpt_e, oIf_f, join_e, oIf_t, sub1 _ (by omega) (by omega)]
            obtain ⟨u2, k1, k2, k3⟩ := Opn.pre u22 ts3 d3 d2 (k := q - 1) (by omega) (by omega)
            rw [k1, oOpt_e, sub1 _ (by omega) (by omega), show ((chs N q - 1 : Nat) : Int) = ((chs N q - 1 : Nat) : Int) from rfl, oInt_sub ⟨by omega, by omega⟩, show ((chs N q - 1 : Nat) : Int) - (i : Int) = ((chs N q - 1 - i : Nat) : Int) by omega]
            try simp (disch := first | omega | with_unfolding_all exact id rfl | with_unfolding_all exact Nat.le_of_ble_eq_true rfl | (simp only [Jd, Je, Jr, Js, Jt, Nat.reduceAdd, allOne, oneCell, Bool.and_self, Jc]; first | done | omega)) only [↓Qa, ↓Qb, Qd, Qe, Qf, Qg, Qh, Qi, Qj, Qk, Ql, Qm, Qn, Qo, Qp, Qq, Qr, Qs, Qt, Qu, Qv, Qw, Qx, Qy, ptrTo, Qz, QA, QB, QC, QD, QE, QF, QG, QH, QI, QJ, QK, QL, QM, QN, QO, QP, QQ, QR, QS, QT, QU, QV, QW, QX, QY, QZ, Ja, Jb, Jc, Jd, Je, Jf, Jg, Jh, Ji, Jj, Jk, Jl, Jm, Jn, Jo, Jp, Jq, Jr, Js, Jt, Nat.reduceAdd]
            rw [sub1 _ (by omega) (by omega)]
            try simp (disch := first | omega | with_unfolding_all exact id rfl | with_unfolding_all exact Nat.le_of_ble_eq_true rfl | (simp only [Jd, Je, Jr, Js, Jt, Nat.reduceAdd, allOne, oneCell, Bool.and_self, Jc]; first | done | omega)) only [↓Qa, ↓Qb, Qd, Qe, Qf, Qg, Qh, Qi, Qj, Qk, Ql, Qm, Qn, Qo, Qp, Qq, Qr, Qs, Qt, Qu, Qv, Qw, Qx, Qy, ptrTo, Qz, QA, QB, QC, QD, QE, QF, QG, QH, QI, QJ, QK, QL, QM, QN, QO, QP, QQ, QR, QS, QT, QU, QV, QW, QX, QY, QZ, Ja, Jb, Jc, Jd, Je, Jf, Jg, Jh, Ji, Jj, Jk, Jl, Jm, Jn, Jo, Jp, Jq, Jr, Js, Jt, Nat.reduceAdd]
            rw [sub1 _ hN1 (by omega)]
            refine nth20o_sp hlf (by omega) (by omega) (by omega) (by omega) b3 fun o m8 e8 ho _ _ => ?_
            rw [b4] at ho
            try simp (disch := first | omega | with_unfolding_all exact id rfl | with_unfolding_all exact Nat.le_of_ble_eq_true rfl | (simp only [Jd, Je, Jr, Js, Jt, Nat.reduceAdd, allOne, oneCell, Bool.and_self, Jc]; first | done | omega)) only [↓Qa, ↓Qb, Qd, Qe, Qf, Qg, Qh, Qi, Qj, Qk, Ql, Qm, Qn, Qo, Qp, Qq, Qr, Qs, Qt, Qu, Qv, Qw, Qx, Qy, ptrTo, Qz, QA, QB, QC, QD, QE, QF, QG, QH, QI, QJ, QK, QL, QM, QN, QO, QP, QQ, QR, QS, QT, QU, QV, QW, QX, QY, QZ, Ja, Jb, Jc, Jd, Je, Jf, Jg, Jh, Ji, Jj, Jk, Jl, Jm, Jn, Jo, Jp, Jq, Jr, Js, Jt, Nat.reduceAdd]
            rw [join_e]; try simp (disch := first | omega | with_unfolding_all exact id rfl | with_unfolding_all exact Nat.le_of_ble_eq_true rfl | (simp only [Jd, Je, Jr, Js, Jt, Nat.reduceAdd, allOne, oneCell, Bool.and_self, Jc]; first | done | omega)) only [↓Qa, ↓Qb, Qd, Qe, Qf, Qg, Qh, Qi, Qj, Qk, Ql, Qm, Qn, Qo, Qp, Qq, Qr, Qs, Qt, Qu, Qv, Qw, Qx, Qy, ptrTo, Qz, QA, QB, QC, QD, QE, QF, QG, QH, QI, QJ, QK, QL, QM, QN, QO, QP, QQ, QR, QS, QT, QU, QV, QW, QX, QY, QZ, Ja, Jb, Jc, Jd, Je, Jf, Jg, Jh, Ji, Jj, Jk, Jl, Jm, Jn, Jo, Jp, Jq, Jr, Js, Jt, Nat.reduceAdd]
            refine same_sp hlf ho (k3.mono e8) (by rw [ci_length, List.length_take]; omega) ?_
            try simp (disch := first | omega | with_unfolding_all exact id rfl | with_unfolding_all exact Nat.le_of_ble_eq_true rfl | (simp only [Jd, Je, Jr, Js, Jt, Nat.reduceAdd, allOne, oneCell, Bool.and_self, Jc]; first | done | omega)) only [↓Qa, ↓Qb, Qd, Qe, Qf, Qg, Qh, Qi, Qj, Qk, Ql, Qm, Qn, Qo, Qp, Qq, Qr, Qs, Qt, Qu, Qv, Qw, Qx, Qy, ptrTo, Qz, QA, QB, QC, QD, QE, QF, QG, QH, QI, QJ, QK, QL, QM, QN, QO, QP, QQ, QR, QS, QT, QU, QV, QW, QX, QY, QZ, Ja, Jb, Jc, Jd, Je, Jf, Jg, Jh, Ji, Jj, Jk, Jl, Jm, Jn, Jo, Jp, Jq, Jr, Js, Jt, Nat.reduceAdd]
            rw [add1 _ (by omega)]
            exact hself3 hil _ _ ⟨rfl, e7.trans e8⟩
          · rw [decide_eq_false (fun hh => hw (b1.1 hh)), oInt_geq, decide_eq_false (show ¬ (chs (N - 1) q : Int) ≤ (i : Int) by omega), hab, oOpt_e, oIf_f, join_e, oIf_f]
            try simp (disch := first | omega | with_unfolding_all exact id rfl | with_unfolding_all exact Nat.le_of_ble_eq_true rfl | (simp only [Jd, Je, Jr, Js, Jt, Nat.reduceAdd, allOne, oneCell, Bool.and_self, Jc]; first | done | omega)) only [↓Qa, ↓Qb, Qd, Qe, Qf, Qg, Qh, Qi, Qj, Qk, Ql, Qm, Qn, Qo, Qp, Qq, Qr, Qs, Qt, Qu, Qv, Qw, Qx, Qy, ptrTo, Qz, QA, QB, QC, QD, QE, QF, QG, QH, QI, QJ, QK, QL, QM, QN, QO, QP, QQ, QR, QS, QT, QU, QV, QW, QX, QY, QZ, Ja, Jb, Jc, Jd, Je, Jf, Jg, Jh, Ji, Jj, Jk, Jl, Jm, Jn, Jo, Jp, Jq, Jr, Js, Jt, Nat.reduceAdd]
            rw [sub1 _ hN1 (by omega)]
            refine nth20o_sp hlf (by omega) (by omega) (by omega) (by omega) (by omega) fun o m8 e8 ho _ _ => ?_
            rw [q1] at ho
            try simp (disch := first | omega | with_unfolding_all exact id rfl | with_unfolding_all exact Nat.le_of_ble_eq_true rfl | (simp only [Jd, Je, Jr, Js, Jt, Nat.reduceAdd, allOne, oneCell, Bool.and_self, Jc]; first | done | omega)) only [↓Qa, ↓Qb, Qd, Qe, Qf, Qg, Qh, Qi, Qj, Qk, Ql, Qm, Qn, Qo, Qp, Qq, Qr, Qs, Qt, Qu, Qv, Qw, Qx, Qy, ptrTo, Qz, QA, QB, QC, QD, QE, QF, QG, QH, QI, QJ, QK, QL, QM, QN, QO, QP, QQ, QR, QS, QT, QU, QV, QW, QX, QY, QZ, Ja, Jb, Jc, Jd, Je, Jf, Jg, Jh, Ji, Jj, Jk, Jl, Jm, Jn, Jo, Jp, Jq, Jr, Js, Jt, Nat.reduceAdd]
            rw [join_e]; try simp (disch := first | omega | with_unfolding_all exact id rfl | with_unfolding_all exact Nat.le_of_ble_eq_true rfl | (simp only [Jd, Je, Jr, Js, Jt, Nat.reduceAdd, allOne, oneCell, Bool.and_self, Jc]; first | done | omega)) only [↓Qa, ↓Qb, Qd, Qe, Qf, Qg, Qh, Qi, Qj, Qk, Ql, Qm, Qn, Qo, Qp, Qq, Qr, Qs, Qt, Qu, Qv, Qw, Qx, Qy, ptrTo, Qz, QA, QB, QC, QD, QE, QF, QG, QH, QI, QJ, QK, QL, QM, QN, QO, QP, QQ, QR, QS, QT, QU, QV, QW, QX, QY, QZ, Ja, Jb, Jc, Jd, Je, Jf, Jg, Jh, Ji, Jj, Jk, Jl, Jm, Jn, Jo, Jp, Jq, Jr, Js, Jt, Nat.reduceAdd]
            refine same_sp hlf ho (d2.mono e8) (by rw [ci_length]; omega) ?_
            try simp (disch := first | omega | with_unfolding_all exact id rfl | with_unfolding_all exact Nat.le_of_ble_eq_true rfl | (simp only [Jd, Je, Jr, Js, Jt, Nat.reduceAdd, allOne, oneCell, Bool.and_self, Jc]; first | done | omega)) only [↓Qa, ↓Qb, Qd, Qe, Qf, Qg, Qh, Qi, Qj, Qk, Ql, Qm, Qn, Qo, Qp, Qq, Qr, Qs, Qt, Qu, Qv, Qw, Qx, Qy, ptrTo, Qz, QA, QB, QC, QD, QE, QF, QG, QH, QI, QJ, QK, QL, QM, QN, QO, QP, QQ, QR, QS, QT, QU, QV, QW, QX, QY, QZ, Ja, Jb, Jc, Jd, Je, Jf, Jg, Jh, Ji, Jj, Jk, Jl, Jm, Jn, Jo, Jp, Jq, Jr, Js, Jt, Nat.reduceAdd]
            rw [add1 _ (by omega)]
            exact hself3 hil _ _ ⟨rfl, e7.trans e8⟩
        · refine nth20_sp hlf (by omega) fun o m8 e8 ho => ?_
          have hin : ¬ inX (N : Int) (q : Int) (chs N q : Int) := by unfold inX; rw [hcnt]; omega
          have hE2 : nthE (N : Int) (q : Int) (chs N q : Int) = 2 := by unfold nthE; rw [if_pos hsz, if_neg hin]
          rw [hE2]
          try simp (disch := first | omega | with_unfolding_all exact id rfl | with_unfolding_all exact Nat.le_of_ble_eq_true rfl | (simp only [Jd, Je, Jr, Js, Jt, Nat.reduceAdd, allOne, oneCell, Bool.and_self, Jc]; first | done | omega)) only [↓Qa, ↓Qb, Qd, Qe, Qf, Qg, Qh, Qi, Qj, Qk, Ql, Qm, Qn, Qo, Qp, Qq, Qr, Qs, Qt, Qu, Qv, Qw, Qx, Qy, ptrTo, Qz, QA, QB, QC, QD, QE, QF, QG, QH, QI, QJ, QK, QL, QM, QN, QO, QP, QQ, QR, QS, QT, QU, QV, QW, QX, QY, QZ, Ja, Jb, Jc, Jd, Je, Jf, Jg, Jh, Ji, Jj, Jk, Jl, Jm, Jn, Jo, Jp, Jq, Jr, Js, Jt, Nat.reduceAdd]
          repeat (rw [join_e]; try simp (disch := first | omega | with_unfolding_all exact id rfl | with_unfolding_all exact Nat.le_of_ble_eq_true rfl | (simp only [Jd, Je, Jr, Js, Jt, Nat.reduceAdd, allOne, oneCell, Bool.and_self, Jc]; first | done | omega)) only [↓Qa, ↓Qb, Qd, Qe, Qf, Qg, Qh, Qi, Qj, Qk, Ql, Qm, Qn, Qo, Qp, Qq, Qr, Qs, Qt, Qu, Qv, Qw, Qx, Qy, ptrTo, Qz, QA, QB, QC, QD, QE, QF, QG, QH, QI, QJ, QK, QL, QM, QN, QO, QP, QQ, QR, QS, QT, QU, QV, QW, QX, QY, QZ, Ja, Jb, Jc, Jd, Je, Jf, Jg, Jh, Ji, Jj, Jk, Jl, Jm, Jn, Jo, Jp, Jq, Jr, Js, Jt, Nat.reduceAdd])
          refine works_sp (hT.mono ((G5.trans e7).trans e8)) ?_
          try simp (disch := first | omega | with_unfolding_all exact id rfl | with_unfolding_all exact Nat.le_of_ble_eq_true rfl | (simp only [Jd, Je, Jr, Js, Jt, Nat.reduceAdd, allOne, oneCell, Bool.and_self, Jc]; first | done | omega)) only [↓Qa, ↓Qb, Qd, Qe, Qf, Qg, Qh, Qi, Qj, Qk, Ql, Qm, Qn, Qo, Qp, Qq, Qr, Qs, Qt, Qu, Qv, Qw, Qx, Qy, ptrTo, Qz, QA, QB, QC, QD, QE, QF, QG, QH, QI, QJ, QK, QL, QM, QN, QO, QP, QQ, QR, QS, QT, QU, QV, QW, QX, QY, QZ, Ja, Jb, Jc, Jd, Je, Jf, Jg, Jh, Ji, Jj, Jk, Jl, Jm, Jn, Jo, Jp, Jq, Jr, Js, Jt, Nat.reduceAdd]
          exact hk _
end
end Go.Vit
