/- Walks: the reference's plans, and where a rule and a plan differ. -/
import Derived.Test.YticlkfhmmcepjaaDoorW15
import Derived.Test.YticlkfhmmcepjaaDoorP4
import Derived.Test.YticlkfhmmcepjaaDoorVitAB
set_option linter.unusedSimpArgs false
set_option linter.unusedVariables false
set_option maxRecDepth 20000
namespace Go.Vit
open Go Go.Proofs
attribute [local irreducible] runT loopS
theorem bu300 : bu Tryd.prog 30 [] = some (.agg ⟨[.int .i64 0, .slice none 0 0]⟩) := by kernel_rfl
theorem bu301 (a : Int) : bu Tryd.prog 30 [(0, .int .i64 a)] = some (.agg ⟨[.int .i64 a, .slice none 0 0]⟩) := by kernel_rfl
/-- Old blocks are kept, but one. -/
structure GtB (xb : Nat) (m m' : Mem) : Prop where
  next : m.next ≤ m'.next
  kept : ∀ c, c < m.next → c ≠ xb → m'.rd c = m.rd c
theorem GtB.of {xb : Nat} {m m' : Mem} (e : Gt m m') : GtB xb m m' := ⟨e.next, fun c hc _ => e.kept c hc⟩
theorem GtB.trans {xb : Nat} {a b c : Mem} (h : GtB xb a b) (h' : GtB xb b c) : GtB xb a c := ⟨Nat.le_trans h.next h'.next, fun x hx hn => (h'.kept x (Nat.lt_of_lt_of_le hx h.next) hn).trans (h.kept x hx hn)⟩
theorem GtB.put {xb : Nat} {a b : Mem} (h : GtB xb a b) (k : Option Blk) : GtB xb a (b.put xb k) := ⟨h.next, fun x hx hn => (Mem.rd_put _ _ _ _ (Ne.symm hn)).trans (h.kept x hx hn)⟩
theorem GtB.gt {xb : Nat} {a b c : Mem} (e : Gt a b) (h : GtB xb b c) (hx : a.next ≤ xb) : Gt a c := ⟨Nat.le_trans e.next h.next, fun x hx' => (h.kept x (Nat.lt_of_lt_of_le hx' e.next) (by omega)).trans (e.kept x hx')⟩
theorem At.monoB {xb : Nat} {m m' : Mem} {b : Nat} {cs : List Value} (h : At m b cs) (e : GtB xb m m') (hb : b ≠ xb) : At m' b cs := (e.kept b h.lt hb).trans h
theorem GN.monoB {xb L0 : Nat} {m m' : Mem} {v : Value} {l : List Nat} (h : GN L0 m v l) (e : GtB xb m m') (hb : bid v ≠ some xb) : GN L0 m' v l := by
  rcases h with h | ⟨b, h1, h2, h3, h4⟩
  · exact .inl h
  · exact .inr ⟨b, h1, h2, (e.kept b (Mem.rd_lt h3) (fun e => hb (by rw [h2, e]; rfl))).trans h3, h4⟩
theorem GN.snoc3 {P : Program} {t : TypeId} {y L L0 : Nat} {m0 m : Mem} {v : Value} {l : List Nat} (x : Nat) (ht : aelem P t = some (1, y)) (hy : y ≤ 134217728) (h : GN L0 m v l) (hl : l.length < 1048576) (hL : L ≤ L0) (e : Gt m0 m) (hm : m0.next ≤ L0) :
    ∃ u m', aappend P L (m.push ⟨1, [.int .i64 (x : Int)], none⟩) t v (slTo 1 m.next) = some (u, m') ∧ GN m.next m' u (l ++ [x]) ∧ Gt m0 m' ∧ m.next ≤ m'.next ∧ ∀ c, c < m.next → bid v ≠ some c → m'.rd c = m.rd c := by
  have h1 : Sl 1 (m.push ⟨1, [.int .i64 (x : Int)], none⟩) (slTo 1 m.next) 1 [.int .i64 (x : Int)] := Gs.sl (L := m.next) (.inr ⟨m.next, Nat.le_refl _, rfl, Mem.rd_push _ _, rfl, by omega⟩)
  have hlc : (ci l).length = l.length := ci_length l
  have gp := Mem.gt_push m ⟨1, [.int .i64 (x : Int)], none⟩
  obtain ⟨u, m', h2, h3, h4, h5, h8⟩ := Gs.append2 (P := P) (L := L) (m0 := m0) ht (Gs.mono h gp) h1 (by omega) rfl (roomy_of (by omega) hy) rfl hL (e.trans gp) hm
  have h6 := gp.next
  have h7 : Gs 1 m.next m' u ((ci l).length + 1) ((ci l).map (Value.int .i64) ++ [.int .i64 (x : Int)]) := Gs.le h3 h6
  have h7' : GN m.next m' u (l ++ [x]) := by
    have hh : ci (l ++ [x]) = ci l ++ [(x : Int)] := by simp [ci]
    unfold GN GL
    rw [hh]
    simpa using h7
  exact ⟨u, m', h2, h7', h4, by omega, fun c hc hb => (h8 c (by omega) hb).trans (gp.kept c hc)⟩
theorem GtB.inn {xb : Nat} {m m' : Mem} {v : Value} {l : List Nat} (h : IN m v l) (e : GtB xb m m') (hb : ∀ c, bid v = some c → c < m.next ∧ c ≠ xb) : IN m' v l := by
  refine ⟨?_, h.2⟩
  have h1 := h.1
  unfold asrc at h1 ⊢
  split at h1
  · exact h1
  · split at h1
    · exact h1
    · split at h1
      · rename_i cs' hr
        unfold rdc at hr ⊢
        rw [e.kept _ (hb _ rfl).1 (hb _ rfl).2]
        rw [hr]
        exact h1
      · cases h1
  · cases h1
section
variable {lf n L : Nat} {m : Mem} {k : Value → Mem → Option Unit}
theorem rmake1_sp {h : Int} {v : Value} {l : List Int} (hlf : 1000000 ≤ lf) (hL : L ≤ m.next) (hv : IL m v l) (hk : ∀ u m', Gt m m' → IN m' u (smallX h l) → k (.tuple ⟨[Vit.hg (if chk h l = 0 then h else 0) u, .int .i64 (chk h l)]⟩) m' = some ()) : runT (tab lf) (n + 6) 17 [Vit.hg h v] L m k = some () := by
  rw [r17]
  dsimp only [S17, iofNat, inegSucc]
  obtain ⟨p, c, rfl⟩ := hv.ex
  try simp (disch := first | omega | with_unfolding_all exact id rfl | with_unfolding_all exact Nat.le_of_ble_eq_true rfl | (simp only [Jd, Je, Jr, Js, Jt, Nat.reduceAdd, allOne, oneCell, Bool.and_self, Jc]; first | done | omega)) only [↓Qa, ↓Qb, ↓Qc, Qd, Qe, Qf, Qg, Qh, Qi, Qj, Qk, Ql, Qm, Qn, Qo, Qp, Qq, Qr, Qs, Qt, Qu, Qv, Qw, Qx, Qy, ptrTo, Qz, QA, QB, QC, QD, QE, QF, QG, QH, QI, QJ, QK, QL, QM, QN, QO, QP, QQ, QR, QS, QT, QU, QV, QW, QX, QY, QZ, Ja, Jb, Jc, Jd, Je, Jf, Jg, Jh, Ji, Jj, Jk, Jl, Jm, Jn, Jo, Jp, Jq, Jr, Js, Jt, Nat.reduceAdd]
  have g1 : Gt m ((m.push ⟨1, [.int .i64 h, .slice p l.length c], none⟩).push ⟨1, [.int .i64 0, .slice none 0 0], none⟩) := (Mem.gt_push _ _).trans (Mem.gt_push _ _)
  have h0 : At ((m.push ⟨1, [.int .i64 h, .slice p l.length c], none⟩).push ⟨1, [.int .i64 0, .slice none 0 0], none⟩) m.next [.int .i64 h, .slice p l.length c] := (At.push m _).mono (Mem.gt_push _ _)
  have h1 : At ((m.push ⟨1, [.int .i64 h, .slice p l.length c], none⟩).push ⟨1, [.int .i64 0, .slice none 0 0], none⟩) (m.next + 1) [.int .i64 0, .slice none 0 0] := Mem.rd_push (m.push ⟨1, [.int .i64 h, .slice p l.length c], none⟩) _
  generalize (m.push ⟨1, [.int .i64 h, .slice p l.length c], none⟩).push ⟨1, [.int .i64 0, .slice none 0 0], none⟩ = m1 at g1 h0 h1 ⊢
  have g1n := g1.next
  refine rcheck_sp hlf (hv.mono g1) fun m2 e2 => ?_
  have e2n := e2.next
  have h02 := h0.mono e2
  have h2 := h1.mono e2
  have h2l := h2.lt
  have G2 := g1.trans e2
  try simp (disch := first | omega | with_unfolding_all exact id rfl | with_unfolding_all exact Nat.le_of_ble_eq_true rfl | (simp only [Jd, Je, Jr, Js, Jt, Nat.reduceAdd, allOne, oneCell, Bool.and_self, Jc]; first | done | omega)) only [↓Qa, ↓Qb, ↓Qc, Qd, Qe, Qf, Qg, Qh, Qi, Qj, Qk, Ql, Qm, Qn, Qo, Qp, Qq, Qr, Qs, Qt, Qu, Qv, Qw, Qx, Qy, ptrTo, Qz, QA, QB, QC, QD, QE, QF, QG, QH, QI, QJ, QK, QL, QM, QN, QO, QP, QQ, QR, QS, QT, QU, QV, QW, QX, QY, QZ, Ja, Jb, Jc, Jd, Je, Jf, Jg, Jh, Ji, Jj, Jk, Jl, Jm, Jn, Jo, Jp, Jq, Jr, Js, Jt, Nat.reduceAdd]
  refine oIf_ndec (fun h4 => ?_) (fun h4 => ?_)
  · try simp (disch := first | omega | with_unfolding_all exact id rfl | with_unfolding_all exact Nat.le_of_ble_eq_true rfl | (simp only [Jd, Je, Jr, Js, Jt, Nat.reduceAdd, allOne, oneCell, Bool.and_self, Jc]; first | done | omega)) only [bu300, h2.rd, ↓Qa, ↓Qb, ↓Qc, Qd, Qe, Qf, Qg, Qh, Qi, Qj, Qk, Ql, Qm, Qn, Qo, Qp, Qq, Qr, Qs, Qt, Qu, Qv, Qw, Qx, Qy, ptrTo, Qz, QA, QB, QC, QD, QE, QF, QG, QH, QI, QJ, QK, QL, QM, QN, QO, QP, QQ, QR, QS, QT, QU, QV, QW, QX, QY, QZ, Ja, Jb, Jc, Jd, Je, Jf, Jg, Jh, Ji, Jj, Jk, Jl, Jm, Jn, Jo, Jp, Jq, Jr, Js, Jt, Nat.reduceAdd]
    have := hk (.slice none 0 0) _ (Mem.put_gt G2 (b := m.next + 1) (some ⟨1, [.int .i64 0, .slice none 0 0], none⟩) (by omega)) (by rw [smallX, if_neg h4]; exact IL.nil _)
    rw [if_neg h4] at this
    exact this
  · obtain ⟨a, rfl, ha1, ha6, hci, hlen, hlt, hlt64⟩ := chk_valid h4
    have hp := pow_le64 ha6
    try simp (disch := first | omega | with_unfolding_all exact id rfl | with_unfolding_all exact Nat.le_of_ble_eq_true rfl | (simp only [Jd, Je, Jr, Js, Jt, Nat.reduceAdd, allOne, oneCell, Bool.and_self, Jc]; first | done | omega)) only [h02.rd, bu301, ↓Qa, ↓Qb, ↓Qc, Qd, Qe, Qf, Qg, Qh, Qi, Qj, Qk, Ql, Qm, Qn, Qo, Qp, Qq, Qr, Qs, Qt, Qu, Qv, Qw, Qx, Qy, ptrTo, Qz, QA, QB, QC, QD, QE, QF, QG, QH, QI, QJ, QK, QL, QM, QN, QO, QP, QQ, QR, QS, QT, QU, QV, QW, QX, QY, QZ, Ja, Jb, Jc, Jd, Je, Jf, Jg, Jh, Ji, Jj, Jk, Jl, Jm, Jn, Jo, Jp, Jq, Jr, Js, Jt, Nat.reduceAdd]
    have e3 : Gt m2 ((m2.push ⟨1, [.int .i64 0, .slice none 0 0], none⟩).put m2.next (some ⟨1, [.int .i64 (a : Int), .slice none 0 0], none⟩)) := Mem.put_gt (Mem.gt_push _ _) _ (Nat.le_refl _)
    have h3 : At ((m2.push ⟨1, [.int .i64 0, .slice none 0 0], none⟩).put m2.next (some ⟨1, [.int .i64 (a : Int), .slice none 0 0], none⟩)) m2.next [.int .i64 (a : Int), .slice none 0 0] := Mem.rd_put_eq _ _ (by rw [Mem.push_next]; omega)
    generalize (m2.push ⟨1, [.int .i64 0, .slice none 0 0], none⟩).put m2.next (some ⟨1, [.int .i64 (a : Int), .slice none 0 0], none⟩) = m3 at e3 h3 ⊢
    have e3n := e3.next
    have h3l := h3.lt
    have G3 := G2.trans e3
    have hin : IN m3 (.slice p l.length c) (nn l) := by unfold IN; rw [hci]; exact hv.mono G3
    refine rbarred_sp ha6 hlf (by omega) hin (by rw [nn_length]; omega) hlt64 fun u m4 e4 hu => ?_
    have e4n := e4.next
    have G4 := G3.trans e4
    have h04 := (h02.mono e3).mono e4
    have h14 := (h2.mono e3).mono e4
    have h34 := h3.mono e4
    have hXl := range_filter_len (mostB (fun g => !mayB (nn l) g) (2 ^ a)) (2 ^ a)
    have hXm : ∀ x ∈ (List.range (2 ^ a)).filter (mostB (fun g => !mayB (nn l) g) (2 ^ a)), x < 2 ^ a := fun x hx => List.mem_range.1 (List.mem_filter.1 hx).1
    have hXn : ((List.range (2 ^ a)).filter (mostB (fun g => !mayB (nn l) g) (2 ^ a))).Nodup := List.Pairwise.filter _ List.nodup_range
    have hmk := rmake_eq ha6 hlt
    generalize (List.range (2 ^ a)).filter (mostB (fun g => !mayB (nn l) g) (2 ^ a)) = X at hu hXl hXm hXn hmk
    have hub : ∀ c, bid u = some c → c < m4.next ∧ c ≠ m2.next := fun c hc => by
      have h8 := hu.fr c hc
      rcases hu.isNil with ⟨rfl, _⟩ | ⟨q, i, c', rfl, hne⟩
      · cases hc
      · exact ⟨Sl.bid_lt hu.inn (by rw [ci_length]; exact List.length_pos_iff.2 hne) c hc, by omega⟩
    have hun := hu.inn
    clear hu
    have hpow2 : ∀ K : Value → Option Unit, oInt .sub .i64 (.int .i64 ((2 ^ a : Nat) : Int)) (.int .i64 1) K = K (.int .i64 ((2 ^ a - 1 : Nat) : Int)) := fun K => by
      rw [oInt_sub ⟨by omega, by omega⟩, show ((2 ^ a : Nat) : Int) - 1 = ((2 ^ a - 1 : Nat) : Int) by omega]
    refine loop_up (2 ^ a) (fun g vs m' => vs = [.int .i64 (g : Int)] ∧ GtB m2.next m4 m' ∧ ∃ uo, At m' m2.next [.int .i64 (a : Int), uo] ∧ GN m4.next m' uo ((List.range g).filter (fillB X (2 ^ a)))) (by omega) ⟨rfl, GtB.of (Gt.refl _), _, h34, GN.nil _ _⟩ ?_
    rintro g vs m5 hg ⟨rfl, e5, uo, h5, ho⟩ self hself
    have e5n := e5.next
    have h05 := h04.monoB e5 (by omega)
    try simp (disch := first | omega | with_unfolding_all exact id rfl | with_unfolding_all exact Nat.le_of_ble_eq_true rfl | (simp only [Jd, Je, Jr, Js, Jt, Nat.reduceAdd, allOne, oneCell, Bool.and_self, Jc]; first | done | omega)) only [h05.rd, shl1 ha6, ↓Qa, ↓Qb, ↓Qc, Qd, Qe, Qf, Qg, Qh, Qi, Qj, Qk, Ql, Qm, Qn, Qo, Qp, Qq, Qr, Qs, Qt, Qu, Qv, Qw, Qx, Qy, ptrTo, Qz, QA, QB, QC, QD, QE, QF, QG, QH, QI, QJ, QK, QL, QM, QN, QO, QP, QQ, QR, QS, QT, QU, QV, QW, QX, QY, QZ, Ja, Jb, Jc, Jd, Je, Jf, Jg, Jh, Ji, Jj, Jk, Jl, Jm, Jn, Jo, Jp, Jq, Jr, Js, Jt, Nat.reduceAdd]
    refine oIf_dec (fun hlt2 => ?_) (fun hlt2 => ?_)
    · have hg2 : g < 2 ^ a := by omega
      have hfs := range_filter_succ (fillB X (2 ^ a)) g
      have hfl := range_filter_len (fillB X (2 ^ a)) g
      refine loop_up X.length (fun i vs m' => vs = [.int .i64 (i : Int)] ∧ GtB m2.next m4 m' ∧ ∃ uo, At m' m2.next [.int .i64 (a : Int), uo] ∧ GN m4.next m' uo ((List.range g).filter (fillB X (2 ^ a)) ++ if fillB (X.take i) (2 ^ a) g = true then [g] else [])) (by omega) ⟨rfl, e5, uo, h5, by simpa [fillB] using ho⟩ ?_
      rintro i vs m6 hi ⟨rfl, e6, uo6, h6, ho6⟩ self2 hself2
      have e6n := e6.next
      have h06 := h04.monoB e6 (by omega)
      have hu6 := e6.inn hun hub
      try simp (disch := first | omega | with_unfolding_all exact id rfl | with_unfolding_all exact Nat.le_of_ble_eq_true rfl | (simp only [Jd, Je, Jr, Js, Jt, Nat.reduceAdd, allOne, oneCell, Bool.and_self, Jc]; first | done | omega)) only [hu6.ln, ↓Qa, ↓Qb, ↓Qc, Qd, Qe, Qf, Qg, Qh, Qi, Qj, Qk, Ql, Qm, Qn, Qo, Qp, Qq, Qr, Qs, Qt, Qu, Qv, Qw, Qx, Qy, ptrTo, Qz, QA, QB, QC, QD, QE, QF, QG, QH, QI, QJ, QK, QL, QM, QN, QO, QP, QQ, QR, QS, QT, QU, QV, QW, QX, QY, QZ, Ja, Jb, Jc, Jd, Je, Jf, Jg, Jh, Ji, Jj, Jk, Jl, Jm, Jn, Jo, Jp, Jq, Jr, Js, Jt, Nat.reduceAdd]
      refine oIf_dec (fun hlt3 => ?_) (fun hlt3 => ?_)
      · have hil : i < X.length := by omega
        have hXi := hXm _ (List.getElem_mem hil)
        have hadd : ∀ K : Value → Option Unit, oInt .add .i64 (.int .i64 (X[i] : Int)) (.int .i64 (g : Int)) K = K (.int .i64 ((X[i] + g : Nat) : Int)) := fun K => by rw [oInt_add ⟨by omega, by omega⟩]; rfl
        have hstep : ∀ K : Value → Option Unit, oInt .add .i64 (.int .i64 (i : Int)) (.int .i64 1) K = K (.int .i64 ((i + 1 : Nat) : Int)) := fun K => by rw [oInt_add ⟨by omega, by omega⟩]; rfl
        have hia := hu6.ia hil
        have hld := hu6.ld hil
        have hsn := fill_snoc (N := 2 ^ a) (g := g) hil
        by_cases he : X[i] + g + 1 = 2 ^ a
        · have hon := fill_once hXn hil he
          rw [hon] at ho6 hsn
          simp only [Bool.false_eq_true, if_false, List.append_nil] at ho6
          rw [decide_eq_true he] at hsn
          have d1 : decide (((X[i] + g : Nat) : Int) = ((2 ^ a - 1 : Nat) : Int)) = true := decide_eq_true (by omega)
          obtain ⟨u2, m7, k1, k2, k3, k4, k5⟩ := GN.snoc3 (P := Tryd.prog) (t := 22) (L := L) (m0 := m) g ael22 (by omega) ho6 (by omega) (by omega) (GtB.gt G4 e6 (by omega)) (by omega)
          have h7 : At m7 m2.next [.int .i64 (a : Int), uo6] := (k5 _ h6.lt fun hc => by have := ho6.fr _ hc; omega).trans h6
          have h7l := h7.lt
          have hb22 := bs22 m6 (g : Int)
          have k2f := k2.fr
          obtain ⟨q, c', rfl⟩ := k2.ex
          try simp (disch := first | omega | with_unfolding_all exact id rfl | with_unfolding_all exact Nat.le_of_ble_eq_true rfl | (simp only [Jd, Je, Jr, Js, Jt, Nat.reduceAdd, allOne, oneCell, Bool.and_self, Jc]; first | done | omega)) only [hia, hld, hadd, h06.rd, shl1 ha6, hpow2, d1, h6.rd, hb22, k1, h7.rd, hstep, ↓Qa, ↓Qb, Qd, Qe, Qf, Qg, Qh, Qi, Qj, Qk, Ql, Qm, Qn, Qo, Qp, Qq, Qr, Qs, Qt, Qu, Qv, Qw, Qx, Qy, ptrTo, Qz, QA, QB, QC, QD, QE, QF, QG, QH, QI, QJ, QK, QL, QM, QN, QO, QP, QQ, QR, QS, QT, QU, QV, QW, QX, QY, QZ, Ja, Jb, Jc, Jd, Je, Jf, Jg, Jh, Ji, Jj, Jk, Jl, Jm, Jn, Jo, Jp, Jq, Jr, Js, Jt, Nat.reduceAdd]
          repeat (rw [join_e]; try simp (disch := first | omega | with_unfolding_all exact id rfl | with_unfolding_all exact Nat.le_of_ble_eq_true rfl | (simp only [Jd, Je, Jr, Js, Jt, Nat.reduceAdd, allOne, oneCell, Bool.and_self, Jc]; first | done | omega)) only [hia, hld, hadd, h06.rd, shl1 ha6, hpow2, d1, h6.rd, hb22, k1, h7.rd, hstep, ↓Qa, ↓Qb, Qd, Qe, Qf, Qg, Qh, Qi, Qj, Qk, Ql, Qm, Qn, Qo, Qp, Qq, Qr, Qs, Qt, Qu, Qv, Qw, Qx, Qy, ptrTo, Qz, QA, QB, QC, QD, QE, QF, QG, QH, QI, QJ, QK, QL, QM, QN, QO, QP, QQ, QR, QS, QT, QU, QV, QW, QX, QY, QZ, Ja, Jb, Jc, Jd, Je, Jf, Jg, Jh, Ji, Jj, Jk, Jl, Jm, Jn, Jo, Jp, Jq, Jr, Js, Jt, Nat.reduceAdd])
          have e7 : GtB m2.next m4 m7 := ⟨by omega, fun c hc hne => (k5 c (by omega) (fun hb => by have := ho6.fr c hb; omega)).trans (e6.kept c hc hne)⟩
          refine hself2 hil _ _ ⟨rfl, e7.put _, _, Mem.rd_put_eq _ _ h7l, ?_⟩
          rw [hsn]
          exact (k2.le (by omega)).monoB (GtB.put ⟨Nat.le_refl _, fun _ _ _ => rfl⟩ _) (fun hb => by have := k2f _ hb; omega)
        · have d1 : decide (((X[i] + g : Nat) : Int) = ((2 ^ a - 1 : Nat) : Int)) = false := decide_eq_false (by omega)
          try simp (disch := first | omega | with_unfolding_all exact id rfl | with_unfolding_all exact Nat.le_of_ble_eq_true rfl | (simp only [Jd, Je, Jr, Js, Jt, Nat.reduceAdd, allOne, oneCell, Bool.and_self, Jc]; first | done | omega)) only [hia, hld, hadd, h06.rd, shl1 ha6, hpow2, d1, hstep, ↓Qa, ↓Qb, Qd, Qe, Qf, Qg, Qh, Qi, Qj, Qk, Ql, Qm, Qn, Qo, Qp, Qq, Qr, Qs, Qt, Qu, Qv, Qw, Qx, Qy, ptrTo, Qz, QA, QB, QC, QD, QE, QF, QG, QH, QI, QJ, QK, QL, QM, QN, QO, QP, QQ, QR, QS, QT, QU, QV, QW, QX, QY, QZ, Ja, Jb, Jc, Jd, Je, Jf, Jg, Jh, Ji, Jj, Jk, Jl, Jm, Jn, Jo, Jp, Jq, Jr, Js, Jt, Nat.reduceAdd]
          repeat (rw [join_e]; try simp (disch := first | omega | with_unfolding_all exact id rfl | with_unfolding_all exact Nat.le_of_ble_eq_true rfl | (simp only [Jd, Je, Jr, Js, Jt, Nat.reduceAdd, allOne, oneCell, Bool.and_self, Jc]; first | done | omega)) only [hia, hld, hadd, h06.rd, shl1 ha6, hpow2, d1, hstep, ↓Qa, ↓Qb, Qd, Qe, Qf, Qg, Qh, Qi, Qj, Qk, Ql, Qm, Qn, Qo, Qp, Qq, Qr, Qs, Qt, Qu, Qv, Qw, Qx, Qy, ptrTo, Qz, QA, QB, QC, QD, QE, QF, QG, QH, QI, QJ, QK, QL, QM, QN, QO, QP, QQ, QR, QS, QT, QU, QV, QW, QX, QY, QZ, Ja, Jb, Jc, Jd, Je, Jf, Jg, Jh, Ji, Jj, Jk, Jl, Jm, Jn, Jo, Jp, Jq, Jr, Js, Jt, Nat.reduceAdd])
          refine hself2 hil _ _ ⟨rfl, e6, uo6, h6, ?_⟩
          rw [hsn, decide_eq_false he, Bool.or_false]
          exact ho6
      · have hie : i = X.length := by omega
        subst hie
        rw [List.take_length] at ho6
        rw [oInt_add ⟨by omega, by omega⟩]
        refine hself hg2 _ _ ⟨rfl, e6, uo6, h6, ?_⟩
        rw [hfs]
        by_cases hf : fillB X (2 ^ a) g = true
        · rw [if_pos hf] at ho6 ⊢; exact ho6
        · rw [if_neg hf, List.append_nil] at ho6
          rw [if_neg hf]; exact ho6
    · have hge : g = 2 ^ a := by omega
      subst hge
      rw [hmk] at ho
      have h15 := h14.monoB e5 (by omega)
      have h15l := h15.lt
      have hof := ho.fr
      have G5 := GtB.gt G4 e5 (by omega)
      obtain ⟨q, c', rfl⟩ := ho.ex
      try simp (disch := first | omega | with_unfolding_all exact id rfl | with_unfolding_all exact Nat.le_of_ble_eq_true rfl | (simp only [Jd, Je, Jr, Js, Jt, Nat.reduceAdd, allOne, oneCell, Bool.and_self, Jc]; first | done | omega)) only [h5.rd, h15.rd, ↓Qa, ↓Qb, ↓Qc, Qd, Qe, Qf, Qg, Qh, Qi, Qj, Qk, Ql, Qm, Qn, Qo, Qp, Qq, Qr, Qs, Qt, Qu, Qv, Qw, Qx, Qy, ptrTo, Qz, QA, QB, QC, QD, QE, QF, QG, QH, QI, QJ, QK, QL, QM, QN, QO, QP, QQ, QR, QS, QT, QU, QV, QW, QX, QY, QZ, Ja, Jb, Jc, Jd, Je, Jf, Jg, Jh, Ji, Jj, Jk, Jl, Jm, Jn, Jo, Jp, Jq, Jr, Js, Jt, Nat.reduceAdd]
      have := hk _ _ (Mem.put_gt G5 (b := m.next + 1) (some ⟨1, [.int .i64 (a : Int), .slice q (hitl (nn l)).length c'], none⟩) (by omega)) (by
        rw [smallX, if_pos h4]
        exact ho.inn.put (fun hh => by have := hof _ hh; omega) _)
      rw [if_pos h4, h4] at this
      exact this
/-- Thin. -/
theorem rthin1_sp {h : Int} {v : Value} {l : List Int} (hlf : 1000000 ≤ lf) (hL : L ≤ m.next) (hv : IL m v l) (hk : ∀ u m', Gt m m' → IN m' u (leastX h l) → k (.tuple ⟨[Vit.hg (if chk h l = 0 then h else 0) u, .int .i64 (chk h l)]⟩) m' = some ()) : runT (tab lf) (n + 6) 21 [Vit.hg h v] L m k = some () := by
  rw [r21]
  dsimp only [S21, iofNat, inegSucc]
  obtain ⟨p, c, rfl⟩ := hv.ex
  rw [uc_e, un0_e, abox_e, oRes_e, cells_agg, anew_eq, oRes_e]
  have g1 : Gt m ((m.push ⟨1, [.int .i64 h, .slice p l.length c], none⟩).push ⟨1, [.int .i64 0, .slice none 0 0], none⟩) := (Mem.gt_push _ _).trans (Mem.gt_push _ _)
  have h0 : At ((m.push ⟨1, [.int .i64 h, .slice p l.length c], none⟩).push ⟨1, [.int .i64 0, .slice none 0 0], none⟩) m.next [.int .i64 h, .slice p l.length c] := (At.push m _).mono (Mem.gt_push _ _)
  have h1 : At ((m.push ⟨1, [.int .i64 h, .slice p l.length c], none⟩).push ⟨1, [.int .i64 0, .slice none 0 0], none⟩) (m.next + 1) [.int .i64 0, .slice none 0 0] := Mem.rd_push (m.push ⟨1, [.int .i64 h, .slice p l.length c], none⟩) _
  rw [Mem.push_next]
  generalize (m.push ⟨1, [.int .i64 h, .slice p l.length c], none⟩).push ⟨1, [.int .i64 0, .slice none 0 0], none⟩ = m1 at g1 h0 h1 ⊢
  unfold ptrTo
  have g1n := g1.next
  rw [ldN_u, h0.rd, show rdn (some ⟨1, [.int .i64 h, .slice p l.length c], none⟩) 0 2 = some (Vit.hg h (.slice p l.length c)) from rfl, oOpt_e]
  refine rcheckPlan_sp hlf (hv.mono g1) fun m2 e2 => ?_
  have e2n := e2.next
  have h02 := h0.mono e2
  have h2 := h1.mono e2
  have h2l := h2.lt
  have G2 := g1.trans e2
  rw [oInt_neq]
  refine oIf_ndec (fun h4 => ?_) (fun h4 => ?_)
  · try simp (disch := first | omega | with_unfolding_all exact id rfl | with_unfolding_all exact Nat.le_of_ble_eq_true rfl | (simp only [Jd, Je, Jr, Js, Jt, Nat.reduceAdd, allOne, oneCell, Bool.and_self, Jc]; first | done | omega)) only [bu300, h2.rd, ↓Qa, ↓Qb, Qd, Qe, Qf, Qg, Qh, Qi, Qj, Qk, Ql, Qm, Qn, Qo, Qp, Qq, Qr, Qs, Qt, Qu, Qv, Qw, Qx, Qy, ptrTo, Qz, QA, QB, QC, QD, QE, QF, QG, QH, QI, QJ, QK, QL, QM, QN, QO, QP, QQ, QR, QS, QT, QU, QV, QW, QX, QY, QZ, Ja, Jb, Jc, Jd, Je, Jf, Jg, Jh, Ji, Jj, Jk, Jl, Jm, Jn, Jo, Jp, Jq, Jr, Js, Jt, Nat.reduceAdd]
    have := hk (.slice none 0 0) _ (Mem.put_gt G2 (b := m.next + 1) (some ⟨1, [.int .i64 0, .slice none 0 0], none⟩) (by omega)) (by rw [leastX, if_neg h4]; exact IL.nil _)
    rw [if_neg h4] at this
    exact this
  · obtain ⟨a, rfl, ha1, ha6, hci, hlen, hlt, hlt64⟩ := chk_valid h4
    have hp := pow_le64 ha6
    try simp (disch := first | omega | with_unfolding_all exact id rfl | with_unfolding_all exact Nat.le_of_ble_eq_true rfl | (simp only [Jd, Je, Jr, Js, Jt, Nat.reduceAdd, allOne, oneCell, Bool.and_self, Jc]; first | done | omega)) only [h02.rd, bu301, ↓Qa, ↓Qb, Qd, Qe, Qf, Qg, Qh, Qi, Qj, Qk, Ql, Qm, Qn, Qo, Qp, Qq, Qr, Qs, Qt, Qu, Qv, Qw, Qx, Qy, ptrTo, Qz, QA, QB, QC, QD, QE, QF, QG, QH, QI, QJ, QK, QL, QM, QN, QO, QP, QQ, QR, QS, QT, QU, QV, QW, QX, QY, QZ, Ja, Jb, Jc, Jd, Je, Jf, Jg, Jh, Ji, Jj, Jk, Jl, Jm, Jn, Jo, Jp, Jq, Jr, Js, Jt, Nat.reduceAdd]
    have e3 : Gt m2 ((m2.push ⟨1, [.int .i64 0, .slice none 0 0], none⟩).put m2.next (some ⟨1, [.int .i64 (a : Int), .slice none 0 0], none⟩)) := Mem.put_gt (Mem.gt_push _ _) _ (Nat.le_refl _)
    have h3 : At ((m2.push ⟨1, [.int .i64 0, .slice none 0 0], none⟩).put m2.next (some ⟨1, [.int .i64 (a : Int), .slice none 0 0], none⟩)) m2.next [.int .i64 (a : Int), .slice none 0 0] := Mem.rd_put_eq _ _ (by rw [Mem.push_next]; omega)
    have hn4 : ((m2.push ⟨1, [.int .i64 0, .slice none 0 0], none⟩).put m2.next (some ⟨1, [.int .i64 (a : Int), .slice none 0 0], none⟩)).next = m2.next + 1 := by rw [Mem.put_next, Mem.push_next]
    generalize (m2.push ⟨1, [.int .i64 0, .slice none 0 0], none⟩).put m2.next (some ⟨1, [.int .i64 (a : Int), .slice none 0 0], none⟩) = m4 at e3 h3 hn4 ⊢
    have e4n := e3.next
    have G4 := G2.trans e3
    have h04 := h02.mono e3
    have h14 := h2.mono e3
    have hn : IN m4 (.slice p l.length c) (nn l) := by unfold IN; rw [hci]; exact hv.mono G4
    have hnb : ∀ x, bid (.slice p l.length c) = some x → 0 < l.length → x < m.next := fun x hx hl => Sl.bid_lt hv hl x hx
    have hnl : (nn l).length ≤ 64 := by rw [nn_length]; omega
    have hth := rthin_eq ha6 hlt
    have hINk : ∀ m', GtB m2.next m4 m' → IN m' (.slice p l.length c) (nn l) := fun m' e => by
      by_cases hl : 0 < l.length
      · exact e.inn hn fun x hx => by have := hnb x hx hl; omega
      · have h9 : l = [] := List.length_eq_zero_iff.1 (by omega)
        subst h9
        refine ⟨?_, hn.2⟩
        rcases hn.2 with h | ⟨b', o', x', c', h⟩ <;> (cases h; rfl)
    refine loop_up (2 ^ a) (fun g vs m' => vs = [.int .i64 (g : Int)] ∧ GtB m2.next m4 m' ∧ ∃ uo, At m' m2.next [.int .i64 (a : Int), uo] ∧ GN m4.next m' uo ((List.range g).filter (fun g => isB (nn l) g && lowB (nn l) g))) (by omega) ⟨rfl, GtB.of (Gt.refl _), _, h3, GN.nil _ _⟩ ?_
    rintro g vs m5 hg ⟨rfl, e5, uo, h5, ho⟩ self hself
    have e5n := e5.next
    have h05 := h04.monoB e5 (by omega)
    try simp (disch := first | omega | with_unfolding_all exact id rfl | with_unfolding_all exact Nat.le_of_ble_eq_true rfl | (simp only [Jd, Je, Jr, Js, Jt, Nat.reduceAdd, allOne, oneCell, Bool.and_self, Jc]; first | done | omega)) only [h05.rd, shl1 ha6, ↓Qa, ↓Qb, Qd, Qe, Qf, Qg, Qh, Qi, Qj, Qk, Ql, Qm, Qn, Qo, Qp, Qq, Qr, Qs, Qt, Qu, Qv, Qw, Qx, Qy, ptrTo, Qz, QA, QB, QC, QD, QE, QF, QG, QH, QI, QJ, QK, QL, QM, QN, QO, QP, QQ, QR, QS, QT, QU, QV, QW, QX, QY, QZ, Ja, Jb, Jc, Jd, Je, Jf, Jg, Jh, Ji, Jj, Jk, Jl, Jm, Jn, Jo, Jp, Jq, Jr, Js, Jt, Nat.reduceAdd]
    refine oIf_dec (fun hlt2 => ?_) (fun hlt2 => ?_)
    · have hg2 : g < 2 ^ a := by omega
      have hfs := range_filter_succ (fun g => isB (nn l) g && lowB (nn l) g) g
      have hfl := range_filter_len (fun g => isB (nn l) g && lowB (nn l) g) g
      have hstepg : ∀ K : Value → Option Unit, oInt .add .i64 (.int .i64 (g : Int)) (.int .i64 1) K = K (.int .i64 ((g + 1 : Nat) : Int)) := fun K => by rw [oInt_add ⟨by omega, by omega⟩]; rfl
      have hIN := hINk m5 e5
      refine loop_up (nn l).length (fun i vs m' => vs = [.bool (isB ((nn l).take i) g), .bool (lowB ((nn l).take i) g), .int .i64 (i : Int)] ∧ m' = m5) (by omega) ⟨rfl, rfl⟩ ?_
      rintro i vs m6 hi ⟨rfl, rfl⟩ self2 hself2
      have hlnn : Vit.ln (.slice p l.length c) = some (.int .i64 ((nn l).length : Int)) := hIN.ln
      rw [uc_e, uc_e, uc_e, h05.rd, show rdo (some ⟨1, [.int .i64 (a : Int), .slice p l.length c], none⟩) 1 = some (.slice p l.length c) from rfl, oOpt_e, hlnn, oOpt_e, oInt_lss]
      refine oIf_dec (fun hlt3 => ?_) (fun hlt3 => ?_)
      · have hil : i < (nn l).length := by omega
        have hXi := hlt64 _ (List.getElem_mem hil)
        have hstep : ∀ K : Value → Option Unit, oInt .add .i64 (.int .i64 (i : Int)) (.int .i64 1) K = K (.int .i64 ((i + 1 : Nat) : Int)) := fun K => by rw [oInt_add ⟨by omega, by omega⟩]; rfl
        have hia := hIN.ia hil
        have hld := hIN.ld hil
        have hs1 := isB_snoc (g := g) hil
        have hs2 := lowB_snoc (g := g) hil
        have hfin : self2 [.bool (isB ((nn l).take (i + 1)) g), .bool (lowB ((nn l).take (i + 1)) g), .int .i64 ((i + 1 : Nat) : Int)] m6 = some () := hself2 hil _ _ ⟨rfl, rfl⟩
        rw [hs1, hs2] at hfin
        have hdec : ∀ K : Value → Option Unit, oInt .eql .i64 (.int .i64 ((nn l)[i] : Int)) (.int .i64 (g : Int)) K = K (.bool (decide ((nn l)[i] = g))) := fun K => by
          have h9 : decide (((nn l)[i] : Int) = (g : Int)) = decide ((nn l)[i] = g) := decide_eq_decide.2 Int.natCast_inj
          rw [oInt_eql, h9]
        generalize isB ((nn l).take i) g = b1 at hfin ⊢
        generalize lowB ((nn l).take i) g = b2 at hfin ⊢
        have hsub : decide ((nn l)[i] &&& g = (nn l)[i]) = sub (nn l)[i] g := rfl
        cases b2 with
        | false =>
          cases b1 with
          | true =>
            simp only [Bool.true_or, Bool.false_and] at hfin
            try simp (disch := first | omega | with_unfolding_all exact id rfl | with_unfolding_all exact Nat.le_of_ble_eq_true rfl | (simp only [Jd, Je, Jr, Js, Jt, Nat.reduceAdd, allOne, oneCell, Bool.and_self, Jc]; first | done | omega)) only [hia, hld, h05.rd, hdec, hstep, ↓Qa, ↓Qb, Qd, Qe, Qf, Qg, Qh, Qi, Qj, Qk, Ql, Qm, Qn, Qo, Qp, Qq, Qr, Qs, Qt, Qu, Qv, Qw, Qx, Qy, ptrTo, Qz, QA, QB, QC, QD, QE, QF, QG, QH, QI, QJ, QK, QL, QM, QN, QO, QP, QQ, QR, QS, QT, QU, QV, QW, QX, QY, QZ, Ja, Jb, Jc, Jd, Je, Jf, Jg, Jh, Ji, Jj, Jk, Jl, Jm, Jn, Jo, Jp, Jq, Jr, Js, Jt, Nat.reduceAdd]
            repeat (rw [join_e]; try simp (disch := first | omega | with_unfolding_all exact id rfl | with_unfolding_all exact Nat.le_of_ble_eq_true rfl | (simp only [Jd, Je, Jr, Js, Jt, Nat.reduceAdd, allOne, oneCell, Bool.and_self, Jc]; first | done | omega)) only [hia, hld, h05.rd, hdec, hstep, ↓Qa, ↓Qb, Qd, Qe, Qf, Qg, Qh, Qi, Qj, Qk, Ql, Qm, Qn, Qo, Qp, Qq, Qr, Qs, Qt, Qu, Qv, Qw, Qx, Qy, ptrTo, Qz, QA, QB, QC, QD, QE, QF, QG, QH, QI, QJ, QK, QL, QM, QN, QO, QP, QQ, QR, QS, QT, QU, QV, QW, QX, QY, QZ, Ja, Jb, Jc, Jd, Je, Jf, Jg, Jh, Ji, Jj, Jk, Jl, Jm, Jn, Jo, Jp, Jq, Jr, Js, Jt, Nat.reduceAdd])
            exact hfin
          | false =>
            simp only [Bool.false_or, Bool.false_and] at hfin
            try simp (disch := first | omega | with_unfolding_all exact id rfl | with_unfolding_all exact Nat.le_of_ble_eq_true rfl | (simp only [Jd, Je, Jr, Js, Jt, Nat.reduceAdd, allOne, oneCell, Bool.and_self, Jc]; first | done | omega)) only [hia, hld, h05.rd, hdec, hstep, ↓Qa, ↓Qb, Qd, Qe, Qf, Qg, Qh, Qi, Qj, Qk, Ql, Qm, Qn, Qo, Qp, Qq, Qr, Qs, Qt, Qu, Qv, Qw, Qx, Qy, ptrTo, Qz, QA, QB, QC, QD, QE, QF, QG, QH, QI, QJ, QK, QL, QM, QN, QO, QP, QQ, QR, QS, QT, QU, QV, QW, QX, QY, QZ, Ja, Jb, Jc, Jd, Je, Jf, Jg, Jh, Ji, Jj, Jk, Jl, Jm, Jn, Jo, Jp, Jq, Jr, Js, Jt, Nat.reduceAdd]
            repeat (rw [join_e]; try simp (disch := first | omega | with_unfolding_all exact id rfl | with_unfolding_all exact Nat.le_of_ble_eq_true rfl | (simp only [Jd, Je, Jr, Js, Jt, Nat.reduceAdd, allOne, oneCell, Bool.and_self, Jc]; first | done | omega)) only [hia, hld, h05.rd, hdec, hstep, ↓Qa, ↓Qb, Qd, Qe, Qf, Qg, Qh, Qi, Qj, Qk, Ql, Qm, Qn, Qo, Qp, Qq, Qr, Qs, Qt, Qu, Qv, Qw, Qx, Qy, ptrTo, Qz, QA, QB, QC, QD, QE, QF, QG, QH, QI, QJ, QK, QL, QM, QN, QO, QP, QQ, QR, QS, QT, QU, QV, QW, QX, QY, QZ, Ja, Jb, Jc, Jd, Je, Jf, Jg, Jh, Ji, Jj, Jk, Jl, Jm, Jn, Jo, Jp, Jq, Jr, Js, Jt, Nat.reduceAdd])
            exact hfin
        | true =>
          by_cases hxe : (nn l)[i] = g
          · have d1 : decide ((nn l)[i] = g) = true := decide_eq_true hxe
            rw [d1] at hfin
            simp only [Bool.or_true, Bool.true_or, Bool.true_and] at hfin
            cases b1 with
            | true =>
              try simp (disch := first | omega | with_unfolding_all exact id rfl | with_unfolding_all exact Nat.le_of_ble_eq_true rfl | (simp only [Jd, Je, Jr, Js, Jt, Nat.reduceAdd, allOne, oneCell, Bool.and_self, Jc]; first | done | omega)) only [hia, hld, h05.rd, hdec, d1, hstep, ↓Qa, ↓Qb, Qd, Qe, Qf, Qg, Qh, Qi, Qj, Qk, Ql, Qm, Qn, Qo, Qp, Qq, Qr, Qs, Qt, Qu, Qv, Qw, Qx, Qy, ptrTo, Qz, QA, QB, QC, QD, QE, QF, QG, QH, QI, QJ, QK, QL, QM, QN, QO, QP, QQ, QR, QS, QT, QU, QV, QW, QX, QY, QZ, Ja, Jb, Jc, Jd, Je, Jf, Jg, Jh, Ji, Jj, Jk, Jl, Jm, Jn, Jo, Jp, Jq, Jr, Js, Jt, Nat.reduceAdd]
              repeat (rw [join_e]; try simp (disch := first | omega | with_unfolding_all exact id rfl | with_unfolding_all exact Nat.le_of_ble_eq_true rfl | (simp only [Jd, Je, Jr, Js, Jt, Nat.reduceAdd, allOne, oneCell, Bool.and_self, Jc]; first | done | omega)) only [hia, hld, h05.rd, hdec, d1, hstep, ↓Qa, ↓Qb, Qd, Qe, Qf, Qg, Qh, Qi, Qj, Qk, Ql, Qm, Qn, Qo, Qp, Qq, Qr, Qs, Qt, Qu, Qv, Qw, Qx, Qy, ptrTo, Qz, QA, QB, QC, QD, QE, QF, QG, QH, QI, QJ, QK, QL, QM, QN, QO, QP, QQ, QR, QS, QT, QU, QV, QW, QX, QY, QZ, Ja, Jb, Jc, Jd, Je, Jf, Jg, Jh, Ji, Jj, Jk, Jl, Jm, Jn, Jo, Jp, Jq, Jr, Js, Jt, Nat.reduceAdd])
              exact hfin
            | false =>
              try simp (disch := first | omega | with_unfolding_all exact id rfl | with_unfolding_all exact Nat.le_of_ble_eq_true rfl | (simp only [Jd, Je, Jr, Js, Jt, Nat.reduceAdd, allOne, oneCell, Bool.and_self, Jc]; first | done | omega)) only [hia, hld, h05.rd, hdec, d1, hstep, ↓Qa, ↓Qb, Qd, Qe, Qf, Qg, Qh, Qi, Qj, Qk, Ql, Qm, Qn, Qo, Qp, Qq, Qr, Qs, Qt, Qu, Qv, Qw, Qx, Qy, ptrTo, Qz, QA, QB, QC, QD, QE, QF, QG, QH, QI, QJ, QK, QL, QM, QN, QO, QP, QQ, QR, QS, QT, QU, QV, QW, QX, QY, QZ, Ja, Jb, Jc, Jd, Je, Jf, Jg, Jh, Ji, Jj, Jk, Jl, Jm, Jn, Jo, Jp, Jq, Jr, Js, Jt, Nat.reduceAdd]
              repeat (rw [join_e]; try simp (disch := first | omega | with_unfolding_all exact id rfl | with_unfolding_all exact Nat.le_of_ble_eq_true rfl | (simp only [Jd, Je, Jr, Js, Jt, Nat.reduceAdd, allOne, oneCell, Bool.and_self, Jc]; first | done | omega)) only [hia, hld, h05.rd, hdec, d1, hstep, ↓Qa, ↓Qb, Qd, Qe, Qf, Qg, Qh, Qi, Qj, Qk, Ql, Qm, Qn, Qo, Qp, Qq, Qr, Qs, Qt, Qu, Qv, Qw, Qx, Qy, ptrTo, Qz, QA, QB, QC, QD, QE, QF, QG, QH, QI, QJ, QK, QL, QM, QN, QO, QP, QQ, QR, QS, QT, QU, QV, QW, QX, QY, QZ, Ja, Jb, Jc, Jd, Je, Jf, Jg, Jh, Ji, Jj, Jk, Jl, Jm, Jn, Jo, Jp, Jq, Jr, Js, Jt, Nat.reduceAdd])
              exact hfin
          · have d1 : decide ((nn l)[i] = g) = false := decide_eq_false hxe
            rw [d1] at hfin
            simp only [Bool.or_false, Bool.false_or, Bool.true_and] at hfin
            cases b1 with
            | true =>
              try simp (disch := first | omega | with_unfolding_all exact id rfl | with_unfolding_all exact Nat.le_of_ble_eq_true rfl | (simp only [Jd, Je, Jr, Js, Jt, Nat.reduceAdd, allOne, oneCell, Bool.and_self, Jc]; first | done | omega)) only [hia, hld, h05.rd, hdec, d1, hstep, ↓Qa, ↓Qb, Qd, Qe, Qf, Qg, Qh, Qi, Qj, Qk, Ql, Qm, Qn, Qo, Qp, Qq, Qr, Qs, Qt, Qu, Qv, Qw, Qx, Qy, ptrTo, Qz, QA, QB, QC, QD, QE, QF, QG, QH, QI, QJ, QK, QL, QM, QN, QO, QP, QQ, QR, QS, QT, QU, QV, QW, QX, QY, QZ, Ja, Jb, Jc, Jd, Je, Jf, Jg, Jh, Ji, Jj, Jk, Jl, Jm, Jn, Jo, Jp, Jq, Jr, Js, Jt, Nat.reduceAdd]
              repeat (rw [join_e]; try simp (disch := first | omega | with_unfolding_all exact id rfl | with_unfolding_all exact Nat.le_of_ble_eq_true rfl | (simp only [Jd, Je, Jr, Js, Jt, Nat.reduceAdd, allOne, oneCell, Bool.and_self, Jc]; first | done | omega)) only [hia, hld, h05.rd, hdec, d1, hstep, ↓Qa, ↓Qb, Qd, Qe, Qf, Qg, Qh, Qi, Qj, Qk, Ql, Qm, Qn, Qo, Qp, Qq, Qr, Qs, Qt, Qu, Qv, Qw, Qx, Qy, ptrTo, Qz, QA, QB, QC, QD, QE, QF, QG, QH, QI, QJ, QK, QL, QM, QN, QO, QP, QQ, QR, QS, QT, QU, QV, QW, QX, QY, QZ, Ja, Jb, Jc, Jd, Je, Jf, Jg, Jh, Ji, Jj, Jk, Jl, Jm, Jn, Jo, Jp, Jq, Jr, Js, Jt, Nat.reduceAdd])
              refine rlies_sp _ _ hXi (by omega) ?_
              rw [hsub]
              try simp (disch := first | omega | with_unfolding_all exact id rfl | with_unfolding_all exact Nat.le_of_ble_eq_true rfl | (simp only [Jd, Je, Jr, Js, Jt, Nat.reduceAdd, allOne, oneCell, Bool.and_self, Jc]; first | done | omega)) only [aun_not, hstep, ↓Qa, ↓Qb, Qd, Qe, Qf, Qg, Qh, Qi, Qj, Qk, Ql, Qm, Qn, Qo, Qp, Qq, Qr, Qs, Qt, Qu, Qv, Qw, Qx, Qy, ptrTo, Qz, QA, QB, QC, QD, QE, QF, QG, QH, QI, QJ, QK, QL, QM, QN, QO, QP, QQ, QR, QS, QT, QU, QV, QW, QX, QY, QZ, Ja, Jb, Jc, Jd, Je, Jf, Jg, Jh, Ji, Jj, Jk, Jl, Jm, Jn, Jo, Jp, Jq, Jr, Js, Jt, Nat.reduceAdd]
              repeat (rw [join_e]; try simp (disch := first | omega | with_unfolding_all exact id rfl | with_unfolding_all exact Nat.le_of_ble_eq_true rfl | (simp only [Jd, Je, Jr, Js, Jt, Nat.reduceAdd, allOne, oneCell, Bool.and_self, Jc]; first | done | omega)) only [aun_not, hstep, ↓Qa, ↓Qb, Qd, Qe, Qf, Qg, Qh, Qi, Qj, Qk, Ql, Qm, Qn, Qo, Qp, Qq, Qr, Qs, Qt, Qu, Qv, Qw, Qx, Qy, ptrTo, Qz, QA, QB, QC, QD, QE, QF, QG, QH, QI, QJ, QK, QL, QM, QN, QO, QP, QQ, QR, QS, QT, QU, QV, QW, QX, QY, QZ, Ja, Jb, Jc, Jd, Je, Jf, Jg, Jh, Ji, Jj, Jk, Jl, Jm, Jn, Jo, Jp, Jq, Jr, Js, Jt, Nat.reduceAdd])
              exact hfin
            | false =>
              try simp (disch := first | omega | with_unfolding_all exact id rfl | with_unfolding_all exact Nat.le_of_ble_eq_true rfl | (simp only [Jd, Je, Jr, Js, Jt, Nat.reduceAdd, allOne, oneCell, Bool.and_self, Jc]; first | done | omega)) only [hia, hld, h05.rd, hdec, d1, hstep, ↓Qa, ↓Qb, Qd, Qe, Qf, Qg, Qh, Qi, Qj, Qk, Ql, Qm, Qn, Qo, Qp, Qq, Qr, Qs, Qt, Qu, Qv, Qw, Qx, Qy, ptrTo, Qz, QA, QB, QC, QD, QE, QF, QG, QH, QI, QJ, QK, QL, QM, QN, QO, QP, QQ, QR, QS, QT, QU, QV, QW, QX, QY, QZ, Ja, Jb, Jc, Jd, Je, Jf, Jg, Jh, Ji, Jj, Jk, Jl, Jm, Jn, Jo, Jp, Jq, Jr, Js, Jt, Nat.reduceAdd]
              repeat (rw [join_e]; try simp (disch := first | omega | with_unfolding_all exact id rfl | with_unfolding_all exact Nat.le_of_ble_eq_true rfl | (simp only [Jd, Je, Jr, Js, Jt, Nat.reduceAdd, allOne, oneCell, Bool.and_self, Jc]; first | done | omega)) only [hia, hld, h05.rd, hdec, d1, hstep, ↓Qa, ↓Qb, Qd, Qe, Qf, Qg, Qh, Qi, Qj, Qk, Ql, Qm, Qn, Qo, Qp, Qq, Qr, Qs, Qt, Qu, Qv, Qw, Qx, Qy, ptrTo, Qz, QA, QB, QC, QD, QE, QF, QG, QH, QI, QJ, QK, QL, QM, QN, QO, QP, QQ, QR, QS, QT, QU, QV, QW, QX, QY, QZ, Ja, Jb, Jc, Jd, Je, Jf, Jg, Jh, Ji, Jj, Jk, Jl, Jm, Jn, Jo, Jp, Jq, Jr, Js, Jt, Nat.reduceAdd])
              refine rlies_sp _ _ hXi (by omega) ?_
              rw [hsub]
              try simp (disch := first | omega | with_unfolding_all exact id rfl | with_unfolding_all exact Nat.le_of_ble_eq_true rfl | (simp only [Jd, Je, Jr, Js, Jt, Nat.reduceAdd, allOne, oneCell, Bool.and_self, Jc]; first | done | omega)) only [aun_not, hstep, ↓Qa, ↓Qb, Qd, Qe, Qf, Qg, Qh, Qi, Qj, Qk, Ql, Qm, Qn, Qo, Qp, Qq, Qr, Qs, Qt, Qu, Qv, Qw, Qx, Qy, ptrTo, Qz, QA, QB, QC, QD, QE, QF, QG, QH, QI, QJ, QK, QL, QM, QN, QO, QP, QQ, QR, QS, QT, QU, QV, QW, QX, QY, QZ, Ja, Jb, Jc, Jd, Je, Jf, Jg, Jh, Ji, Jj, Jk, Jl, Jm, Jn, Jo, Jp, Jq, Jr, Js, Jt, Nat.reduceAdd]
              repeat (rw [join_e]; try simp (disch := first | omega | with_unfolding_all exact id rfl | with_unfolding_all exact Nat.le_of_ble_eq_true rfl | (simp only [Jd, Je, Jr, Js, Jt, Nat.reduceAdd, allOne, oneCell, Bool.and_self, Jc]; first | done | omega)) only [aun_not, hstep, ↓Qa, ↓Qb, Qd, Qe, Qf, Qg, Qh, Qi, Qj, Qk, Ql, Qm, Qn, Qo, Qp, Qq, Qr, Qs, Qt, Qu, Qv, Qw, Qx, Qy, ptrTo, Qz, QA, QB, QC, QD, QE, QF, QG, QH, QI, QJ, QK, QL, QM, QN, QO, QP, QQ, QR, QS, QT, QU, QV, QW, QX, QY, QZ, Ja, Jb, Jc, Jd, Je, Jf, Jg, Jh, Ji, Jj, Jk, Jl, Jm, Jn, Jo, Jp, Jq, Jr, Js, Jt, Nat.reduceAdd])
              exact hfin
      · have hie : i = (nn l).length := by omega
        subst hie
        simp only [List.take_length]
        by_cases hf : (isB (nn l) g && lowB (nn l) g) = true
        · rw [if_pos hf] at hfs
          rw [Bool.and_eq_true] at hf
          rw [hf.1, hf.2]
          obtain ⟨u2, m7, k1, k2, k3, k4, k5⟩ := GN.snoc3 (P := Tryd.prog) (t := 22) (L := L) (m0 := m) g ael22 (by omega) ho (by omega) (by omega) (GtB.gt G4 e5 (by omega)) (by omega)
          have h7 : At m7 m2.next [.int .i64 (a : Int), uo] := (k5 _ h5.lt fun hc => by have := ho.fr _ hc; omega).trans h5
          have h7l := h7.lt
          have hb22 := bs22 m6 (g : Int)
          have k2f := k2.fr
          obtain ⟨q, c', rfl⟩ := k2.ex
          try simp (disch := first | omega | with_unfolding_all exact id rfl | with_unfolding_all exact Nat.le_of_ble_eq_true rfl | (simp only [Jd, Je, Jr, Js, Jt, Nat.reduceAdd, allOne, oneCell, Bool.and_self, Jc]; first | done | omega)) only [h5.rd, hb22, k1, h7.rd, hstepg, ↓Qa, ↓Qb, Qd, Qe, Qf, Qg, Qh, Qi, Qj, Qk, Ql, Qm, Qn, Qo, Qp, Qq, Qr, Qs, Qt, Qu, Qv, Qw, Qx, Qy, ptrTo, Qz, QA, QB, QC, QD, QE, QF, QG, QH, QI, QJ, QK, QL, QM, QN, QO, QP, QQ, QR, QS, QT, QU, QV, QW, QX, QY, QZ, Ja, Jb, Jc, Jd, Je, Jf, Jg, Jh, Ji, Jj, Jk, Jl, Jm, Jn, Jo, Jp, Jq, Jr, Js, Jt, Nat.reduceAdd]
          repeat (rw [join_e]; try simp (disch := first | omega | with_unfolding_all exact id rfl | with_unfolding_all exact Nat.le_of_ble_eq_true rfl | (simp only [Jd, Je, Jr, Js, Jt, Nat.reduceAdd, allOne, oneCell, Bool.and_self, Jc]; first | done | omega)) only [h5.rd, hb22, k1, h7.rd, hstepg, ↓Qa, ↓Qb, Qd, Qe, Qf, Qg, Qh, Qi, Qj, Qk, Ql, Qm, Qn, Qo, Qp, Qq, Qr, Qs, Qt, Qu, Qv, Qw, Qx, Qy, ptrTo, Qz, QA, QB, QC, QD, QE, QF, QG, QH, QI, QJ, QK, QL, QM, QN, QO, QP, QQ, QR, QS, QT, QU, QV, QW, QX, QY, QZ, Ja, Jb, Jc, Jd, Je, Jf, Jg, Jh, Ji, Jj, Jk, Jl, Jm, Jn, Jo, Jp, Jq, Jr, Js, Jt, Nat.reduceAdd])
          have e7 : GtB m2.next m4 m7 := ⟨by omega, fun c hc hne => (k5 c (by omega) (fun hb => by have := ho.fr c hb; omega)).trans (e5.kept c hc hne)⟩
          refine hself hg2 _ _ ⟨rfl, e7.put _, _, Mem.rd_put_eq _ _ h7l, ?_⟩
          rw [hfs]
          exact (k2.le (by omega)).monoB (GtB.put ⟨Nat.le_refl _, fun _ _ _ => rfl⟩ _) (fun hb => by have := k2f _ hb; omega)
        · rw [if_neg hf] at hfs
          have hgo : self [.int .i64 ((g + 1 : Nat) : Int)] m6 = some () := hself hg2 _ _ ⟨rfl, e5, uo, h5, by rw [hfs]; exact ho⟩
          cases h8 : isB (nn l) g with
          | false =>
            try simp (disch := first | omega | with_unfolding_all exact id rfl | with_unfolding_all exact Nat.le_of_ble_eq_true rfl | (simp only [Jd, Je, Jr, Js, Jt, Nat.reduceAdd, allOne, oneCell, Bool.and_self, Jc]; first | done | omega)) only [hstepg, ↓Qa, ↓Qb, Qd, Qe, Qf, Qg, Qh, Qi, Qj, Qk, Ql, Qm, Qn, Qo, Qp, Qq, Qr, Qs, Qt, Qu, Qv, Qw, Qx, Qy, ptrTo, Qz, QA, QB, QC, QD, QE, QF, QG, QH, QI, QJ, QK, QL, QM, QN, QO, QP, QQ, QR, QS, QT, QU, QV, QW, QX, QY, QZ, Ja, Jb, Jc, Jd, Je, Jf, Jg, Jh, Ji, Jj, Jk, Jl, Jm, Jn, Jo, Jp, Jq, Jr, Js, Jt, Nat.reduceAdd]
            repeat (rw [join_e]; try simp (disch := first | omega | with_unfolding_all exact id rfl | with_unfolding_all exact Nat.le_of_ble_eq_true rfl | (simp only [Jd, Je, Jr, Js, Jt, Nat.reduceAdd, allOne, oneCell, Bool.and_self, Jc]; first | done | omega)) only [hstepg, ↓Qa, ↓Qb, Qd, Qe, Qf, Qg, Qh, Qi, Qj, Qk, Ql, Qm, Qn, Qo, Qp, Qq, Qr, Qs, Qt, Qu, Qv, Qw, Qx, Qy, ptrTo, Qz, QA, QB, QC, QD, QE, QF, QG, QH, QI, QJ, QK, QL, QM, QN, QO, QP, QQ, QR, QS, QT, QU, QV, QW, QX, QY, QZ, Ja, Jb, Jc, Jd, Je, Jf, Jg, Jh, Ji, Jj, Jk, Jl, Jm, Jn, Jo, Jp, Jq, Jr, Js, Jt, Nat.reduceAdd])
            exact hgo
          | true =>
            have h9 : lowB (nn l) g = false := by
              cases h9 : lowB (nn l) g with
              | false => rfl
              | true => exact absurd (by rw [h8, h9]; rfl) hf
            rw [h9]
            try simp (disch := first | omega | with_unfolding_all exact id rfl | with_unfolding_all exact Nat.le_of_ble_eq_true rfl | (simp only [Jd, Je, Jr, Js, Jt, Nat.reduceAdd, allOne, oneCell, Bool.and_self, Jc]; first | done | omega)) only [hstepg, ↓Qa, ↓Qb, Qd, Qe, Qf, Qg, Qh, Qi, Qj, Qk, Ql, Qm, Qn, Qo, Qp, Qq, Qr, Qs, Qt, Qu, Qv, Qw, Qx, Qy, ptrTo, Qz, QA, QB, QC, QD, QE, QF, QG, QH, QI, QJ, QK, QL, QM, QN, QO, QP, QQ, QR, QS, QT, QU, QV, QW, QX, QY, QZ, Ja, Jb, Jc, Jd, Je, Jf, Jg, Jh, Ji, Jj, Jk, Jl, Jm, Jn, Jo, Jp, Jq, Jr, Js, Jt, Nat.reduceAdd]
            repeat (rw [join_e]; try simp (disch := first | omega | with_unfolding_all exact id rfl | with_unfolding_all exact Nat.le_of_ble_eq_true rfl | (simp only [Jd, Je, Jr, Js, Jt, Nat.reduceAdd, allOne, oneCell, Bool.and_self, Jc]; first | done | omega)) only [hstepg, ↓Qa, ↓Qb, Qd, Qe, Qf, Qg, Qh, Qi, Qj, Qk, Ql, Qm, Qn, Qo, Qp, Qq, Qr, Qs, Qt, Qu, Qv, Qw, Qx, Qy, ptrTo, Qz, QA, QB, QC, QD, QE, QF, QG, QH, QI, QJ, QK, QL, QM, QN, QO, QP, QQ, QR, QS, QT, QU, QV, QW, QX, QY, QZ, Ja, Jb, Jc, Jd, Je, Jf, Jg, Jh, Ji, Jj, Jk, Jl, Jm, Jn, Jo, Jp, Jq, Jr, Js, Jt, Nat.reduceAdd])
            exact hgo
    · have hge : g = 2 ^ a := by omega
      subst hge
      rw [hth] at ho
      have h15 := h14.monoB e5 (by omega)
      have h15l := h15.lt
      have hof := ho.fr
      have G5 := GtB.gt G4 e5 (by omega)
      obtain ⟨q, c', rfl⟩ := ho.ex
      try simp (disch := first | omega | with_unfolding_all exact id rfl | with_unfolding_all exact Nat.le_of_ble_eq_true rfl | (simp only [Jd, Je, Jr, Js, Jt, Nat.reduceAdd, allOne, oneCell, Bool.and_self, Jc]; first | done | omega)) only [h5.rd, h15.rd, ↓Qa, ↓Qb, Qd, Qe, Qf, Qg, Qh, Qi, Qj, Qk, Ql, Qm, Qn, Qo, Qp, Qq, Qr, Qs, Qt, Qu, Qv, Qw, Qx, Qy, ptrTo, Qz, QA, QB, QC, QD, QE, QF, QG, QH, QI, QJ, QK, QL, QM, QN, QO, QP, QQ, QR, QS, QT, QU, QV, QW, QX, QY, QZ, Ja, Jb, Jc, Jd, Je, Jf, Jg, Jh, Ji, Jj, Jk, Jl, Jm, Jn, Jo, Jp, Jq, Jr, Js, Jt, Nat.reduceAdd]
      have := hk _ _ (Mem.put_gt G5 (b := m.next + 1) (some ⟨1, [.int .i64 (a : Int), .slice q (minl (nn l)).length c'], none⟩) (by omega)) (by
        rw [leastX, if_pos h4]
        exact ho.inn.put (fun hh => by have := hof _ hh; omega) _)
      rw [if_pos h4, h4] at this
      exact this
end
end Go.Vit
