/- Walks: Turns, both ways. -/
import Derived.Test.YtnmmjbclidbdbaaDoorW6
import Derived.Test.YtnmmjbclidbdbaaDoorP3
set_option linter.unusedSimpArgs false
set_option linter.unusedVariables false
set_option maxRecDepth 20000
namespace Go.Vit
open Go Go.Proofs
attribute [local irreducible] runT loopS
theorem u89 : Tryd.prog.underlying 89 = some (.slice 4) := by kernel_rfl
theorem az4 : azero Tryd.prog 4 = some [.bool false] := by kernel_rfl
theorem ts4 : tsize Tryd.prog 4 = some 1 := by kernel_rfl
theorem tby4 : tbytes Tryd.prog 4 = some 1 := by kernel_rfl
/-- A row of truth values. -/
def bl (n : Nat) (C : Nat → Bool) : List Value := (List.range n).map fun j => .bool (C j)
theorem bl_len (n : Nat) (C : Nat → Bool) : (bl n C).length = n := by unfold bl; rw [List.length_map, List.length_range]
theorem bl_get {n i : Nat} {C : Nat → Bool} (h : i < n) : (bl n C)[i]? = some (.bool (C i)) := by
  unfold bl
  rw [List.getElem?_map, List.getElem?_range h]; rfl
theorem azrow_rep (x : Value) : ∀ n, azrow [x] n = List.replicate n x
  | 0 => rfl
  | n + 1 => by
    show x :: azrow [x] n = _
    rw [azrow_rep x n]; rfl
theorem bl_false (n : Nat) : azrow [.bool false] n = bl n (fun _ => false) := by
  rw [azrow_rep]
  unfold bl
  refine List.ext_getElem? fun i => ?_
  by_cases h : i < n
  · rw [List.getElem?_replicate, if_pos h, List.getElem?_map, List.getElem?_range h]; rfl
  · rw [List.getElem?_eq_none (by rw [List.length_replicate]; omega), List.getElem?_eq_none (by rw [List.length_map, List.length_range]; omega)]
theorem make89 (m : Mem) {a : Nat} (ha : a ≤ 9) : amakeSlice Tryd.prog m 89 (.int .i64 (a : Int)) (.int .i64 (a : Int)) = some (.slice (some ⟨m.next, 0, none⟩) a a, m.push ⟨1, bl a (fun _ => false), none⟩) := by
  unfold amakeSlice
  have h1 : anat (.int .i64 (a : Int)) = some a := by
    show anat (.int .i64 (Int.ofNat a)) = _
    simp only [anat, natK_eq]
  simp only [u89, az4, ts4, tby4, h1]
  have h2 : Nat.mul 1 a = a := Nat.one_mul a
  rw [h2, ble_t (Nat.le_refl a), ble_t (show a ≤ 1048576 by omega), ble_t (show a ≤ 281474976710656 by omega)]
  simp only [List.length_singleton, Nat.beq_refl, Bool.and_self, anew_eq, bl_false]
theorem bl_ia {b n i : Nat} (h : i < n) : ia 1 (.slice (some ⟨b, 0, none⟩) n n) (.int .i64 (i : Int)) = some (.pointer (some ⟨b, i, none⟩)) := by
  rw [ia_e h, Nat.zero_add, Nat.mul_one]
theorem bl_ld {m : Mem} {b n i : Nat} {C : Nat → Bool} (hr : m.rd b = some ⟨1, bl n C, none⟩) (h : i < n) : ld1 m (.pointer (some ⟨b, i, none⟩)) = some (.bool (C i)) := by
  rw [ld1_u, hr, rdo_e, bl_get h]
theorem bl_st {L : Nat} {m : Mem} {b n i : Nat} {C : Nat → Bool} (hr : m.rd b = some ⟨1, bl n C, none⟩) (h : i < n) (hL : L ≤ b) (x : Bool) :
    st1 1 L m (.pointer (some ⟨b, i, none⟩)) (.bool x) = some (Go.undef, m.put b (some ⟨1, bl n (fun j => if j = i then x else C j), none⟩)) := by
  rw [st_set hr (by rw [bl_len]; exact h) hL rfl rfl]
  have : (bl n C).set i (.bool x) = bl n (fun j => if j = i then x else C j) := by
    refine List.ext_getElem? fun j => ?_
    rw [List.getElem?_set, bl_len]
    by_cases hj : j < n
    · have hr2 := bl_get (C := fun j => if j = i then x else C j) hj
      rw [hr2]
      by_cases hij : i = j
      · subst hij; rw [if_pos rfl, if_pos h, if_pos rfl]
      · rw [if_neg hij, bl_get hj, if_neg (fun e => hij e.symm)]
    · rw [if_neg (by omega), List.getElem?_eq_none (by rw [bl_len]; omega), List.getElem?_eq_none (by rw [bl_len]; omega)]
  rw [this]
def tuX (N : Int) (l : List Int) : List Nat := if chkD N N l = 0 then turnL N.toNat (nnl l) else []
theorem chkT_ok {N : Int} {l : List Int} (h : chkD N N l = 0) : ∃ (n : Nat) (w : List Nat), N = n ∧ l = ci w ∧ 1 ≤ n ∧ n ≤ 8 ∧ w.length ≤ n ∧ ∀ x ∈ w, x ≤ n := by
  unfold chkD at h
  split at h
  · rename_i h1
    obtain ⟨h1, h2⟩ := h1
    split at h
    · cases h
    · split at h
      · rename_i h3 h4
        refine ⟨N.toNat, l.map Int.toNat, by omega, ?_, by omega, by omega, by rw [List.length_map]; omega, fun x hx => ?_⟩
        · unfold ci
          rw [List.map_map]
          conv => lhs; rw [← List.map_id l]
          refine List.map_congr_left fun x hx => ?_
          have := (h4 x hx).1
          show x = ((x.toNat : Nat) : Int)
          omega
        · obtain ⟨y, hy, rfl⟩ := List.mem_map.1 hx
          obtain ⟨g1, g2⟩ := h4 y hy
          omega
      · cases h
  · cases h
theorem turnI_succ (a : Nat) (w : List Nat) (i : Nat) : (List.range (i + 1)).filter (fun s => !circ (a + 1) (fun _ => false) w (a - s)) = (List.range i).filter (fun s => !circ (a + 1) (fun _ => false) w (a - s)) ++ (if circ (a + 1) (fun _ => false) w (a - i) then [] else [i]) := by
  rw [List.range_succ, List.filter_append]
  cases h : circ (a + 1) (fun _ => false) w (a - i) with
  | true => simp [h]
  | false => simp [h]
section
variable {lf n L : Nat} {m : Mem} {k : Value → Mem → Option Unit}
theorem turns_sp {N : Int} {v : Value} {l : List Int} (hlf : 1000000 ≤ lf) (hL : L ≤ m.next) (hv : IL m v l) (hl : l.length < 1000)
    (hk : ∀ u m', Gt m m' → GN m.next m' u (tuX N l) → k (.tuple ⟨[u, .int .i64 (chkD N N l)]⟩) m' = some ()) :
    runT (tab lf) (n + 6) 39 [.int .i64 N, v] L m k = some () := by
  rw [r39]; dsimp only [S39, iofNat, inegSucc]
  try simp (disch := first | omega | with_unfolding_all exact id rfl | with_unfolding_all exact Nat.le_of_ble_eq_true rfl | (simp only [Jd, Je, Jr, Js, Jt, Nat.reduceAdd, allOne, oneCell, Bool.and_self, Jc]; first | done | omega)) only [↓Qa, ↓Qb, ↓Qc, Qd, Qe, Qf, Qg, Qh, Qi, Qj, Qk, Ql, Qm, Qn, Qo, Qp, Qq, Qr, Qs, Qt, Qu, Qv, Qw, Qx, Qy, ptrTo, Qz, QA, QB, QC, QD, QE, QF, QG, QH, QI, QJ, QK, QL, QM, QN, QO, QP, QQ, QR, QS, QT, QU, QV, QW, QX, QY, QZ, Ja, Jb, Jc, Jd, Je, Jf, Jg, Jh, Ji, Jj, Jk, Jl, Jm, Jn, Jo, Jp, Jq, Jr, Js, Jt, Nat.reduceAdd]
  refine listed_sp hlf hv (by omega) fun m1 e1 => ?_
  have n1 := e1.next
  try simp (disch := first | omega | with_unfolding_all exact id rfl | with_unfolding_all exact Nat.le_of_ble_eq_true rfl | (simp only [Jd, Je, Jr, Js, Jt, Nat.reduceAdd, allOne, oneCell, Bool.and_self, Jc]; first | done | omega)) only [↓Qa, ↓Qb, ↓Qc, Qd, Qe, Qf, Qg, Qh, Qi, Qj, Qk, Ql, Qm, Qn, Qo, Qp, Qq, Qr, Qs, Qt, Qu, Qv, Qw, Qx, Qy, ptrTo, Qz, QA, QB, QC, QD, QE, QF, QG, QH, QI, QJ, QK, QL, QM, QN, QO, QP, QQ, QR, QS, QT, QU, QV, QW, QX, QY, QZ, Ja, Jb, Jc, Jd, Je, Jf, Jg, Jh, Ji, Jj, Jk, Jl, Jm, Jn, Jo, Jp, Jq, Jr, Js, Jt, Nat.reduceAdd]
  refine oIf_ndec (fun h => ?_) (fun h => ?_)
  · exact hk _ m1 e1 (by unfold tuX; rw [if_neg h]; exact GN.nil _ _)
  · have h0 : chkD N N l = 0 := h
    obtain ⟨a, w, rfl, rfl, ha1, ha8, hwl, hw⟩ := chkT_ok h0
    have htu : tuX a (ci w) = turnL a w := by unfold tuX; rw [if_pos h0, nnl_ci]; rfl
    rw [htu, h0] at hk
    have hv1 : IN m1 v w := IL.mono hv e1
    rw [oInt_add ⟨by omega, by omega⟩, show (a : Int) + 1 = ((a + 1 : Nat) : Int) by omega, make89 m1 (by omega), oRes_e]
    have e2 := Mem.gt_push m1 ⟨1, bl (a + 1) (fun _ => false), none⟩
    have q2 : (m1.push ⟨1, bl (a + 1) (fun _ => false), none⟩).rd m1.next = some ⟨1, bl (a + 1) (fun _ => false), none⟩ := Mem.rd_push _ _
    generalize m1.push ⟨1, bl (a + 1) (fun _ => false), none⟩ = m2 at e2 q2 ⊢
    have n2 := e2.next
    have hv2 := hv1.mono e2
    try simp (disch := first | omega | with_unfolding_all exact id rfl | with_unfolding_all exact Nat.le_of_ble_eq_true rfl | (simp only [Jd, Je, Jr, Js, Jt, Nat.reduceAdd, allOne, oneCell, Bool.and_self, Jc]; first | done | omega)) only [hv2.ln, ↓Qa, ↓Qb, ↓Qc, Qd, Qe, Qf, Qg, Qh, Qi, Qj, Qk, Ql, Qm, Qn, Qo, Qp, Qq, Qr, Qs, Qt, Qu, Qv, Qw, Qx, Qy, ptrTo, Qz, QA, QB, QC, QD, QE, QF, QG, QH, QI, QJ, QK, QL, QM, QN, QO, QP, QQ, QR, QS, QT, QU, QV, QW, QX, QY, QZ, Ja, Jb, Jc, Jd, Je, Jf, Jg, Jh, Ji, Jj, Jk, Jl, Jm, Jn, Jo, Jp, Jq, Jr, Js, Jt, Nat.reduceAdd]
    refine loop_up w.length (fun i vs m' => vs = [.int .i64 (i : Int)] ∧ Gt m m' ∧ IN m' v w ∧ m1.next < m'.next ∧ m'.rd m1.next = some ⟨1, bl (a + 1) (circ (a + 1) (fun _ => false) (w.take i)), none⟩) (by omega) ⟨rfl, e1.trans e2, hv2, Mem.rd_lt q2, q2⟩ ?_
    rintro i vs m3 hi ⟨rfl, e3, hv3, l3, q3⟩ self hself
    have n3 := e3.next
    try simp (disch := first | omega | with_unfolding_all exact id rfl | with_unfolding_all exact Nat.le_of_ble_eq_true rfl | (simp only [Jd, Je, Jr, Js, Jt, Nat.reduceAdd, allOne, oneCell, Bool.and_self, Jc]; first | done | omega)) only [↓Qa, ↓Qb, ↓Qc, Qd, Qe, Qf, Qg, Qh, Qi, Qj, Qk, Ql, Qm, Qn, Qo, Qp, Qq, Qr, Qs, Qt, Qu, Qv, Qw, Qx, Qy, ptrTo, Qz, QA, QB, QC, QD, QE, QF, QG, QH, QI, QJ, QK, QL, QM, QN, QO, QP, QQ, QR, QS, QT, QU, QV, QW, QX, QY, QZ, Ja, Jb, Jc, Jd, Je, Jf, Jg, Jh, Ji, Jj, Jk, Jl, Jm, Jn, Jo, Jp, Jq, Jr, Js, Jt, Nat.reduceAdd]
    refine oIf_dec (fun h1 => ?_) (fun h1 => ?_)
    · have hil : i < w.length := by omega
      have hwi := hw _ (List.getElem_mem hil)
      have hcnt := cntC_circ (a + 1) (w.take i) (fun _ => false)
      rw [cntC_none, List.length_take] at hcnt
      obtain ⟨kf, hkf⟩ := cntC_free (n := a + 1) (C := circ (a + 1) (fun _ => false) (w.take i)) (p := w[i]) (by omega) (by omega)
      obtain ⟨k1, k2, k3⟩ := cfree_some hkf
      have hsn : circ (a + 1) (fun _ => false) (w.take (i + 1)) = fun j => circ (a + 1) (fun _ => false) (w.take i) j || decide (j = (w[i] + kf) % (a + 1)) := by
        rw [List.take_add_one, List.getElem?_eq_getElem hil]
        show circ _ _ (w.take i ++ [w[i]]) = _
        rw [circ_snoc]
        unfold cput
        rw [hkf]
      rw [hv3.ia hil, oOpt_e, hv3.ld hil, oOpt_e]
      generalize w[i] = p at hwi hkf k2 k3 hsn ⊢
      generalize circ (a + 1) (fun _ => false) (w.take i) = C at q3 hkf k2 k3 hsn
      refine loop_up kf (fun j vs m' => vs = [.int .i64 (((p + j) % (a + 1) : Nat) : Int)] ∧ m' = m3) (by omega) ⟨by rw [Nat.add_zero, Nat.mod_eq_of_lt (by omega)], rfl⟩ ?_
      rintro j vs m4 hj ⟨rfl, rfl⟩ self2 hself2
      have hm := Nat.mod_lt (p + j) (show 0 < a + 1 by omega)
      rw [uc_e, bl_ia hm, oOpt_e, bl_ld q3 hm, oOpt_e]
      rcases Nat.lt_or_eq_of_le hj with hj | hj
      · rw [k3 j hj, oIf_t, oInt_add ⟨by omega, by omega⟩, oInt_add ⟨by omega, by omega⟩]
        rw [show (((p + j) % (a + 1) : Nat) : Int) + 1 = (((p + j) % (a + 1) + 1 : Nat) : Int) by omega, show (a : Int) + 1 = ((a + 1 : Nat) : Int) by omega, oInt_remN (by omega), Nat.mod_add_mod]
        exact hself2 hj _ _ ⟨rfl, rfl⟩
      · subst hj
        rw [k2, oIf_f, oOpt_e, bl_st q3 hm (by omega), oRes_e, oInt_add ⟨by omega, by omega⟩]
        refine hself hil _ _ ⟨rfl, Mem.put_gt e3 _ (by omega), IN.put hv3 ?_ _, l3, ?_⟩
        · intro hb
          have := Sl.bid_lt hv1 (by rw [ci_length]; omega) _ hb
          omega
        · rw [Mem.rd_put_eq _ _ l3, hsn]
          congr 2
          unfold bl
          refine congrArg (fun f => (List.range (a + 1)).map f) (funext fun x => ?_)
          show Value.bool (if x = (p + j) % (a + 1) then true else C x) = Value.bool (C x || decide (x = (p + j) % (a + 1)))
          by_cases hx : x = (p + j) % (a + 1)
          · rw [if_pos hx, decide_eq_true hx, Bool.or_true]
          · rw [if_neg hx, decide_eq_false hx, Bool.or_false]
    · have hiw : i = w.length := by omega
      subst hiw
      rw [List.take_length] at q3
      rw [oInt_add ⟨by omega, by omega⟩]
      refine loop_up (a + 1) (fun j vs m' => ∃ u, vs = [u, .int .i64 (j : Int)] ∧ Gt m m' ∧ m1.next < m'.next ∧ m'.rd m1.next = some ⟨1, bl (a + 1) (circ (a + 1) (fun _ => false) w), none⟩ ∧ GN (m1.next + 1) m' u ((List.range j).filter fun s => !circ (a + 1) (fun _ => false) w (a - s))) (by omega) ⟨_, rfl, e3, l3, q3, GN.nil _ _⟩ ?_
      rintro j vs m4 hj ⟨u, rfl, e4, l4, q4, hu⟩ self2 hself2
      have n4 := e4.next
      have hlen : ((List.range j).filter fun s => !circ (a + 1) (fun _ => false) w (a - s)).length ≤ j := by
        have := List.length_filter_le (fun s => !circ (a + 1) (fun _ => false) w (a - s)) (List.range j)
        rwa [List.length_range] at this
      rw [turnI_succ] at hself2
      try simp (disch := first | omega | with_unfolding_all exact id rfl | with_unfolding_all exact Nat.le_of_ble_eq_true rfl | (simp only [Jd, Je, Jr, Js, Jt, Nat.reduceAdd, allOne, oneCell, Bool.and_self, Jc]; first | done | omega)) only [↓Qa, ↓Qb, ↓Qc, Qd, Qe, Qf, Qg, Qh, Qi, Qj, Qk, Ql, Qm, Qn, Qo, Qp, Qq, Qr, Qs, Qt, Qu, Qv, Qw, Qx, Qy, ptrTo, Qz, QA, QB, QC, QD, QE, QF, QG, QH, QI, QJ, QK, QL, QM, QN, QO, QP, QQ, QR, QS, QT, QU, QV, QW, QX, QY, QZ, Ja, Jb, Jc, Jd, Je, Jf, Jg, Jh, Ji, Jj, Jk, Jl, Jm, Jn, Jo, Jp, Jq, Jr, Js, Jt, Nat.reduceAdd]
      refine oIf_dec (fun h2 => ?_) (fun h2 => ?_)
      · have hja : j ≤ a := by omega
        rw [oInt_sub ⟨by omega, by omega⟩, show (a : Int) - (j : Int) = ((a - j : Nat) : Int) by omega, bl_ia (show a - j < a + 1 by omega), oOpt_e, bl_ld q4 (show a - j < a + 1 by omega), oOpt_e]
        cases hc : circ (a + 1) (fun _ => false) w (a - j) with
        | true =>
          rw [hc] at hself2
          try simp (disch := first | omega | with_unfolding_all exact id rfl | with_unfolding_all exact Nat.le_of_ble_eq_true rfl | (simp only [Jd, Je, Jr, Js, Jt, Nat.reduceAdd, allOne, oneCell, Bool.and_self, Jc]; first | done | omega)) only [↓Qa, ↓Qb, ↓Qc, Qd, Qe, Qf, Qg, Qh, Qi, Qj, Qk, Ql, Qm, Qn, Qo, Qp, Qq, Qr, Qs, Qt, Qu, Qv, Qw, Qx, Qy, ptrTo, Qz, QA, QB, QC, QD, QE, QF, QG, QH, QI, QJ, QK, QL, QM, QN, QO, QP, QQ, QR, QS, QT, QU, QV, QW, QX, QY, QZ, Ja, Jb, Jc, Jd, Je, Jf, Jg, Jh, Ji, Jj, Jk, Jl, Jm, Jn, Jo, Jp, Jq, Jr, Js, Jt, Nat.reduceAdd]
          rw [oInt_add ⟨by omega, by omega⟩]
          exact hself2 (by omega) _ _ ⟨u, rfl, e4, l4, q4, by rw [if_pos rfl, List.append_nil]; exact hu⟩
        | false =>
          rw [hc] at hself2
          try simp (disch := first | omega | with_unfolding_all exact id rfl | with_unfolding_all exact Nat.le_of_ble_eq_true rfl | (simp only [Jd, Je, Jr, Js, Jt, Nat.reduceAdd, allOne, oneCell, Bool.and_self, Jc]; first | done | omega)) only [↓Qa, ↓Qb, ↓Qc, Qd, Qe, Qf, Qg, Qh, Qi, Qj, Qk, Ql, Qm, Qn, Qo, Qp, Qq, Qr, Qs, Qt, Qu, Qv, Qw, Qx, Qy, ptrTo, Qz, QA, QB, QC, QD, QE, QF, QG, QH, QI, QJ, QK, QL, QM, QN, QO, QP, QQ, QR, QS, QT, QU, QV, QW, QX, QY, QZ, Ja, Jb, Jc, Jd, Je, Jf, Jg, Jh, Ji, Jj, Jk, Jl, Jm, Jn, Jo, Jp, Jq, Jr, Js, Jt, Nat.reduceAdd]
          obtain ⟨u', m5, s1, s2, s3, s4, s5⟩ := GL.snocV (P := Tryd.prog) (L := L) (m0 := m) (j : Int) ael22 (by omega) hu (by rw [ci_length]; omega) (by omega) e4 (by omega)
          rw [bs22, oRes_e, s1, oRes_e, oInt_add ⟨by omega, by omega⟩]
          refine hself2 (by omega) _ _ ⟨u', rfl, s3, by omega, ?_, ?_⟩
          · rw [s5 _ l4 fun hb => ?_]; exact q4
            have := hu.fr _ hb; omega
          · rw [if_neg (by decide)]
            unfold GN
            rw [show ci ((List.range j).filter (fun s => !circ (a + 1) (fun _ => false) w (a - s)) ++ [j]) = ci ((List.range j).filter fun s => !circ (a + 1) (fun _ => false) w (a - s)) ++ [(j : Int)] by simp [ci]]
            exact s2.le (by omega)
      · have hja : j = a + 1 := by omega
        subst hja
        exact hk u m4 e4 (hu.le (by omega))
theorem rturns_sp {N : Int} {v : Value} {l : List Int} (hlf : 1000000 ≤ lf) (hL : L ≤ m.next) (hv : IL m v l) (hl : l.length < 1000)
    (hk : ∀ u m', Gt m m' → GN m.next m' u (tuX N l) → k (.tuple ⟨[u, .int .i64 (chkD N N l)]⟩) m' = some ()) :
    runT (tab lf) (n + 6) 40 [.int .i64 N, v] L m k = some () := by
  rw [r40]; dsimp only [S40, iofNat, inegSucc]
  try simp (disch := first | omega | with_unfolding_all exact id rfl | with_unfolding_all exact Nat.le_of_ble_eq_true rfl | (simp only [Jd, Je, Jr, Js, Jt, Nat.reduceAdd, allOne, oneCell, Bool.and_self, Jc]; first | done | omega)) only [↓Qa, ↓Qb, ↓Qc, Qd, Qe, Qf, Qg, Qh, Qi, Qj, Qk, Ql, Qm, Qn, Qo, Qp, Qq, Qr, Qs, Qt, Qu, Qv, Qw, Qx, Qy, ptrTo, Qz, QA, QB, QC, QD, QE, QF, QG, QH, QI, QJ, QK, QL, QM, QN, QO, QP, QQ, QR, QS, QT, QU, QV, QW, QX, QY, QZ, Ja, Jb, Jc, Jd, Je, Jf, Jg, Jh, Ji, Jj, Jk, Jl, Jm, Jn, Jo, Jp, Jq, Jr, Js, Jt, Nat.reduceAdd]
  refine in_sp _ _ _ ?_
  have herr : ∀ e, chkD N N l = e → e ≠ 0 → k (.tuple ⟨[.slice none 0 0, .int .i64 e]⟩) m = some () := fun e he h0 => by
    have := hk (.slice none 0 0) m (Gt.refl _) (by unfold tuX; rw [if_neg (by rw [he]; exact h0)]; exact GN.nil _ _)
    rw [he] at this
    exact this
  by_cases hN : inI N 1 8
  · try simp (disch := first | omega | with_unfolding_all exact id rfl | with_unfolding_all exact Nat.le_of_ble_eq_true rfl | (simp only [Jd, Je, Jr, Js, Jt, Nat.reduceAdd, allOne, oneCell, Bool.and_self, Jc]; first | done | omega)) only [decide_eq_true hN, hv.ln, ↓Qa, ↓Qb, ↓Qc, Qd, Qe, Qf, Qg, Qh, Qi, Qj, Qk, Ql, Qm, Qn, Qo, Qp, Qq, Qr, Qs, Qt, Qu, Qv, Qw, Qx, Qy, ptrTo, Qz, QA, QB, QC, QD, QE, QF, QG, QH, QI, QJ, QK, QL, QM, QN, QO, QP, QQ, QR, QS, QT, QU, QV, QW, QX, QY, QZ, Ja, Jb, Jc, Jd, Je, Jf, Jg, Jh, Ji, Jj, Jk, Jl, Jm, Jn, Jo, Jp, Jq, Jr, Js, Jt, Nat.reduceAdd]
    refine oIf_dec (fun h => ?_) (fun h => ?_)
    · exact herr 3 (by unfold chkD; rw [if_pos hN, if_pos h]) (by decide)
    · obtain ⟨hN1, hN2⟩ := id hN
      refine loop_up l.length (fun i vs m' => vs = [.int .i64 (i : Int)] ∧ m' = m ∧ ∀ j (h : j < l.length), j < i → inI l[j] 0 N) (by omega) ⟨rfl, rfl, fun j h hj => by omega⟩ ?_
      rintro i vs m' hi ⟨rfl, rfl, hno⟩ self hself
      try simp (disch := first | omega | with_unfolding_all exact id rfl | with_unfolding_all exact Nat.le_of_ble_eq_true rfl | (simp only [Jd, Je, Jr, Js, Jt, Nat.reduceAdd, allOne, oneCell, Bool.and_self, Jc]; first | done | omega)) only [↓Qa, ↓Qb, ↓Qc, Qd, Qe, Qf, Qg, Qh, Qi, Qj, Qk, Ql, Qm, Qn, Qo, Qp, Qq, Qr, Qs, Qt, Qu, Qv, Qw, Qx, Qy, ptrTo, Qz, QA, QB, QC, QD, QE, QF, QG, QH, QI, QJ, QK, QL, QM, QN, QO, QP, QQ, QR, QS, QT, QU, QV, QW, QX, QY, QZ, Ja, Jb, Jc, Jd, Je, Jf, Jg, Jh, Ji, Jj, Jk, Jl, Jm, Jn, Jo, Jp, Jq, Jr, Js, Jt, Nat.reduceAdd]
      refine oIf_dec (fun h1 => ?_) (fun h1 => ?_)
      · have hil : i < l.length := by omega
        rw [hv.ia hil, oOpt_e, hv.ld hil, oOpt_e]
        refine in_sp _ _ _ ?_
        by_cases hx : inI l[i] 0 N
        · try simp (disch := first | omega | with_unfolding_all exact id rfl | with_unfolding_all exact Nat.le_of_ble_eq_true rfl | (simp only [Jd, Je, Jr, Js, Jt, Nat.reduceAdd, allOne, oneCell, Bool.and_self, Jc]; first | done | omega)) only [decide_eq_true hx, ↓Qa, ↓Qb, ↓Qc, Qd, Qe, Qf, Qg, Qh, Qi, Qj, Qk, Ql, Qm, Qn, Qo, Qp, Qq, Qr, Qs, Qt, Qu, Qv, Qw, Qx, Qy, ptrTo, Qz, QA, QB, QC, QD, QE, QF, QG, QH, QI, QJ, QK, QL, QM, QN, QO, QP, QQ, QR, QS, QT, QU, QV, QW, QX, QY, QZ, Ja, Jb, Jc, Jd, Je, Jf, Jg, Jh, Ji, Jj, Jk, Jl, Jm, Jn, Jo, Jp, Jq, Jr, Js, Jt, Nat.reduceAdd]
          rw [oInt_add ⟨by omega, by omega⟩]
          refine hself hil _ _ ⟨rfl, rfl, fun j hj hji => ?_⟩
          by_cases hje : j = i
          · subst hje; exact hx
          · exact hno j hj (by omega)
        · try simp (disch := first | omega | with_unfolding_all exact id rfl | with_unfolding_all exact Nat.le_of_ble_eq_true rfl | (simp only [Jd, Je, Jr, Js, Jt, Nat.reduceAdd, allOne, oneCell, Bool.and_self, Jc]; first | done | omega)) only [decide_eq_false hx, ↓Qa, ↓Qb, ↓Qc, Qd, Qe, Qf, Qg, Qh, Qi, Qj, Qk, Ql, Qm, Qn, Qo, Qp, Qq, Qr, Qs, Qt, Qu, Qv, Qw, Qx, Qy, ptrTo, Qz, QA, QB, QC, QD, QE, QF, QG, QH, QI, QJ, QK, QL, QM, QN, QO, QP, QQ, QR, QS, QT, QU, QV, QW, QX, QY, QZ, Ja, Jb, Jc, Jd, Je, Jf, Jg, Jh, Ji, Jj, Jk, Jl, Jm, Jn, Jo, Jp, Jq, Jr, Js, Jt, Nat.reduceAdd]
          exact herr 2 (by unfold chkD; rw [if_pos hN, if_neg h, if_neg fun hh => hx (hh _ (List.getElem_mem hil))]) (by decide)
      · have h0 : chkD N N l = 0 := by
          unfold chkD
          rw [if_pos hN, if_neg h, if_pos]
          intro x hx
          obtain ⟨j, hj, rfl⟩ := List.getElem_of_mem hx
          exact hno j hj (by omega)
        clear hself hno hi h1
        obtain ⟨a, w, rfl, rfl, ha1, ha8, hwl, hw⟩ := chkT_ok h0
        have hcw := ci_length w
        have htu : tuX a (ci w) = turnL a w := by unfold tuX; rw [if_pos h0, nnl_ci]; rfl
        rw [htu, h0] at hk
        have hv1 : IN m' v w := hv
        refine loop_up (a + 1) (fun j vs m2 => ∃ u, vs = [u, .int .i64 (j : Int)] ∧ Gt m' m2 ∧ GN m'.next m2 u ((List.range j).filter fun s => !circ (a + 1) (fun _ => false) w (a - s))) (by omega) ⟨_, rfl, Gt.refl _, GN.nil _ _⟩ ?_
        rintro j vs m2 hj ⟨u, rfl, e2, hu⟩ self2 hself2
        have n2 := e2.next
        have hlen : ((List.range j).filter fun s => !circ (a + 1) (fun _ => false) w (a - s)).length ≤ j := by
          have := List.length_filter_le (fun s => !circ (a + 1) (fun _ => false) w (a - s)) (List.range j)
          rwa [List.length_range] at this
        rw [turnI_succ] at hself2
        try simp (disch := first | omega | with_unfolding_all exact id rfl | with_unfolding_all exact Nat.le_of_ble_eq_true rfl | (simp only [Jd, Je, Jr, Js, Jt, Nat.reduceAdd, allOne, oneCell, Bool.and_self, Jc]; first | done | omega)) only [↓Qa, ↓Qb, ↓Qc, Qd, Qe, Qf, Qg, Qh, Qi, Qj, Qk, Ql, Qm, Qn, Qo, Qp, Qq, Qr, Qs, Qt, Qu, Qv, Qw, Qx, Qy, ptrTo, Qz, QA, QB, QC, QD, QE, QF, QG, QH, QI, QJ, QK, QL, QM, QN, QO, QP, QQ, QR, QS, QT, QU, QV, QW, QX, QY, QZ, Ja, Jb, Jc, Jd, Je, Jf, Jg, Jh, Ji, Jj, Jk, Jl, Jm, Jn, Jo, Jp, Jq, Jr, Js, Jt, Nat.reduceAdd]
        refine oIf_dec (fun h2 => ?_) (fun h2 => ?_)
        · have hja : j ≤ a := by omega
          have hv2 := hv1.mono e2
          refine loop_up w.length (fun q vs m3 => ∃ x, vs = [x, .int .i64 (q : Int)] ∧ Gt m2 m3 ∧ GN m2.next m3 x ((w.take q).map fun p => (p + j) % (a + 1))) (by omega) ⟨_, rfl, Gt.refl _, GN.nil _ _⟩ ?_
          rintro q vs m3 hq ⟨x, rfl, e3, hx⟩ self3 hself3
          have n3 := e3.next
          have hv3 := hv2.mono e3
          try simp (disch := first | omega | with_unfolding_all exact id rfl | with_unfolding_all exact Nat.le_of_ble_eq_true rfl | (simp only [Jd, Je, Jr, Js, Jt, Nat.reduceAdd, allOne, oneCell, Bool.and_self, Jc]; first | done | omega)) only [hv3.ln, ↓Qa, ↓Qb, ↓Qc, Qd, Qe, Qf, Qg, Qh, Qi, Qj, Qk, Ql, Qm, Qn, Qo, Qp, Qq, Qr, Qs, Qt, Qu, Qv, Qw, Qx, Qy, ptrTo, Qz, QA, QB, QC, QD, QE, QF, QG, QH, QI, QJ, QK, QL, QM, QN, QO, QP, QQ, QR, QS, QT, QU, QV, QW, QX, QY, QZ, Ja, Jb, Jc, Jd, Je, Jf, Jg, Jh, Ji, Jj, Jk, Jl, Jm, Jn, Jo, Jp, Jq, Jr, Js, Jt, Nat.reduceAdd]
          refine oIf_dec (fun h3 => ?_) (fun h3 => ?_)
          · have hqw : q < w.length := by omega
            have hwq := hw _ (List.getElem_mem hqw)
            rw [hv3.ia hqw, oOpt_e, hv3.ld hqw, oOpt_e, oInt_addN (by omega), oInt_add ⟨by omega, by omega⟩, show (a : Int) + 1 = ((a + 1 : Nat) : Int) by omega, oInt_remN (by omega)]
            obtain ⟨u', m5, s1, s2, s3, s4, s5⟩ := GL.snocV (P := Tryd.prog) (L := L) (m0 := m2) (((w[q] + j) % (a + 1) : Nat) : Int) ael22 (by omega) hx (by rw [ci_length, List.length_map, List.length_take]; omega) (by omega) e3 (Nat.le_refl _)
            rw [bs22, oRes_e, s1, oRes_e, oInt_add ⟨by omega, by omega⟩]
            refine hself3 hqw _ _ ⟨u', rfl, s3, ?_⟩
            rw [List.take_add_one, List.getElem?_eq_getElem hqw, Option.toList_some, List.map_append]
            unfold GN
            rw [show ci ((w.take q).map (fun p => (p + j) % (a + 1)) ++ [w[q]].map fun p => (p + j) % (a + 1)) = ci ((w.take q).map fun p => (p + j) % (a + 1)) ++ [(((w[q] + j) % (a + 1) : Nat) : Int)] by simp [ci]]
            exact s2.le n3
          · have hqw : q = w.length := by omega
            subst hqw
            rw [List.take_length] at hx
            have htf := turn_free (a := a) (s := j) (l := w) hja hw
            have htl : (w.map fun p => (p + j) % (a + 1)).length = w.length := List.length_map _
            generalize (w.map fun p => (p + j) % (a + 1)) = t at hx htf htl
            refine rcheck_sp hlf hx.il (by rw [ci_length]; omega) ?_
            try simp (disch := first | omega | with_unfolding_all exact id rfl | with_unfolding_all exact Nat.le_of_ble_eq_true rfl | (simp only [Jd, Je, Jr, Js, Jt, Nat.reduceAdd, allOne, oneCell, Bool.and_self, Jc]; first | done | omega)) only [↓Qa, ↓Qb, ↓Qc, Qd, Qe, Qf, Qg, Qh, Qi, Qj, Qk, Ql, Qm, Qn, Qo, Qp, Qq, Qr, Qs, Qt, Qu, Qv, Qw, Qx, Qy, ptrTo, Qz, QA, QB, QC, QD, QE, QF, QG, QH, QI, QJ, QK, QL, QM, QN, QO, QP, QQ, QR, QS, QT, QU, QV, QW, QX, QY, QZ, Ja, Jb, Jc, Jd, Je, Jf, Jg, Jh, Ji, Jj, Jk, Jl, Jm, Jn, Jo, Jp, Jq, Jr, Js, Jt, Nat.reduceAdd]
            have hcase : ∀ (c : Bool), circ (a + 1) (fun _ => false) w (a - j) = c → ∀ m4, Gt m' m4 → GN m'.next m4 u ((List.range j).filter fun s => !circ (a + 1) (fun _ => false) w (a - s)) →
                (oIf (.bool (!c)) (oRes (bs Tryd.prog m4 22 1 [(0, .int .i64 (j : Int))]) fun t64 m65 => oRes (aappend Tryd.prog L m65 22 u t64) fun t66 m67 => oInt .add .i64 (.int .i64 (j : Int)) (.int .i64 1) fun t63 => self2 [t66, t63] m67) (oInt .add .i64 (.int .i64 (j : Int)) (.int .i64 1) fun t63 => self2 [u, t63] m4)) = some () := by
              intro c hc m4 g4 hu4
              have n4 := g4.next
              rw [hc] at hself2
              cases c with
              | true =>
                show oIf (.bool false) _ _ = _
                rw [oIf_f, oInt_add ⟨by omega, by omega⟩]
                exact hself2 (by omega) _ _ ⟨u, rfl, g4, by rw [if_pos rfl, List.append_nil]; exact hu4⟩
              | false =>
                show oIf (.bool true) _ _ = _
                obtain ⟨u', m5, s1, s2, s3, s4, s5⟩ := GL.snocV (P := Tryd.prog) (L := L) (m0 := m') (j : Int) ael22 (by omega) hu4 (by rw [ci_length]; omega) hL g4 (Nat.le_refl _)
                rw [oIf_t, bs22, oRes_e, s1, oRes_e, oInt_add ⟨by omega, by omega⟩]
                refine hself2 (by omega) _ _ ⟨u', rfl, s3, ?_⟩
                rw [if_neg (by decide)]
                unfold GN
                rw [show ci ((List.range j).filter (fun s => !circ (a + 1) (fun _ => false) w (a - s)) ++ [j]) = ci ((List.range j).filter fun s => !circ (a + 1) (fun _ => false) w (a - s)) ++ [(j : Int)] by simp [ci]]
                exact s2.le n4
            by_cases hall : ∀ p ∈ t, p < a
            · have h0t : chkD (a : Int) ((a : Int) - 1) (ci t) = 0 := chkD_nat ha1 ha8 (by omega) hall
              rw [h0t]
              try simp (disch := first | omega | with_unfolding_all exact id rfl | with_unfolding_all exact Nat.le_of_ble_eq_true rfl | (simp only [Jd, Je, Jr, Js, Jt, Nat.reduceAdd, allOne, oneCell, Bool.and_self, Jc]; first | done | omega)) only [↓Qa, ↓Qb, ↓Qc, Qd, Qe, Qf, Qg, Qh, Qi, Qj, Qk, Ql, Qm, Qn, Qo, Qp, Qq, Qr, Qs, Qt, Qu, Qv, Qw, Qx, Qy, ptrTo, Qz, QA, QB, QC, QD, QE, QF, QG, QH, QI, QJ, QK, QL, QM, QN, QO, QP, QQ, QR, QS, QT, QU, QV, QW, QX, QY, QZ, Ja, Jb, Jc, Jd, Je, Jf, Jg, Jh, Ji, Jj, Jk, Jl, Jm, Jn, Jo, Jp, Jq, Jr, Js, Jt, Nat.reduceAdd]
              refine rserves_sp hlf (by omega) ha8 (by omega) hall hx.inn fun m4 e4 => ?_
              have hc := hcase (!decide (-1 ∉ parkL a t)) (by
                cases hd : circ (a + 1) (fun _ => false) w (a - j) with
                | true =>
                  have : ¬ ((-1 : Int) ∉ parkL a t) := fun h => by
                    have := htf.2 ⟨hall, h⟩
                    rw [hd] at this; cases this
                  rw [decide_eq_false this]; rfl
                | false => rw [decide_eq_true (htf.1 hd).2]; rfl) m4 ((e2.trans e3).trans e4) ((hu.mono e3).mono e4)
              rw [Bool.not_not] at hc
              try simp (disch := first | omega | with_unfolding_all exact id rfl | with_unfolding_all exact Nat.le_of_ble_eq_true rfl | (simp only [Jd, Je, Jr, Js, Jt, Nat.reduceAdd, allOne, oneCell, Bool.and_self, Jc]; first | done | omega)) only [↓Qa, ↓Qb, ↓Qc, Qd, Qe, Qf, Qg, Qh, Qi, Qj, Qk, Ql, Qm, Qn, Qo, Qp, Qq, Qr, Qs, Qt, Qu, Qv, Qw, Qx, Qy, ptrTo, Qz, QA, QB, QC, QD, QE, QF, QG, QH, QI, QJ, QK, QL, QM, QN, QO, QP, QQ, QR, QS, QT, QU, QV, QW, QX, QY, QZ, Ja, Jb, Jc, Jd, Je, Jf, Jg, Jh, Ji, Jj, Jk, Jl, Jm, Jn, Jo, Jp, Jq, Jr, Js, Jt, Nat.reduceAdd]
              exact hc
            · have h0t : chkD (a : Int) ((a : Int) - 1) (ci t) ≠ 0 := fun h => by
                obtain ⟨n', w', q1, q2, _, _, _, q3⟩ := chkD_ok h
                have : t = w' := by
                  have := congrArg nnl q2
                  rwa [nnl_ci, nnl_ci] at this
                subst this
                exact hall fun p hp => by have := q3 p hp; omega
              try simp (disch := first | omega | with_unfolding_all exact id rfl | with_unfolding_all exact Nat.le_of_ble_eq_true rfl | (simp only [Jd, Je, Jr, Js, Jt, Nat.reduceAdd, allOne, oneCell, Bool.and_self, Jc]; first | done | omega)) only [decide_eq_false h0t, ↓Qa, ↓Qb, ↓Qc, Qd, Qe, Qf, Qg, Qh, Qi, Qj, Qk, Ql, Qm, Qn, Qo, Qp, Qq, Qr, Qs, Qt, Qu, Qv, Qw, Qx, Qy, ptrTo, Qz, QA, QB, QC, QD, QE, QF, QG, QH, QI, QJ, QK, QL, QM, QN, QO, QP, QQ, QR, QS, QT, QU, QV, QW, QX, QY, QZ, Ja, Jb, Jc, Jd, Je, Jf, Jg, Jh, Ji, Jj, Jk, Jl, Jm, Jn, Jo, Jp, Jq, Jr, Js, Jt, Nat.reduceAdd]
              have hc := hcase true (by
                cases hd : circ (a + 1) (fun _ => false) w (a - j) with
                | true => rfl
                | false => exact absurd (htf.1 hd).1 hall) m3 (e2.trans e3) (hu.mono e3)
              exact hc
        · have hja : j = a + 1 := by omega
          subst hja
          exact hk u m2 e2 hu
  · try simp (disch := first | omega | with_unfolding_all exact id rfl | with_unfolding_all exact Nat.le_of_ble_eq_true rfl | (simp only [Jd, Je, Jr, Js, Jt, Nat.reduceAdd, allOne, oneCell, Bool.and_self, Jc]; first | done | omega)) only [decide_eq_false hN, ↓Qa, ↓Qb, ↓Qc, Qd, Qe, Qf, Qg, Qh, Qi, Qj, Qk, Ql, Qm, Qn, Qo, Qp, Qq, Qr, Qs, Qt, Qu, Qv, Qw, Qx, Qy, ptrTo, Qz, QA, QB, QC, QD, QE, QF, QG, QH, QI, QJ, QK, QL, QM, QN, QO, QP, QQ, QR, QS, QT, QU, QV, QW, QX, QY, QZ, Ja, Jb, Jc, Jd, Je, Jf, Jg, Jh, Ji, Jj, Jk, Jl, Jm, Jn, Jo, Jp, Jq, Jr, Js, Jt, Nat.reduceAdd]
    exact herr 1 (by unfold chkD; rw [if_neg hN]) (by decide)
end
end Go.Vit
