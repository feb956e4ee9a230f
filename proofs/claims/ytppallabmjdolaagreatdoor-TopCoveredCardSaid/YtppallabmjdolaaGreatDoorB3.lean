/- Walks of the group Bond, numbered for this seat by a program: W3. -/
import Derived.Test.YtppallabmjdolaaGreatDoorB2
import Derived.Test.YtppallabmjdolaaGreatDoorCoreD
set_option linter.unusedSimpArgs false
set_option linter.unusedVariables false
namespace Go.Vit
open Go Go.Proofs
attribute [local irreducible] runT loopS
theorem u22 : Tryz.prog.underlying 22 = some (.slice 3) := by kernel_rfl
theorem ts3 : tsize Tryz.prog 3 = some 1 := by kernel_rfl
theorem az3 : azero Tryz.prog 3 = some [.int .i64 0] := by kernel_rfl
section
variable {lf n L : Nat} {m : Mem} {k : Value → Mem → Option Unit}
theorem azrow_one (x : Int) : ∀ n, allOne (azrow [.int .i64 x] n) = true
  | 0 => rfl
  | n + 1 => by simp [azrow, allOne, oneCell, azrow_one x n]
theorem compact_sp {L0 : Nat} {m0 : Mem} {v : Value} {l : List Int} (hlf : 1000000 ≤ lf) (hv : GL L0 m v l) (hL : L ≤ L0) (e : Gt m0 m) (hm : m0.next ≤ L0) (hl : l.length < 1000000)
    (hk : ∀ u m', Gt m0 m' → IL m' u (squeeze l) → Fsh L0 u → k u m' = some ()) : runT (tabC lf) (n + 1) 147 [v] L m k = some () := by
  rw [r147]
  dsimp only [S147, iofNat, inegSucc]
  try simp (disch := first | omega | with_unfolding_all exact id rfl | with_unfolding_all exact Nat.le_of_ble_eq_true rfl | (simp only [Jd, Je, Jr, Js, Jt, Nat.reduceAdd, allOne, oneCell, Bool.and_self, Jc]; first | done | omega)) only [hv.ln, ↓Qa, ↓Qb, ↓Qc, Qd, Qe, Qf, Qg, Qh, Qi, Qj, Qk, Ql, Qm, Qn, Qo, Qp, Qq, Qr, Qs, Qt, Qu, Qv, Qw, Qx, Qy, ptrTo, Qz, QA, QB, QC, QD, QE, QF, QG, QH, QI, QJ, QK, QL, QM, QN, QO, QP, QQ, QR, QS, QT, QU, QV, QW, QX, QY, QZ, Ja, Jb, Jc, Jd, Je, Jf, Jg, Jh, Ji, Jj, Jk, Jl, Jm, Jn, Jo, Jp, Jq, Jr, Js, Jt, Nat.reduceAdd]
  refine oIf_dec (fun h1 => ?_) (fun h1 => ?_)
  · have h2 : squeeze l = l := by
      match l, h1 with
      | [], _ => rfl
      | [x], _ => rfl
      | x :: y :: l, h1 => simp at h1; omega
    have := hk v m e (by rw [h2]; exact hv.il) hv.fr
    exact this
  · rcases hv with ⟨_, h2, _⟩ | ⟨b, hb, rfl, hr, hlen, hn⟩
    · omega
    · have hcs : (l.map (Value.int .i64)).length = l.length := List.length_map _
      have hbn := Mem.rd_lt hr
      refine loop_up (l.length - 1) (fun i vs m' => vs = [.int .i64 ((i + 1 : Nat) : Int)] ∧ m' = m ∧ squeeze (l.take (i + 1)) = l.take (i + 1)) (by omega) ⟨rfl, rfl, ?_⟩ ?_
      · match l, h1 with
        | [], h1 => simp at h1
        | x :: l, _ => rfl
      rintro i vs m' hi ⟨rfl, rfl, hI⟩ self hself
      have hvl : IL m' (.slice (some ⟨b, 0, none⟩) l.length l.length) l := IL.of hr (by rw [hcs]; omega) (by rw [List.drop_zero, List.take_of_length_le (by rw [hcs]; omega)])
      try simp (disch := first | omega | with_unfolding_all exact id rfl | with_unfolding_all exact Nat.le_of_ble_eq_true rfl | (simp only [Jd, Je, Jr, Js, Jt, Nat.reduceAdd, allOne, oneCell, Bool.and_self, Jc]; first | done | omega)) only [ln_e, ↓Qa, ↓Qb, ↓Qc, Qd, Qe, Qf, Qg, Qh, Qi, Qj, Qk, Ql, Qm, Qn, Qo, Qp, Qq, Qr, Qs, Qt, Qu, Qv, Qw, Qx, Qy, ptrTo, Qz, QA, QB, QC, QD, QE, QF, QG, QH, QI, QJ, QK, QL, QM, QN, QO, QP, QQ, QR, QS, QT, QU, QV, QW, QX, QY, QZ, Ja, Jb, Jc, Jd, Je, Jf, Jg, Jh, Ji, Jj, Jk, Jl, Jm, Jn, Jo, Jp, Jq, Jr, Js, Jt, Nat.reduceAdd]
      refine oIf_dec (fun h3 => ?_) (fun h3 => ?_)
      · have h4 : i + 1 < l.length := by omega
        try simp (disch := first | omega | with_unfolding_all exact id rfl | with_unfolding_all exact Nat.le_of_ble_eq_true rfl | (simp only [Jd, Je, Jr, Js, Jt, Nat.reduceAdd, allOne, oneCell, Bool.and_self, Jc]; first | done | omega)) only [hvl.ia h4, hvl.ld h4, ↓Qa, ↓Qb, ↓Qc, Qd, Qe, Qf, Qg, Qh, Qi, Qj, Qk, Ql, Qm, Qn, Qo, Qp, Qq, Qr, Qs, Qt, Qu, Qv, Qw, Qx, Qy, ptrTo, Qz, QA, QB, QC, QD, QE, QF, QG, QH, QI, QJ, QK, QL, QM, QN, QO, QP, QQ, QR, QS, QT, QU, QV, QW, QX, QY, QZ, Ja, Jb, Jc, Jd, Je, Jf, Jg, Jh, Ji, Jj, Jk, Jl, Jm, Jn, Jo, Jp, Jq, Jr, Js, Jt, Nat.reduceAdd]
        rw [oInt_sub ⟨by omega, by omega⟩]
        rw [show (((i + 1 : Nat) : Int) - 1) = ((i : Nat) : Int) by omega]
        try simp (disch := first | omega | with_unfolding_all exact id rfl | with_unfolding_all exact Nat.le_of_ble_eq_true rfl | (simp only [Jd, Je, Jr, Js, Jt, Nat.reduceAdd, allOne, oneCell, Bool.and_self, Jc]; first | done | omega)) only [hvl.ia (show i < l.length by omega), hvl.ld (show i < l.length by omega), ↓Qa, ↓Qb, ↓Qc, Qd, Qe, Qf, Qg, Qh, Qi, Qj, Qk, Ql, Qm, Qn, Qo, Qp, Qq, Qr, Qs, Qt, Qu, Qv, Qw, Qx, Qy, ptrTo, Qz, QA, QB, QC, QD, QE, QF, QG, QH, QI, QJ, QK, QL, QM, QN, QO, QP, QQ, QR, QS, QT, QU, QV, QW, QX, QY, QZ, Ja, Jb, Jc, Jd, Je, Jf, Jg, Jh, Ji, Jj, Jk, Jl, Jm, Jn, Jo, Jp, Jq, Jr, Js, Jt, Nat.reduceAdd]
        refine oIf_dec (fun h5 => ?_) (fun h5 => ?_)
        · -- the first doubled one
          try simp (disch := first | omega | with_unfolding_all exact id rfl | with_unfolding_all exact Nat.le_of_ble_eq_true rfl | (simp only [Jd, Je, Jr, Js, Jt, Nat.reduceAdd, allOne, oneCell, Bool.and_self, Jc]; first | done | omega)) only [sl_lo u22 ts3 (b := b) (o := 0) (n := l.length) (c := l.length) (k := i + 1) (by omega) (by omega) h4 (by omega), ↓Qa, ↓Qb, ↓Qc, Qd, Qe, Qf, Qg, Qh, Qi, Qj, Qk, Ql, Qm, Qn, Qo, Qp, Qq, Qr, Qs, Qt, Qu, Qv, Qw, Qx, Qy, ptrTo, Qz, QA, QB, QC, QD, QE, QF, QG, QH, QI, QJ, QK, QL, QM, QN, QO, QP, QQ, QR, QS, QT, QU, QV, QW, QX, QY, QZ, Ja, Jb, Jc, Jd, Je, Jf, Jg, Jh, Ji, Jj, Jk, Jl, Jm, Jn, Jo, Jp, Jq, Jr, Js, Jt, Nat.reduceAdd]
          refine loop_up (l.length - (i + 1) - 1) (fun j vs m2 => ∃ (s : Nat) (cs : List Value), vs = [.int .i64 (s : Int), .int .i64 ((j + 1 : Nat) : Int)] ∧ Gt m0 m2 ∧ m2.rd b = some ⟨1, cs, none⟩ ∧ cs.length = l.length ∧ s = (squeeze (l.take (i + 1 + (j + 1)))).length ∧ s ≤ i + 1 + j ∧
              cs.take s = (squeeze (l.take (i + 1 + (j + 1)))).map (Value.int .i64) ∧ ∀ q, i + 1 + j ≤ q → cs[q]? = (l[q]?).map (Value.int .i64)) (by omega) ?_ ?_
          · have hsq := squeeze_take l (i := i + 1) (by omega) h4
            simp only [Nat.add_sub_cancel] at hsq
            rw [if_pos h5.symm, hI] at hsq
            refine ⟨i + 1, _, rfl, e, hr, hcs, ?_, by omega, ?_, ?_⟩
            · rw [Nat.zero_add, hsq, List.length_take]; omega
            · rw [Nat.zero_add, hsq, List.map_take]
            · intro q _; rw [List.getElem?_map]
          · rintro j vs m2 hj ⟨s, cs, rfl, hg2, hr2, hcl, hs, hsj, hct, hq⟩ self2 hself2
            have hbn2 := Mem.rd_lt hr2
            try simp (disch := first | omega | with_unfolding_all exact id rfl | with_unfolding_all exact Nat.le_of_ble_eq_true rfl | (simp only [Jd, Je, Jr, Js, Jt, Nat.reduceAdd, allOne, oneCell, Bool.and_self, Jc]; first | done | omega)) only [ln_e, ↓Qa, ↓Qb, ↓Qc, Qd, Qe, Qf, Qg, Qh, Qi, Qj, Qk, Ql, Qm, Qn, Qo, Qp, Qq, Qr, Qs, Qt, Qu, Qv, Qw, Qx, Qy, ptrTo, Qz, QA, QB, QC, QD, QE, QF, QG, QH, QI, QJ, QK, QL, QM, QN, QO, QP, QQ, QR, QS, QT, QU, QV, QW, QX, QY, QZ, Ja, Jb, Jc, Jd, Je, Jf, Jg, Jh, Ji, Jj, Jk, Jl, Jm, Jn, Jo, Jp, Jq, Jr, Js, Jt, Nat.reduceAdd]
            refine oIf_dec (fun h6 => ?_) (fun h6 => ?_)
            · have h7 : i + 1 + (j + 1) < l.length := by omega
              have hx1 : cs[i + 1 + (j + 1)]? = some (.int .i64 l[i + 1 + (j + 1)]) := by rw [hq _ (by omega), List.getElem?_eq_getElem h7]; rfl
              have hx0 : cs[i + 1 + j]? = some (.int .i64 l[i + 1 + j]) := by rw [hq _ (by omega), List.getElem?_eq_getElem (by omega)]; rfl
              try simp (disch := first | omega | with_unfolding_all exact id rfl | with_unfolding_all exact Nat.le_of_ble_eq_true rfl | (simp only [Jd, Je, Jr, Js, Jt, Nat.reduceAdd, allOne, oneCell, Bool.and_self, Jc]; first | done | omega)) only [ia_e (sz := 1) (b := b) (n := l.length - (i + 1)) (c := l.length - (i + 1)) (i := j + 1) (x := none) (show j + 1 < l.length - (i + 1) by omega), hr2, Nat.mul_one, hx1, ↓Qa, ↓Qb, ↓Qc, Qd, Qe, Qf, Qg, Qh, Qi, Qj, Qk, Ql, Qm, Qn, Qo, Qp, Qq, Qr, Qs, Qt, Qu, Qv, Qw, Qx, Qy, ptrTo, Qz, QA, QB, QC, QD, QE, QF, QG, QH, QI, QJ, QK, QL, QM, QN, QO, QP, QQ, QR, QS, QT, QU, QV, QW, QX, QY, QZ, Ja, Jb, Jc, Jd, Je, Jf, Jg, Jh, Ji, Jj, Jk, Jl, Jm, Jn, Jo, Jp, Jq, Jr, Js, Jt, Nat.reduceAdd]
              rw [oInt_sub ⟨by omega, by omega⟩]
              rw [show (((j + 1 : Nat) : Int) - 1) = ((j : Nat) : Int) by omega]
              try simp (disch := first | omega | with_unfolding_all exact id rfl | with_unfolding_all exact Nat.le_of_ble_eq_true rfl | (simp only [Jd, Je, Jr, Js, Jt, Nat.reduceAdd, allOne, oneCell, Bool.and_self, Jc]; first | done | omega)) only [ia_e (sz := 1) (b := b) (n := l.length - (i + 1)) (c := l.length - (i + 1)) (i := j) (x := none) (show j < l.length - (i + 1) by omega), hr2, Nat.mul_one, hx0, ↓Qa, ↓Qb, ↓Qc, Qd, Qe, Qf, Qg, Qh, Qi, Qj, Qk, Ql, Qm, Qn, Qo, Qp, Qq, Qr, Qs, Qt, Qu, Qv, Qw, Qx, Qy, ptrTo, Qz, QA, QB, QC, QD, QE, QF, QG, QH, QI, QJ, QK, QL, QM, QN, QO, QP, QQ, QR, QS, QT, QU, QV, QW, QX, QY, QZ, Ja, Jb, Jc, Jd, Je, Jf, Jg, Jh, Ji, Jj, Jk, Jl, Jm, Jn, Jo, Jp, Jq, Jr, Js, Jt, Nat.reduceAdd]
              have hsq := squeeze_take l (i := i + 1 + (j + 1)) (by omega) h7
              have hidx : i + 1 + (j + 1) - 1 = i + 1 + j := by omega
              simp only [hidx] at hsq
              refine oIf_ndec (fun h8 => ?_) (fun h8 => ?_)
              · have h9 : ¬ l[i + 1 + j] = l[i + 1 + (j + 1)] := fun h => h8 h.symm
                rw [if_neg h9] at hsq
                try simp (disch := first | omega | with_unfolding_all exact id rfl | with_unfolding_all exact Nat.le_of_ble_eq_true rfl | (simp only [Jd, Je, Jr, Js, Jt, Nat.reduceAdd, allOne, oneCell, Bool.and_self, Jc]; first | done | omega)) only [ia_e (sz := 1) (b := b) (n := l.length) (c := l.length) (i := s) (x := none) (show s < l.length by omega), Nat.mul_one, st_int hr2 (q := s) (show s < cs.length by omega) (show L ≤ b by omega), ↓Qa, ↓Qb, ↓Qc, Qd, Qe, Qf, Qg, Qh, Qi, Qj, Qk, Ql, Qm, Qn, Qo, Qp, Qq, Qr, Qs, Qt, Qu, Qv, Qw, Qx, Qy, ptrTo, Qz, QA, QB, QC, QD, QE, QF, QG, QH, QI, QJ, QK, QL, QM, QN, QO, QP, QQ, QR, QS, QT, QU, QV, QW, QX, QY, QZ, Ja, Jb, Jc, Jd, Je, Jf, Jg, Jh, Ji, Jj, Jk, Jl, Jm, Jn, Jo, Jp, Jq, Jr, Js, Jt, Nat.reduceAdd]
                rw [oInt_add ⟨by omega, by omega⟩]
                rw [oInt_add ⟨by omega, by omega⟩]
                refine hself2 (by omega) _ _ ⟨s + 1, _, rfl, Mem.put_gt hg2 _ (by omega), Mem.rd_put_eq m2 _ hbn2, by rw [List.length_set]; exact hcl, ?_, by omega, ?_, ?_⟩
                · rw [show i + 1 + (j + 1 + 1) = i + 1 + (j + 1) + 1 from rfl, hsq, List.length_append, ← hs]; rfl
                · rw [show i + 1 + (j + 1 + 1) = i + 1 + (j + 1) + 1 from rfl, hsq, List.map_append, ← hct, List.take_add_one, List.getElem?_set, if_pos rfl, if_pos (by omega), List.take_set_of_le (Nat.le_refl _)]
                  rfl
                · intro q hq2
                  rw [List.getElem?_set, if_neg (by omega)]
                  exact hq q (by omega)
              · have h9 : l[i + 1 + j] = l[i + 1 + (j + 1)] := h8.symm
                rw [if_pos h9] at hsq
                try simp (disch := first | omega | with_unfolding_all exact id rfl | with_unfolding_all exact Nat.le_of_ble_eq_true rfl | (simp only [Jd, Je, Jr, Js, Jt, Nat.reduceAdd, allOne, oneCell, Bool.and_self, Jc]; first | done | omega)) only [↓Qa, ↓Qb, ↓Qc, Qd, Qe, Qf, Qg, Qh, Qi, Qj, Qk, Ql, Qm, Qn, Qo, Qp, Qq, Qr, Qs, Qt, Qu, Qv, Qw, Qx, Qy, ptrTo, Qz, QA, QB, QC, QD, QE, QF, QG, QH, QI, QJ, QK, QL, QM, QN, QO, QP, QQ, QR, QS, QT, QU, QV, QW, QX, QY, QZ, Ja, Jb, Jc, Jd, Je, Jf, Jg, Jh, Ji, Jj, Jk, Jl, Jm, Jn, Jo, Jp, Jq, Jr, Js, Jt, Nat.reduceAdd]
                rw [oInt_add ⟨by omega, by omega⟩]
                refine hself2 (by omega) _ _ ⟨s, cs, rfl, hg2, hr2, hcl, ?_, by omega, ?_, fun q h => hq q (by omega)⟩
                · rw [show i + 1 + (j + 1 + 1) = i + 1 + (j + 1) + 1 from rfl, hsq]; exact hs
                · rw [show i + 1 + (j + 1 + 1) = i + 1 + (j + 1) + 1 from rfl, hsq]; exact hct
            · have hj2 : i + 1 + (j + 1) = l.length := by omega
              rw [hj2, List.take_length] at hs hct
              have hs1 : 0 < s := by
                have hmem : l[0] ∈ squeeze l := (squeeze_mem _ _).2 (List.getElem_mem (by omega))
                have := List.length_pos_of_mem hmem
                omega
              have hcl1 : aclear Tryz.prog L m2 22 (.slice (some ⟨b, 0 + s * 1, none⟩) (l.length - s) (l.length - s)) = some (Go.undef, m2.put b (some ⟨1, cs.take s ++ azrow [.int .i64 0] (l.length - s), none⟩)) := by
                unfold aclear
                obtain ⟨d, hd⟩ : ∃ d, l.length - s = d + 1 := ⟨l.length - s - 1, by omega⟩
                simp only [u22, hd, az3]
                unfold awr
                simp only [ble_t (show L ≤ b by omega), hr2]
                rw [azrow_len, azrow_one, List.length_singleton, show Nat.add (0 + s * 1) (Nat.succ d * 1) = s + (d + 1) by simp, ble_t (show s + (d + 1) ≤ cs.length by omega)]
                simp only [Bool.and_self]
                rw [List.drop_of_length_le (show cs.length ≤ s + (d + 1) by omega), List.append_nil, show 0 + s * 1 = s by omega]
              rw [sl_lo u22 ts3 (b := b) (o := 0) (n := l.length) (c := l.length) (k := s) hs1 (by omega) (by omega) (by omega), oOpt_e, hcl1, oRes_e, sl_hi u22 ts3 (b := b) (o := 0) (n := l.length) (c := l.length) (k := s) (show s ≤ l.length by omega), oOpt_e]
              refine hk _ _ (Mem.put_gt hg2 _ (by omega)) (IL.of (Mem.rd_put_eq m2 _ hbn2) ?_ ?_) (fun c hc => by cases hc; exact hb)
              · rw [List.length_append, List.length_take, azrow_len, List.length_singleton]; omega
              · rw [List.drop_zero, List.take_append_of_le_length (by rw [List.length_take]; omega), List.take_take, Nat.min_self, hct]
        · rw [oInt_add ⟨by omega, by omega⟩]
          refine hself (by omega) _ _ ⟨rfl, rfl, ?_⟩
          have h6 : ¬ l[i] = l[i + 1] := fun h => h5 h.symm
          have hsq := squeeze_take l (i := i + 1) (by omega) h4
          simp only [Nat.add_sub_cancel] at hsq
          rw [if_neg h6, hI] at hsq
          rw [hsq, List.take_add_one (i := i + 1), List.getElem?_eq_getElem h4]
          rfl
      · have : i + 1 = l.length := by omega
        rw [this, List.take_length] at hI
        have := hk (.slice (some ⟨b, 0, none⟩) l.length l.length) m' e (by rw [hI]; exact hvl) (fun c hc => by cases hc; exact hb)
        exact this
end
end Go.Vit
