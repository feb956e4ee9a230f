/- Walks: orders are checked, and turning orders told, both ways. -/
import Derived.Test.YtffomiamkiakcaaW16
set_option linter.unusedSimpArgs false
set_option linter.unusedVariables false
set_option maxRecDepth 20000
namespace Go.Vit
open Go Go.Proofs
attribute [local irreducible] runT loopS
def ordE (n : Int) : List Int → List Int → Int
  | _, [] => 0
  | pre, x :: rest => if inI x 0 (n - 1) then (if x ∈ pre then 6 else ordE n (pre ++ [x]) rest) else 2
def chkO (l : List Int) : Int := if l.length = 0 then 4 else if 9 < l.length then 3 else ordE l.length [] l
theorem ord_ok {n : Int} : ∀ (rest pre : List Int), ordE n pre rest = 0 → (∀ x ∈ rest, inI x 0 (n - 1)) ∧ (pre.Nodup → (pre ++ rest).Nodup)
  | [], pre, _ => ⟨(fun x hx => by cases hx), fun h => by simpa using h⟩
  | x :: rest, pre, h => by
    have h' : (if inI x 0 (n - 1) then (if x ∈ pre then 6 else ordE n (pre ++ [x]) rest) else 2) = 0 := h
    split at h'
    · rename_i h1
      split at h'
      · cases h'
      · rename_i h2
        obtain ⟨g1, g2⟩ := ord_ok rest (pre ++ [x]) h'
        refine ⟨fun y hy => ?_, fun hp => ?_⟩
        · rcases List.mem_cons.1 hy with rfl | hy
          · exact h1
          · exact g1 y hy
        · have : (pre ++ [x]).Nodup := by
            rw [List.nodup_append]
            exact ⟨hp, by simp, fun a ha b hb => by
              have : b = x := by simpa using hb
              subst this
              intro e; subst e; exact h2 ha⟩
          have := g2 this
          simpa using this
    · cases h'
theorem chkO_ok {l : List Int} (h : chkO l = 0) : ∃ b : List Nat, l = ci b ∧ b.Nodup ∧ (∀ x ∈ b, x < b.length) ∧ 1 ≤ b.length ∧ b.length ≤ 9 := by
  unfold chkO at h
  split at h
  · cases h
  · rename_i h1
    split at h
    · cases h
    · rename_i h2
      obtain ⟨g1, g2⟩ := ord_ok l [] h
      have g2 := g2 List.nodup_nil
      rw [List.nil_append] at g2
      refine ⟨l.map Int.toNat, ?_, ?_, ?_, by rw [List.length_map]; omega, by rw [List.length_map]; omega⟩
      · unfold ci
        rw [List.map_map]
        conv => lhs; rw [← List.map_id l]
        refine List.map_congr_left fun x hx => ?_
        have := g1 x hx
        show x = ((Int.toNat x : Nat) : Int)
        have := this.1
        omega
      · rw [List.Nodup, List.pairwise_map]
        refine List.Pairwise.imp_of_mem (fun {a b} ha hb hab => ?_) g2
        have := (g1 a ha).1
        have := (g1 b hb).1
        omega
      · intro x hx
        obtain ⟨y, hy, rfl⟩ := List.mem_map.1 hx
        rw [List.length_map]
        have := (g1 y hy).1
        have := (g1 y hy).2
        omega
def trnX (l : List Int) : Bool := if chkO l = 0 then trnB true (l.map Int.toNat) else false
theorem toNat_ci (b : List Nat) : (ci b).map Int.toNat = b := by
  unfold ci
  rw [List.map_map]
  conv => rhs; rw [← List.map_id b]
  exact List.map_congr_left fun x _ => by show ((x : Int)).toNat = x; omega
def bl (n : Nat) (C : Nat → Bool) : List Value := (List.range n).map fun j => .bool (C j)
theorem bl_len (n : Nat) (C : Nat → Bool) : (bl n C).length = n := by unfold bl; rw [List.length_map, List.length_range]
theorem bl_get {n i : Nat} {C : Nat → Bool} (h : i < n) : (bl n C)[i]? = some (.bool (C i)) := by
  unfold bl
  rw [List.getElem?_map, List.getElem?_range h]; rfl
theorem bl_set {n i : Nat} {C : Nat → Bool} (h : i < n) (x : Bool) : (bl n C).set i (.bool x) = bl n fun j => if j = i then x else C j := by
  refine List.ext_getElem? fun j => ?_
  rw [List.getElem?_set, bl_len]
  by_cases hj : j < n
  · have hr2 := bl_get (C := fun j => if j = i then x else C j) hj
    rw [hr2]
    by_cases hij : i = j
    · subst hij; rw [if_pos rfl, if_pos h, if_pos rfl]
    · rw [if_neg hij, bl_get hj, if_neg (fun e => hij e.symm)]
  · rw [if_neg (by omega), List.getElem?_eq_none (by rw [bl_len]; omega), List.getElem?_eq_none (by rw [bl_len]; omega)]
section
variable {lf L : Nat}
theorem ord_step {n : Int} {l : List Int} {i : Nat} (h : i < l.length) : ordE n (l.take i) (l.drop i) = if inI l[i] 0 (n - 1) then (if l[i] ∈ l.take i then 6 else ordE n (l.take (i + 1)) (l.drop (i + 1))) else 2 := by
  rw [List.drop_eq_getElem_cons h, List.take_add_one, List.getElem?_eq_getElem h]; rfl
set_option maxHeartbeats 1000000 in
theorem order_sp {n : Nat} {m : Mem} {v : Value} {l : List Int} {k : Value → Mem → Option Unit} (hlf : 1000000 ≤ lf) (hL : L ≤ m.next) (hv : IL m v l) (hl : l.length < 1000) (hk : ∀ m', Gt m m' → k (.int .i64 (chkO l)) m' = some ()) : runT (tab lf) (n + 4) 78 [v] L m k = some () := by
  rw [r78]; dsimp only [S78, iofNat, inegSucc]
  obtain ⟨p, c, hvx⟩ := hv.ex
  have hab : abox m v = some (ptrTo m.next, m.push ⟨1, [v], none⟩) := by rw [hvx]; exact abox_e _ _
  rw [uc_e, un0_e, hab, oRes_e, anew_eq, oRes_e]
  have hb9 : [Value.bool false, .bool false, .bool false, .bool false, .bool false, .bool false, .bool false, .bool false, .bool false] = bl 9 (fun j => decide ((j : Int) ∈ l.take 0)) := rfl
  rw [hb9]
  have e1 := (Mem.gt_push m ⟨1, [v], none⟩).trans (Mem.gt_push (m.push ⟨1, [v], none⟩) ⟨1, bl 9 (fun j => decide ((j : Int) ∈ l.take 0)), none⟩)
  have q1 : ((m.push ⟨1, [v], none⟩).push ⟨1, bl 9 (fun j => decide ((j : Int) ∈ l.take 0)), none⟩).rd m.next = some ⟨1, [v], none⟩ := (Mem.rd_push_lt _ _ (by rw [Mem.push_next]; omega)).trans (Mem.rd_push _ _)
  have q2 : ((m.push ⟨1, [v], none⟩).push ⟨1, bl 9 (fun j => decide ((j : Int) ∈ l.take 0)), none⟩).rd (m.next + 1) = some ⟨1, bl 9 (fun j => decide ((j : Int) ∈ l.take 0)), none⟩ := Mem.rd_push _ _
  have n1 : ((m.push ⟨1, [v], none⟩).push ⟨1, bl 9 (fun j => decide ((j : Int) ∈ l.take 0)), none⟩).next = m.next + 2 := rfl
  have hp0 : ptrTo m.next = .pointer (some ⟨m.next, 0, none⟩) := rfl
  have hp1 : ptrTo (m.push ⟨1, [v], none⟩).next = .pointer (some ⟨m.next + 1, 0, none⟩) := rfl
  rw [hp0, hp1]
  generalize (m.push ⟨1, [v], none⟩).push ⟨1, bl 9 (fun j => decide ((j : Int) ∈ l.take 0)), none⟩ = m1 at e1 q1 q2 n1 ⊢
  have hv1 := hv.mono e1
  have hld : ld1 m1 (.pointer (some ⟨m.next, 0, none⟩)) = some v := by rw [ld1_u, q1]; rfl
  rw [hld, oOpt_e, r64]; dsimp only [S64, iofNat, inegSucc]
  unfold chkO at hk
  try simp (disch := first | omega | with_unfolding_all exact id rfl | with_unfolding_all exact Nat.le_of_ble_eq_true rfl | (simp only [Jd, Je, Jr, Js, Jt, Nat.reduceAdd, allOne, oneCell, Bool.and_self, Jc]; first | done | omega)) only [hv1.ln, ↓Qa, ↓Qb, ↓Qc, Qd, Qe, Qf, Qg, Qh, Qi, Qj, Qk, Ql, Qm, Qn, Qo, Qp, Qq, Qr, Qs, Qt, Qu, Qv, Qw, Qx, Qy, ptrTo, Qz, QA, QB, QC, QD, QE, QF, QG, QH, QI, QJ, QK, QL, QM, QN, QO, QP, QQ, QR, QS, QT, QU, QV, QW, QX, QY, QZ, Ja, Jb, Jc, Jd, Je, Jf, Jg, Jh, Ji, Jj, Jk, Jl, Jm, Jn, Jo, Jp, Jq, Jr, Js, Jt, Nat.reduceAdd]
  refine oIf_dec (fun h => ?_) (fun h => ?_)
  · rw [if_pos (by omega)] at hk; exact hk _ e1
  · rw [if_neg (by omega)] at hk
    refine oIf_dec (fun h2 => ?_) (fun h2 => ?_)
    · rw [if_pos (by omega)] at hk; exact hk _ e1
    · rw [if_neg (by omega)] at hk
      refine loop_up l.length (fun i vs m' => vs = [.int .i64 (i : Int)] ∧ Gt m m' ∧ m'.next = m.next + 2 ∧ m'.rd m.next = some ⟨1, [v], none⟩ ∧ m'.rd (m.next + 1) = some ⟨1, bl 9 (fun j => decide ((j : Int) ∈ l.take i)), none⟩ ∧ ordE l.length (l.take i) (l.drop i) = ordE l.length [] l) (by omega) ⟨rfl, e1, n1, q1, q2, rfl⟩ ?_
      rintro i vs m2 hi ⟨rfl, e2, n2, r1, r2, hO⟩ self hself
      have hv2 := hv.mono e2
      try simp (disch := first | omega | with_unfolding_all exact id rfl | with_unfolding_all exact Nat.le_of_ble_eq_true rfl | (simp only [Jd, Je, Jr, Js, Jt, Nat.reduceAdd, allOne, oneCell, Bool.and_self, Jc]; first | done | omega)) only [↓Qa, ↓Qb, ↓Qc, Qd, Qe, Qf, Qg, Qh, Qi, Qj, Qk, Ql, Qm, Qn, Qo, Qp, Qq, Qr, Qs, Qt, Qu, Qv, Qw, Qx, Qy, ptrTo, Qz, QA, QB, QC, QD, QE, QF, QG, QH, QI, QJ, QK, QL, QM, QN, QO, QP, QQ, QR, QS, QT, QU, QV, QW, QX, QY, QZ, Ja, Jb, Jc, Jd, Je, Jf, Jg, Jh, Ji, Jj, Jk, Jl, Jm, Jn, Jo, Jp, Jq, Jr, Js, Jt, Nat.reduceAdd]
      refine oIf_dec (fun h3 => ?_) (fun h3 => ?_)
      · have hil : i < l.length := by omega
        rw [ord_step hil] at hO
        try simp (disch := first | omega | with_unfolding_all exact id rfl | with_unfolding_all exact Nat.le_of_ble_eq_true rfl | (simp only [Jd, Je, Jr, Js, Jt, Nat.reduceAdd, allOne, oneCell, Bool.and_self, Jc]; first | done | omega)) only [hv2.ia hil, hv2.ld hil, ↓Qa, ↓Qb, ↓Qc, Qd, Qe, Qf, Qg, Qh, Qi, Qj, Qk, Ql, Qm, Qn, Qo, Qp, Qq, Qr, Qs, Qt, Qu, Qv, Qw, Qx, Qy, ptrTo, Qz, QA, QB, QC, QD, QE, QF, QG, QH, QI, QJ, QK, QL, QM, QN, QO, QP, QQ, QR, QS, QT, QU, QV, QW, QX, QY, QZ, Ja, Jb, Jc, Jd, Je, Jf, Jg, Jh, Ji, Jj, Jk, Jl, Jm, Jn, Jo, Jp, Jq, Jr, Js, Jt, Nat.reduceAdd]
        rw [r99]; dsimp only [S99, iofNat, inegSucc]
        have hld2 : ld1 m2 (.pointer (some ⟨m.next, 0, none⟩)) = some v := by rw [ld1_u, r1]; rfl
        have hrd2 : rdo (m2.rd m.next) 0 = some v := by rw [r1]; rfl
        try simp (disch := first | omega | with_unfolding_all exact id rfl | with_unfolding_all exact Nat.le_of_ble_eq_true rfl | (simp only [Jd, Je, Jr, Js, Jt, Nat.reduceAdd, allOne, oneCell, Bool.and_self, Jc]; first | done | omega)) only [hrd2, hv2.ln, ↓Qa, ↓Qb, ↓Qc, Qd, Qe, Qf, Qg, Qh, Qi, Qj, Qk, Ql, Qm, Qn, Qo, Qp, Qq, Qr, Qs, Qt, Qu, Qv, Qw, Qx, Qy, ptrTo, Qz, QA, QB, QC, QD, QE, QF, QG, QH, QI, QJ, QK, QL, QM, QN, QO, QP, QQ, QR, QS, QT, QU, QV, QW, QX, QY, QZ, Ja, Jb, Jc, Jd, Je, Jf, Jg, Jh, Ji, Jj, Jk, Jl, Jm, Jn, Jo, Jp, Jq, Jr, Js, Jt, Nat.reduceAdd]
        rw [oInt_sub ⟨by omega, by omega⟩]
        refine within_sp _ _ _ ?_
        by_cases hx : inI l[i] 0 ((l.length : Int) - 1)
        · rw [if_pos hx] at hO
          obtain ⟨x, hxe⟩ : ∃ x : Nat, l[i] = x := ⟨(l[i]).toNat, by have := hx.1; omega⟩
          rw [hxe] at hO hx ⊢
          have hx9 : x < 9 := by have := hx.2; omega
          have hix : iaA 9 1 (.pointer (some ⟨m.next + 1, 0, none⟩)) (.int .i64 (x : Int)) = some (.pointer (some ⟨m.next + 1, x, none⟩)) := by
            have := iaA_u (b := m.next + 1) (n := 9) (o := 0) (i := x) hx9
            rw [Nat.zero_add] at this; exact this
          have hrx : rdo (m2.rd (m.next + 1)) x = some (.bool (decide ((x : Int) ∈ l.take i))) := by rw [r2, rdo_e]; exact bl_get hx9
          try simp (disch := first | omega | with_unfolding_all exact id rfl | with_unfolding_all exact Nat.le_of_ble_eq_true rfl | (simp only [Jd, Je, Jr, Js, Jt, Nat.reduceAdd, allOne, oneCell, Bool.and_self, Jc]; first | done | omega)) only [decide_eq_true hx, hix, hrx, ↓Qa, ↓Qb, ↓Qc, Qd, Qe, Qf, Qg, Qh, Qi, Qj, Qk, Ql, Qm, Qn, Qo, Qp, Qq, Qr, Qs, Qt, Qu, Qv, Qw, Qx, Qy, ptrTo, Qz, QA, QB, QC, QD, QE, QF, QG, QH, QI, QJ, QK, QL, QM, QN, QO, QP, QQ, QR, QS, QT, QU, QV, QW, QX, QY, QZ, Ja, Jb, Jc, Jd, Je, Jf, Jg, Jh, Ji, Jj, Jk, Jl, Jm, Jn, Jo, Jp, Jq, Jr, Js, Jt, Nat.reduceAdd]
          by_cases hin : (x : Int) ∈ l.take i
          · rw [if_pos hin] at hO
            rw [← hO] at hk
            try simp (disch := first | omega | with_unfolding_all exact id rfl | with_unfolding_all exact Nat.le_of_ble_eq_true rfl | (simp only [Jd, Je, Jr, Js, Jt, Nat.reduceAdd, allOne, oneCell, Bool.and_self, Jc]; first | done | omega)) only [decide_eq_true hin, show decide ((6 : Int) = 0) = false from rfl, ↓Qa, ↓Qb, ↓Qc, Qd, Qe, Qf, Qg, Qh, Qi, Qj, Qk, Ql, Qm, Qn, Qo, Qp, Qq, Qr, Qs, Qt, Qu, Qv, Qw, Qx, Qy, ptrTo, Qz, QA, QB, QC, QD, QE, QF, QG, QH, QI, QJ, QK, QL, QM, QN, QO, QP, QQ, QR, QS, QT, QU, QV, QW, QX, QY, QZ, Ja, Jb, Jc, Jd, Je, Jf, Jg, Jh, Ji, Jj, Jk, Jl, Jm, Jn, Jo, Jp, Jq, Jr, Js, Jt, Nat.reduceAdd]
            exact hk _ e2
          · rw [if_neg hin] at hO
            have hstx : stw 1 L m2 (m.next + 1) x [.bool true] (m2.rd (m.next + 1)) = some (Go.undef, m2.put (m.next + 1) (some ⟨1, bl 9 (fun j => decide ((j : Int) ∈ l.take (i + 1))), none⟩)) := by
              have h5 := st_set (L := L) (q := x) (x := .bool true) r2 (by rw [bl_len]; exact hx9) (by omega) rfl rfl
              rw [st1_u] at h5
              have h6 : (bl 9 fun j => decide ((j : Int) ∈ l.take i)).set x (.bool true) = bl 9 (fun j => decide ((j : Int) ∈ l.take (i + 1))) := by
                rw [bl_set hx9]
                unfold bl
                refine congrArg (fun f => (List.range 9).map f) (funext fun j => ?_)
                rw [List.take_add_one, List.getElem?_eq_getElem hil, hxe]
                show Value.bool _ = Value.bool _
                congr 1
                by_cases e : j = x
                · subst e; simp
                · have : ¬ (j : Int) = (x : Int) := by omega
                  simp [e, this]
              rw [h6] at h5
              exact h5
            try simp (disch := first | omega | with_unfolding_all exact id rfl | with_unfolding_all exact Nat.le_of_ble_eq_true rfl | (simp only [Jd, Je, Jr, Js, Jt, Nat.reduceAdd, allOne, oneCell, Bool.and_self, Jc]; first | done | omega)) only [decide_eq_false hin, ↓Qa, ↓Qb, ↓Qc, Qd, Qe, Qf, Qg, Qh, Qi, Qj, Qk, Ql, Qm, Qn, Qo, Qp, Qq, Qr, Qs, Qt, Qu, Qv, Qw, Qx, Qy, ptrTo, Qz, QA, QB, QC, QD, QE, QF, QG, QH, QI, QJ, QK, QL, QM, QN, QO, QP, QQ, QR, QS, QT, QU, QV, QW, QX, QY, QZ, Ja, Jb, Jc, Jd, Je, Jf, Jg, Jh, Ji, Jj, Jk, Jl, Jm, Jn, Jo, Jp, Jq, Jr, Js, Jt, Nat.reduceAdd]
            rw [hstx, oRes_e]
            try simp (disch := first | omega | with_unfolding_all exact id rfl | with_unfolding_all exact Nat.le_of_ble_eq_true rfl | (simp only [Jd, Je, Jr, Js, Jt, Nat.reduceAdd, allOne, oneCell, Bool.and_self, Jc]; first | done | omega)) only [↓Qa, ↓Qb, ↓Qc, Qd, Qe, Qf, Qg, Qh, Qi, Qj, Qk, Ql, Qm, Qn, Qo, Qp, Qq, Qr, Qs, Qt, Qu, Qv, Qw, Qx, Qy, ptrTo, Qz, QA, QB, QC, QD, QE, QF, QG, QH, QI, QJ, QK, QL, QM, QN, QO, QP, QQ, QR, QS, QT, QU, QV, QW, QX, QY, QZ, Ja, Jb, Jc, Jd, Je, Jf, Jg, Jh, Ji, Jj, Jk, Jl, Jm, Jn, Jo, Jp, Jq, Jr, Js, Jt, Nat.reduceAdd]
            rw [oInt_add ⟨by omega, by omega⟩]
            exact hself hil _ _ ⟨rfl, Mem.put_gt e2 _ (by omega), n2, (Mem.rd_put _ _ _ _ (by omega)).trans r1, Mem.rd_put_eq _ _ (by omega), hO⟩
        · rw [if_neg hx] at hO
          rw [← hO] at hk
          try simp (disch := first | omega | with_unfolding_all exact id rfl | with_unfolding_all exact Nat.le_of_ble_eq_true rfl | (simp only [Jd, Je, Jr, Js, Jt, Nat.reduceAdd, allOne, oneCell, Bool.and_self, Jc]; first | done | omega)) only [decide_eq_false hx, show decide ((2 : Int) = 0) = false from rfl, ↓Qa, ↓Qb, ↓Qc, Qd, Qe, Qf, Qg, Qh, Qi, Qj, Qk, Ql, Qm, Qn, Qo, Qp, Qq, Qr, Qs, Qt, Qu, Qv, Qw, Qx, Qy, ptrTo, Qz, QA, QB, QC, QD, QE, QF, QG, QH, QI, QJ, QK, QL, QM, QN, QO, QP, QQ, QR, QS, QT, QU, QV, QW, QX, QY, QZ, Ja, Jb, Jc, Jd, Je, Jf, Jg, Jh, Ji, Jj, Jk, Jl, Jm, Jn, Jo, Jp, Jq, Jr, Js, Jt, Nat.reduceAdd]
          exact hk _ e2
      · rw [List.drop_of_length_le (by omega)] at hO
        have hO2 : (0 : Int) = ordE l.length [] l := hO
        rw [← hO2] at hk
        exact hk _ e2
theorem turning_sp {n : Nat} {m : Mem} {v : Value} {l : List Int} {k : Value → Mem → Option Unit} (hlf : 1000000 ≤ lf) (hL : L ≤ m.next) (hv : IL m v l) (ho : Opn v) (hl : l.length < 1000) (hk : ∀ m', Gt m m' → k (.tuple ⟨[.bool (trnX l), .int .i64 (chkO l)]⟩) m' = some ()) : runT (tab lf) (n + 5) 35 [v] L m k = some () := by
  rw [r35]; dsimp only [S35, iofNat, inegSucc]
  try simp (disch := first | omega | with_unfolding_all exact id rfl | with_unfolding_all exact Nat.le_of_ble_eq_true rfl | (simp only [Jd, Je, Jr, Js, Jt, Nat.reduceAdd, allOne, oneCell, Bool.and_self, Jc]; first | done | omega)) only [↓Qa, ↓Qb, ↓Qc, Qd, Qe, Qf, Qg, Qh, Qi, Qj, Qk, Ql, Qm, Qn, Qo, Qp, Qq, Qr, Qs, Qt, Qu, Qv, Qw, Qx, Qy, ptrTo, Qz, QA, QB, QC, QD, QE, QF, QG, QH, QI, QJ, QK, QL, QM, QN, QO, QP, QQ, QR, QS, QT, QU, QV, QW, QX, QY, QZ, Ja, Jb, Jc, Jd, Je, Jf, Jg, Jh, Ji, Jj, Jk, Jl, Jm, Jn, Jo, Jp, Jq, Jr, Js, Jt, Nat.reduceAdd]
  unfold trnX at hk
  refine order_sp hlf hL hv hl fun m1 e1 => ?_
  have n1 := e1.next
  have hk1 := hk m1 e1
  by_cases h : chkO l = 0
  · rw [if_pos h] at hk1
    obtain ⟨b, rfl, hnd, hlt, h1, h9⟩ := chkO_ok h
    rw [toNat_ci] at hk1
    have hv1 := hv.mono e1
    obtain ⟨u, s1, s2⟩ := sl_suf hv1 ho (k := 1) (by omega) (by rw [ci_length]; omega)
    have hs2l := s2.ln
    rw [List.length_drop, ci_length] at hs2l
    have s1' : sl Try.prog 22 v (some (.int .i64 1)) none none = some u := s1
    rw [h]
    rw [h] at hk1
    try simp (disch := first | omega | with_unfolding_all exact id rfl | with_unfolding_all exact Nat.le_of_ble_eq_true rfl | (simp only [Jd, Je, Jr, Js, Jt, Nat.reduceAdd, allOne, oneCell, Bool.and_self, Jc]; first | done | omega)) only [s1', hs2l, ↓Qa, ↓Qb, ↓Qc, Qd, Qe, Qf, Qg, Qh, Qi, Qj, Qk, Ql, Qm, Qn, Qo, Qp, Qq, Qr, Qs, Qt, Qu, Qv, Qw, Qx, Qy, ptrTo, Qz, QA, QB, QC, QD, QE, QF, QG, QH, QI, QJ, QK, QL, QM, QN, QO, QP, QQ, QR, QS, QT, QU, QV, QW, QX, QY, QZ, Ja, Jb, Jc, Jd, Je, Jf, Jg, Jh, Ji, Jj, Jk, Jl, Jm, Jn, Jo, Jp, Jq, Jr, Js, Jt, Nat.reduceAdd]
    refine loop_up (b.length - 1) (fun i vs m' => vs = [.int .i64 (i : Int)] ∧ m' = m1 ∧ trnB true (b.take (i + 1)) = true) (by omega) ⟨rfl, rfl, ?_⟩ ?_
    · cases b with
      | nil => rfl
      | cons x b => rfl
    · rintro i vs m' hi ⟨rfl, rfl, ht⟩ self hself
      rw [uc_e, oInt_lss]
      refine oIf_dec (fun h3 => ?_) (fun h3 => ?_)
      · have hi1 : i + 1 < b.length := by omega
        have hil : i < b.length := by omega
        have hc0 : i < (ci b).length := by rw [ci_length]; exact hil
        have hc1 : i + 1 < (ci b).length := by rw [ci_length]; exact hi1
        rw [oInt_add ⟨by omega, by omega⟩, show (i : Int) + 1 = ((i + 1 : Nat) : Int) by omega, hv1.ia hc1, oOpt_e, hv1.ld hc1, oOpt_e, hv1.ia hc0, oOpt_e, hv1.ld hc0, oOpt_e, oInt_gtr, show (2 : Int) = ((2 : Nat) : Int) from rfl, oInt_remN (by omega), oInt_eql, ci_getE b hil, ci_getE b hi1]
        rw [show decide (((b[i] : Nat) : Int) < ((b[i + 1] : Nat) : Int)) = decide (b[i] < b[i + 1]) from decide_eq_decide.2 (by omega), show decide ((((i % 2 : Nat)) : Int) = 0) = decide (i % 2 = 0) from decide_eq_decide.2 (by omega), neqB, oOpt_e]
        have hst := trn_take hi1
        rw [ht, Bool.true_and] at hst
        rw [← hst]
        cases hc : trnB true (b.take (i + 2)) with
        | true =>
          rw [Bool.not_true, oIf_f]
          try rw [oInt_add ⟨by omega, by omega⟩]
          exact hself (by omega) _ _ ⟨rfl, rfl, hc⟩
        | false =>
          rw [Bool.not_false, oIf_t]
          have : trnB true b = false := by
            cases hb : trnB true b with
            | false => rfl
            | true =>
              have h2 : trnB true (b.take b.length) = true := by rw [List.take_length]; exact hb
              have := trn_pre (b := b) (i + 2) b.length (by omega) h2
              rw [hc] at this; cases this
          rw [this] at hk1
          exact hk1
      · rw [List.take_of_length_le (by omega)] at ht
        rw [ht] at hk1
        exact hk1
  · rw [if_neg h] at hk1
    try simp (disch := first | omega | with_unfolding_all exact id rfl | with_unfolding_all exact Nat.le_of_ble_eq_true rfl | (simp only [Jd, Je, Jr, Js, Jt, Nat.reduceAdd, allOne, oneCell, Bool.and_self, Jc]; first | done | omega)) only [decide_eq_false h, ↓Qa, ↓Qb, ↓Qc, Qd, Qe, Qf, Qg, Qh, Qi, Qj, Qk, Ql, Qm, Qn, Qo, Qp, Qq, Qr, Qs, Qt, Qu, Qv, Qw, Qx, Qy, ptrTo, Qz, QA, QB, QC, QD, QE, QF, QG, QH, QI, QJ, QK, QL, QM, QN, QO, QP, QQ, QR, QS, QT, QU, QV, QW, QX, QY, QZ, Ja, Jb, Jc, Jd, Je, Jf, Jg, Jh, Ji, Jj, Jk, Jl, Jm, Jn, Jo, Jp, Jq, Jr, Js, Jt, Nat.reduceAdd]
    exact hk1
theorem rturning_sp {n : Nat} {m : Mem} {v : Value} {l : List Int} {k : Value → Mem → Option Unit} (hlf : 1000000 ≤ lf) (hv : IL m v l) (ho : Opn v) (hl : l.length < 1000) (hk : k (.tuple ⟨[.bool (trnX l), .int .i64 (chkO l)]⟩) m = some ()) : runT (tab lf) (n + 2) 36 [v] L m k = some () := by
  rw [r36]; dsimp only [S36, iofNat, inegSucc]
  unfold trnX at hk
  try simp (disch := first | omega | with_unfolding_all exact id rfl | with_unfolding_all exact Nat.le_of_ble_eq_true rfl | (simp only [Jd, Je, Jr, Js, Jt, Nat.reduceAdd, allOne, oneCell, Bool.and_self, Jc]; first | done | omega)) only [hv.ln, ↓Qa, ↓Qb, ↓Qc, Qd, Qe, Qf, Qg, Qh, Qi, Qj, Qk, Ql, Qm, Qn, Qo, Qp, Qq, Qr, Qs, Qt, Qu, Qv, Qw, Qx, Qy, ptrTo, Qz, QA, QB, QC, QD, QE, QF, QG, QH, QI, QJ, QK, QL, QM, QN, QO, QP, QQ, QR, QS, QT, QU, QV, QW, QX, QY, QZ, Ja, Jb, Jc, Jd, Je, Jf, Jg, Jh, Ji, Jj, Jk, Jl, Jm, Jn, Jo, Jp, Jq, Jr, Js, Jt, Nat.reduceAdd]
  by_cases h0 : l.length = 0
  · rw [show chkO l = 4 by unfold chkO; rw [if_pos h0]] at hk
    try simp (disch := first | omega | with_unfolding_all exact id rfl | with_unfolding_all exact Nat.le_of_ble_eq_true rfl | (simp only [Jd, Je, Jr, Js, Jt, Nat.reduceAdd, allOne, oneCell, Bool.and_self, Jc]; first | done | omega)) only [decide_eq_true (show ((l.length : Nat) : Int) = 0 by omega), ↓Qa, ↓Qb, ↓Qc, Qd, Qe, Qf, Qg, Qh, Qi, Qj, Qk, Ql, Qm, Qn, Qo, Qp, Qq, Qr, Qs, Qt, Qu, Qv, Qw, Qx, Qy, ptrTo, Qz, QA, QB, QC, QD, QE, QF, QG, QH, QI, QJ, QK, QL, QM, QN, QO, QP, QQ, QR, QS, QT, QU, QV, QW, QX, QY, QZ, Ja, Jb, Jc, Jd, Je, Jf, Jg, Jh, Ji, Jj, Jk, Jl, Jm, Jn, Jo, Jp, Jq, Jr, Js, Jt, Nat.reduceAdd]
    exact hk
  · try simp (disch := first | omega | with_unfolding_all exact id rfl | with_unfolding_all exact Nat.le_of_ble_eq_true rfl | (simp only [Jd, Je, Jr, Js, Jt, Nat.reduceAdd, allOne, oneCell, Bool.and_self, Jc]; first | done | omega)) only [decide_eq_false (show ¬ ((l.length : Nat) : Int) = 0 by omega), ↓Qa, ↓Qb, ↓Qc, Qd, Qe, Qf, Qg, Qh, Qi, Qj, Qk, Ql, Qm, Qn, Qo, Qp, Qq, Qr, Qs, Qt, Qu, Qv, Qw, Qx, Qy, ptrTo, Qz, QA, QB, QC, QD, QE, QF, QG, QH, QI, QJ, QK, QL, QM, QN, QO, QP, QQ, QR, QS, QT, QU, QV, QW, QX, QY, QZ, Ja, Jb, Jc, Jd, Je, Jf, Jg, Jh, Ji, Jj, Jk, Jl, Jm, Jn, Jo, Jp, Jq, Jr, Js, Jt, Nat.reduceAdd]
    by_cases h9 : 9 < l.length
    · rw [show chkO l = 3 by unfold chkO; rw [if_neg h0, if_pos h9]] at hk
      try simp (disch := first | omega | with_unfolding_all exact id rfl | with_unfolding_all exact Nat.le_of_ble_eq_true rfl | (simp only [Jd, Je, Jr, Js, Jt, Nat.reduceAdd, allOne, oneCell, Bool.and_self, Jc]; first | done | omega)) only [decide_eq_true (show (9 : Int) < (l.length : Int) by omega), ↓Qa, ↓Qb, ↓Qc, Qd, Qe, Qf, Qg, Qh, Qi, Qj, Qk, Ql, Qm, Qn, Qo, Qp, Qq, Qr, Qs, Qt, Qu, Qv, Qw, Qx, Qy, ptrTo, Qz, QA, QB, QC, QD, QE, QF, QG, QH, QI, QJ, QK, QL, QM, QN, QO, QP, QQ, QR, QS, QT, QU, QV, QW, QX, QY, QZ, Ja, Jb, Jc, Jd, Je, Jf, Jg, Jh, Ji, Jj, Jk, Jl, Jm, Jn, Jo, Jp, Jq, Jr, Js, Jt, Nat.reduceAdd]
      exact hk
    · have hch : chkO l = ordE l.length [] l := by unfold chkO; rw [if_neg h0, if_neg h9]
      try simp (disch := first | omega | with_unfolding_all exact id rfl | with_unfolding_all exact Nat.le_of_ble_eq_true rfl | (simp only [Jd, Je, Jr, Js, Jt, Nat.reduceAdd, allOne, oneCell, Bool.and_self, Jc]; first | done | omega)) only [decide_eq_false (show ¬ (9 : Int) < (l.length : Int) by omega), ↓Qa, ↓Qb, ↓Qc, Qd, Qe, Qf, Qg, Qh, Qi, Qj, Qk, Ql, Qm, Qn, Qo, Qp, Qq, Qr, Qs, Qt, Qu, Qv, Qw, Qx, Qy, ptrTo, Qz, QA, QB, QC, QD, QE, QF, QG, QH, QI, QJ, QK, QL, QM, QN, QO, QP, QQ, QR, QS, QT, QU, QV, QW, QX, QY, QZ, Ja, Jb, Jc, Jd, Je, Jf, Jg, Jh, Ji, Jj, Jk, Jl, Jm, Jn, Jo, Jp, Jq, Jr, Js, Jt, Nat.reduceAdd]
      refine loop_up l.length (fun i vs m' => vs = [.int .i64 (i : Int)] ∧ m' = m ∧ ordE l.length (l.take i) (l.drop i) = chkO l) (by omega) ⟨rfl, rfl, by rw [hch]; rfl⟩ ?_
      rintro i vs m' hi ⟨rfl, rfl, hO⟩ self hself
      try simp (disch := first | omega | with_unfolding_all exact id rfl | with_unfolding_all exact Nat.le_of_ble_eq_true rfl | (simp only [Jd, Je, Jr, Js, Jt, Nat.reduceAdd, allOne, oneCell, Bool.and_self, Jc]; first | done | omega)) only [hv.ln, ↓Qa, ↓Qb, ↓Qc, Qd, Qe, Qf, Qg, Qh, Qi, Qj, Qk, Ql, Qm, Qn, Qo, Qp, Qq, Qr, Qs, Qt, Qu, Qv, Qw, Qx, Qy, ptrTo, Qz, QA, QB, QC, QD, QE, QF, QG, QH, QI, QJ, QK, QL, QM, QN, QO, QP, QQ, QR, QS, QT, QU, QV, QW, QX, QY, QZ, Ja, Jb, Jc, Jd, Je, Jf, Jg, Jh, Ji, Jj, Jk, Jl, Jm, Jn, Jo, Jp, Jq, Jr, Js, Jt, Nat.reduceAdd]
      refine oIf_dec (fun h3 => ?_) (fun h3 => ?_)
      · have hil : i < l.length := by omega
        rw [ord_step hil] at hO
        try simp (disch := first | omega | with_unfolding_all exact id rfl | with_unfolding_all exact Nat.le_of_ble_eq_true rfl | (simp only [Jd, Je, Jr, Js, Jt, Nat.reduceAdd, allOne, oneCell, Bool.and_self, Jc]; first | done | omega)) only [hv.ia hil, hv.ld hil, ↓Qa, ↓Qb, ↓Qc, Qd, Qe, Qf, Qg, Qh, Qi, Qj, Qk, Ql, Qm, Qn, Qo, Qp, Qq, Qr, Qs, Qt, Qu, Qv, Qw, Qx, Qy, ptrTo, Qz, QA, QB, QC, QD, QE, QF, QG, QH, QI, QJ, QK, QL, QM, QN, QO, QP, QQ, QR, QS, QT, QU, QV, QW, QX, QY, QZ, Ja, Jb, Jc, Jd, Je, Jf, Jg, Jh, Ji, Jj, Jk, Jl, Jm, Jn, Jo, Jp, Jq, Jr, Js, Jt, Nat.reduceAdd]
        rw [oInt_sub ⟨by omega, by omega⟩]
        refine in_sp _ _ _ ?_
        by_cases hx : inI l[i] 0 ((l.length : Int) - 1)
        · rw [if_pos hx] at hO
          obtain ⟨u, s1, s2⟩ := sl_pre hv ho (by omega) (i := i) (by omega)
          try simp (disch := first | omega | with_unfolding_all exact id rfl | with_unfolding_all exact Nat.le_of_ble_eq_true rfl | (simp only [Jd, Je, Jr, Js, Jt, Nat.reduceAdd, allOne, oneCell, Bool.and_self, Jc]; first | done | omega)) only [decide_eq_true hx, s1, hv.ia hil, hv.ld hil, ↓Qa, ↓Qb, ↓Qc, Qd, Qe, Qf, Qg, Qh, Qi, Qj, Qk, Ql, Qm, Qn, Qo, Qp, Qq, Qr, Qs, Qt, Qu, Qv, Qw, Qx, Qy, ptrTo, Qz, QA, QB, QC, QD, QE, QF, QG, QH, QI, QJ, QK, QL, QM, QN, QO, QP, QQ, QR, QS, QT, QU, QV, QW, QX, QY, QZ, Ja, Jb, Jc, Jd, Je, Jf, Jg, Jh, Ji, Jj, Jk, Jl, Jm, Jn, Jo, Jp, Jq, Jr, Js, Jt, Nat.reduceAdd]
          refine has_sp _ hlf s2 (by rw [List.length_take]; omega) ?_
          by_cases hin : l[i] ∈ l.take i
          · rw [if_pos hin] at hO
            rw [← hO] at hk
            try simp (disch := first | omega | with_unfolding_all exact id rfl | with_unfolding_all exact Nat.le_of_ble_eq_true rfl | (simp only [Jd, Je, Jr, Js, Jt, Nat.reduceAdd, allOne, oneCell, Bool.and_self, Jc]; first | done | omega)) only [decide_eq_true hin, ↓Qa, ↓Qb, ↓Qc, Qd, Qe, Qf, Qg, Qh, Qi, Qj, Qk, Ql, Qm, Qn, Qo, Qp, Qq, Qr, Qs, Qt, Qu, Qv, Qw, Qx, Qy, ptrTo, Qz, QA, QB, QC, QD, QE, QF, QG, QH, QI, QJ, QK, QL, QM, QN, QO, QP, QQ, QR, QS, QT, QU, QV, QW, QX, QY, QZ, Ja, Jb, Jc, Jd, Je, Jf, Jg, Jh, Ji, Jj, Jk, Jl, Jm, Jn, Jo, Jp, Jq, Jr, Js, Jt, Nat.reduceAdd]
            exact hk
          · rw [if_neg hin] at hO
            try simp (disch := first | omega | with_unfolding_all exact id rfl | with_unfolding_all exact Nat.le_of_ble_eq_true rfl | (simp only [Jd, Je, Jr, Js, Jt, Nat.reduceAdd, allOne, oneCell, Bool.and_self, Jc]; first | done | omega)) only [decide_eq_false hin, ↓Qa, ↓Qb, ↓Qc, Qd, Qe, Qf, Qg, Qh, Qi, Qj, Qk, Ql, Qm, Qn, Qo, Qp, Qq, Qr, Qs, Qt, Qu, Qv, Qw, Qx, Qy, ptrTo, Qz, QA, QB, QC, QD, QE, QF, QG, QH, QI, QJ, QK, QL, QM, QN, QO, QP, QQ, QR, QS, QT, QU, QV, QW, QX, QY, QZ, Ja, Jb, Jc, Jd, Je, Jf, Jg, Jh, Ji, Jj, Jk, Jl, Jm, Jn, Jo, Jp, Jq, Jr, Js, Jt, Nat.reduceAdd]
            rw [oInt_add ⟨by omega, by omega⟩]
            exact hself hil _ _ ⟨rfl, rfl, hO⟩
        · rw [if_neg hx] at hO
          rw [← hO] at hk
          try simp (disch := first | omega | with_unfolding_all exact id rfl | with_unfolding_all exact Nat.le_of_ble_eq_true rfl | (simp only [Jd, Je, Jr, Js, Jt, Nat.reduceAdd, allOne, oneCell, Bool.and_self, Jc]; first | done | omega)) only [decide_eq_false hx, ↓Qa, ↓Qb, ↓Qc, Qd, Qe, Qf, Qg, Qh, Qi, Qj, Qk, Ql, Qm, Qn, Qo, Qp, Qq, Qr, Qs, Qt, Qu, Qv, Qw, Qx, Qy, ptrTo, Qz, QA, QB, QC, QD, QE, QF, QG, QH, QI, QJ, QK, QL, QM, QN, QO, QP, QQ, QR, QS, QT, QU, QV, QW, QX, QY, QZ, Ja, Jb, Jc, Jd, Je, Jf, Jg, Jh, Ji, Jj, Jk, Jl, Jm, Jn, Jo, Jp, Jq, Jr, Js, Jt, Nat.reduceAdd]
          exact hk
      · rw [List.drop_of_length_le (by omega)] at hO
        have hO2 : chkO l = 0 := hO.symm
        rw [hO2, if_pos rfl] at hk
        obtain ⟨b, rfl, hnd, hlt, h1, h99⟩ := chkO_ok hO2
        rw [toNat_ci] at hk
        refine turning80_sp hlf hv (by omega) ?_
        exact hk
end
end Go.Vit
