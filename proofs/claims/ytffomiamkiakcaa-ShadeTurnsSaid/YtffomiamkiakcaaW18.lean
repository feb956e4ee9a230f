/- Walks: Delete; what is left of a turning order. -/
import Derived.Test.YtffomiamkiakcaaW17
set_option linter.unusedSimpArgs false
set_option linter.unusedVariables false
set_option maxRecDepth 20000
namespace Go.Vit
open Go Go.Proofs
attribute [local irreducible] runT loopS
/-- s[i:j:k] in its bounds is some slice. -/
theorem sl_3 {P : Program} {t e : TypeId} {s : Nat} (ht : P.underlying t = some (.slice e)) (hs : tsize P e = some s) {b o n c i j k : Nat} (h1 : i ≤ j) (h2 : j ≤ k) (h3 : k ≤ c) :
    ∃ v, sl P t (.slice (some ⟨b, o, none⟩) n c) (some (.int .i64 (i : Int))) (some (.int .i64 (j : Int))) (some (.int .i64 (k : Int))) = some v := by
  unfold sl aslice
  rw [ht]
  simp only [hs, Option.map_some]
  have g0 : abound (tri (some (.int .i64 (i : Int))) (some (.int .i64 (j : Int))) (some (.int .i64 (k : Int)))) (some (.tmp 0)) 0 = some i := by
    show anat (.int .i64 (Int.ofNat i)) = _
    simp only [anat, natK_eq]
  have g1 : abound (tri (some (.int .i64 (i : Int))) (some (.int .i64 (j : Int))) (some (.int .i64 (k : Int)))) (some (.tmp 1)) n = some j := by
    show anat (.int .i64 (Int.ofNat j)) = _
    simp only [anat, natK_eq]
  have g2 : abound (tri (some (.int .i64 (i : Int))) (some (.int .i64 (j : Int))) (some (.int .i64 (k : Int)))) (some (.tmp 2)) c = some k := by
    show anat (.int .i64 (Int.ofNat k)) = _
    simp only [anat, natK_eq]
  have g3 : abounds (tri (some (.int .i64 (i : Int))) (some (.int .i64 (j : Int))) (some (.int .i64 (k : Int)))) n c (some (.tmp 0)) (some (.tmp 1)) (some (.tmp 2)) = some (i, j, k) := by
    unfold abounds
    simp only [g0, g1, g2, ble_t h1, ble_t h2, ble_t h3, Bool.and_self]
  simp only [g3]
  cases Nat.beq k i <;> exact ⟨_, rfl⟩
/-- s[k:] to the end of a full block is empty. -/
theorem sl_end {P : Program} {t e : TypeId} {s : Nat} (ht : P.underlying t = some (.slice e)) (hs : tsize P e = some s) {b o c : Nat} (h0 : 0 < c) :
    sl P t (.slice (some ⟨b, o, none⟩) c c) (some (.int .i64 (c : Int))) none none = some (.slice (some ⟨b, o, some 1⟩) 0 0) := by
  unfold sl aslice
  rw [ht]
  simp only [hs, Option.map_some, Option.map_none]
  have h1 : abound (tri (some (.int .i64 (c : Int))) none none) (some (.tmp 0)) 0 = some c := by
    show anat (.int .i64 (Int.ofNat c)) = _
    simp only [anat, natK_eq]
  have h2 : abounds (tri (some (.int .i64 (c : Int))) none none) c c (some (.tmp 0)) none none = some (c, c, c) := by
    unfold abounds
    simp only [abound_none, h1, ble_t (Nat.le_refl c), Bool.and_self]
  have h3 : Nat.beq c c = true := Nat.beq_refl c
  simp only [h2, beq_f (show c ≠ 0 by omega), h3]
/-- s[i:j] of an open slice. -/
theorem sl_mid {P : Program} {t e : TypeId} {s : Nat} (ht : P.underlying t = some (.slice e)) (hs : tsize P e = some s) {b o n c i j : Nat} (h1 : i ≤ j) (h2 : j ≤ c) (h3 : i < c) :
    ∃ c', sl P t (.slice (some ⟨b, o, none⟩) n c) (some (.int .i64 (i : Int))) (some (.int .i64 (j : Int))) none = some (.slice (some ⟨b, o + i * s, none⟩) (j - i) c') := by
  unfold sl aslice
  rw [ht]
  simp only [hs, Option.map_some, Option.map_none]
  have g0 : abound (tri (some (.int .i64 (i : Int))) (some (.int .i64 (j : Int))) none) (some (.tmp 0)) 0 = some i := by
    show anat (.int .i64 (Int.ofNat i)) = _
    simp only [anat, natK_eq]
  have g1 : abound (tri (some (.int .i64 (i : Int))) (some (.int .i64 (j : Int))) none) (some (.tmp 1)) n = some j := by
    show anat (.int .i64 (Int.ofNat j)) = _
    simp only [anat, natK_eq]
  have g3 : abounds (tri (some (.int .i64 (i : Int))) (some (.int .i64 (j : Int))) none) n c (some (.tmp 0)) (some (.tmp 1)) none = some (i, j, c) := by
    unfold abounds
    simp only [abound_none, g0, g1, ble_t h1, ble_t h2, ble_t (Nat.le_refl c), Bool.and_self]
  simp only [g3]
  by_cases hi : i = 0
  · subst hi
    exact ⟨c, by simp⟩
  · simp only [beq_f hi, beq_f (show c ≠ i by omega)]
    exact ⟨c - i, rfl⟩
theorem aapp_no {P : Program} {t : TypeId} {y L : Nat} {m : Mem} {b o n c : Nat} {x : Value} {ds : List Value} (ht : aelem P t = some (1, y)) (hx : asrc m 1 x = some (0, ds)) (hn : n ≤ c) :
    aappend P L m t (.slice (some ⟨b, o, none⟩) n c) x = some (.slice (some ⟨b, o, none⟩) n c, m) := by
  unfold aappend
  rw [ht]
  simp only [hx, ble_t hn]
theorem aclear1 {L : Nat} {m : Mem} {b o s c : Nat} {x : Option Nat} {cs : List Value} (hL : L ≤ b) (h : m.rd b = some ⟨s, cs, none⟩) (hn : o + 1 ≤ cs.length) :
    aclear Try.prog L m 22 (.slice (some ⟨b, o, x⟩) 1 c) = some (Go.undef, m.put b (some ⟨s, cs.take o ++ ([.int .i64 0] ++ cs.drop (o + 1)), none⟩)) := by
  unfold aclear
  rw [u22]
  simp only [azero3]
  rw [show azrow [.int .i64 0] (Nat.succ 0) = [.int .i64 0] from rfl, awr_e hL h hn rfl]
  rfl
theorem erase_take {α : Type} (l : List α) (q : Nat) : l.eraseIdx q = l.take q ++ l.drop (q + 1) := List.eraseIdx_eq_take_drop_succ l q
section
variable {lf n L : Nat} {m : Mem} {k : Value → Mem → Option Unit}
theorem delete_sp {b r N q : Nat} {cs : List Value} {l : List Nat} (hlf : 1000000 ≤ lf) (hL : L ≤ b) (hb : m.rd b = some ⟨1, cs, none⟩) (hc : cs.length = N) (hN : N ≤ 64) (hr : r ≤ N) (hl : l.length = r) (hcs : cs.take r = (ci l).map (Value.int .i64)) (hq : q < r)
    (hk : ∀ m' cs', (∀ c, c ≠ b → m'.rd c = m.rd c) → m'.next = m.next → m'.rd b = some ⟨1, cs', none⟩ → cs'.length = N → cs'.take (r - 1) = (ci (l.eraseIdx q)).map (Value.int .i64) → k (.slice (some ⟨b, 0, none⟩) (r - 1) N) m' = some ()) :
    runT (tab lf) (n + 1) 100 [.slice (some ⟨b, 0, none⟩) r N, .int .i64 (q : Int), .int .i64 ((q : Int) + 1)] L m k = some () := by
  rw [r100]
  dsimp only [S100, iofNat, inegSucc]
  have hq1 : ((q : Int) + 1) = ((q + 1 : Nat) : Int) := by omega
  rw [hq1]
  obtain ⟨v3, h3⟩ := sl_3 u22 ts3 (b := b) (o := 0) (n := r) (c := N) (i := q) (j := q + 1) (k := r) (by omega) (by omega) hr
  have hne : ¬ ((q : Int) = ((q + 1 : Nat) : Int)) := by omega
  have hbl := Mem.rd_lt hb
  try simp (maxSteps := 4000000) (disch := first | omega | with_unfolding_all exact id rfl | with_unfolding_all exact Nat.le_of_ble_eq_true rfl | (simp only [Jd, Je, Jr, Js, Jt, Nat.reduceAdd, allOne, oneCell, Bool.and_self, Jc]; first | done | omega)) only [ln_e, h3, hne, sl_hi u22 ts3 (b := b) (o := 0) (n := r) (c := N) (k := q) (by omega), ↓Qa, ↓Qb, Qd, Qe, Qf, Qg, Qh, Qi, Qj, Qk, Ql, Qm, Qn, Qo, Qp, Qq, Qr, Qs, Qt, Qu, Qv, Qw, Qx, Qy, ptrTo, Qz, QA, QB, QC, QD, QE, QF, QG, QH, QI, QJ, QK, QL, QM, QN, QO, QP, QQ, QR, QS, QT, QU, QV, QW, QX, QY, QZ, Ja, Jb, Jc, Jd, Je, Jf, Jg, Jh, Ji, Jj, Jk, Jl, Jm, Jn, Jo, Jp, Jq, Jr, Js, Jt, Nat.reduceAdd]
  have hcsq : cs.take q = (ci (l.take q)).map (Value.int .i64) := by
    have := congrArg (List.take q) hcs
    rw [List.take_take, Nat.min_eq_left (by omega)] at this
    rw [this]; simp [ci]
  by_cases hlast : q + 1 = r
  · have hx : ∃ x, sl Try.prog 22 (.slice (some ⟨b, 0, none⟩) r N) (some (.int .i64 ((q + 1 : Nat) : Int))) none none = some x ∧ asrc m 1 x = some (0, []) := by
      by_cases hqN : q + 1 = N
      · have hrN : r = N := by omega
        subst hqN
        subst hrN
        exact ⟨_, sl_end u22 ts3 (by omega), rfl⟩
      · refine ⟨_, sl_lo u22 ts3 (b := b) (o := 0) (n := r) (c := N) (k := q + 1) (by omega) (by omega) (by omega) hr, ?_⟩
        rw [show r - (q + 1) = 0 by omega]; rfl
    obtain ⟨x, hx1, hx2⟩ := hx
    obtain ⟨c', hm⟩ := sl_mid u22 ts3 (b := b) (o := 0) (n := q) (c := N) (i := q) (j := r) (by omega) hr (by omega)
    rw [hx1, oOpt_e, aapp_no ael22 hx2 (by omega), oRes_e, ln_e, oOpt_e, hm, oOpt_e, show r - q = 1 by omega, aclear1 hL hb (by omega), oRes_e]
    have h9 : r - 1 = q := by omega
    rw [h9] at hk
    have hlen : (cs.take (0 + q * 1)).length = q := by rw [List.length_take]; omega
    refine hk _ _ (fun c hcb => rd_other hcb) rfl (Mem.rd_put_eq _ _ hbl) ?_ ?_
    · rw [List.length_append, hlen, List.length_append, List.length_drop]; simp; omega
    · rw [List.take_append_of_le_length (by omega), List.take_of_length_le (by omega), show 0 + q * 1 = q by omega, hcsq, erase_take, List.drop_eq_nil_of_le (by omega), List.append_nil]
  · have h5 := sl_lo u22 ts3 (b := b) (o := 0) (n := r) (c := N) (k := q + 1) (by omega) (by omega) (by omega) hr
    have h6 : asrc m 1 (.slice (some ⟨b, 0 + (q + 1) * 1, none⟩) (r - (q + 1)) (N - (q + 1))) = some ((r - (q + 1) - 1) + 1, (ci (l.drop (q + 1))).map (Value.int .i64)) := by
      have h7 : (cs.drop (q + 1)).take (r - (q + 1)) = (ci (l.drop (q + 1))).map (Value.int .i64) := by
        have := congrArg (List.drop (q + 1)) hcs
        rw [List.drop_take] at this
        rw [this]; simp [ci]
      have h8 := (IL.of (x := none) (o := q + 1) (n := r - (q + 1)) (c := N - (q + 1)) hb (by omega) h7).1
      rw [show 0 + (q + 1) * 1 = q + 1 by omega, h8, ci_length, List.length_drop, hl]
      congr 2
      omega
    have h8 : ((ci (l.drop (q + 1))).map (Value.int .i64)).length = r - (q + 1) := by rw [List.length_map, ci_length, List.length_drop, hl]
    rw [h5, oOpt_e, aapp_in ael22 h6 (by omega) (by omega) hL hb (by omega) (allOne_map _), oRes_e, ln_e, oOpt_e, show q + (r - (q + 1) - 1 + 1) = r - 1 by omega]
    obtain ⟨c', hm⟩ := sl_mid u22 ts3 (b := b) (o := 0) (n := r - 1) (c := N) (i := r - 1) (j := r) (by omega) hr (by omega)
    have h9 : (0 + q) + ((ci (l.drop (q + 1))).map (Value.int .i64)).length = r - 1 := by rw [h8]; omega
    rw [h9]
    have h10 : (cs.take (0 + q)).length = q := by rw [List.length_take]; omega
    have h11 : (cs.take (0 + q) ++ ((ci (l.drop (q + 1))).map (Value.int .i64) ++ cs.drop (r - 1))).length = N := by
      rw [List.length_append, h10, List.length_append, h8, List.length_drop]; omega
    have h12 : (cs.take (0 + q) ++ ((ci (l.drop (q + 1))).map (Value.int .i64) ++ cs.drop (r - 1))).take (r - 1) = (ci (l.eraseIdx q)).map (Value.int .i64) := by
      rw [← List.append_assoc, List.take_append_of_le_length (by rw [List.length_append, h10, h8]; omega), List.take_of_length_le (by rw [List.length_append, h10, h8]; omega), Nat.zero_add, hcsq, erase_take]
      simp [ci]
    generalize cs.take (0 + q) ++ ((ci (l.drop (q + 1))).map (Value.int .i64) ++ cs.drop (r - 1)) = cs2 at h11 h12 ⊢
    have hb2 : (m.put b (some ⟨1, cs2, none⟩)).rd b = some ⟨1, cs2, none⟩ := Mem.rd_put_eq _ _ hbl
    have hbl2 := Mem.rd_lt hb2
    rw [hm, oOpt_e, show r - (r - 1) = 1 by omega, show 0 + (r - 1) * 1 = r - 1 by omega, aclear1 hL hb2 (by omega), oRes_e]
    have h13 : (cs2.take (r - 1)).length = r - 1 := by rw [List.length_take]; omega
    refine hk _ _ (fun c hcb => (rd_other hcb).trans (rd_other hcb)) rfl (Mem.rd_put_eq _ _ hbl2) ?_ ?_
    · rw [List.length_append, h13, List.length_append, List.length_drop]; simp; omega
    · rw [List.take_append_of_le_length (by omega), List.take_of_length_le (by omega), h12]
/-- What is left, in memory. -/
structure Rst (R b N : Nat) (left : List Nat) (down : Bool) (m : Mem) : Prop where
  qr : m.rd R = some ⟨1, [.slice (some ⟨b, 0, none⟩) left.length N, .bool down], none⟩
  qb : ∃ cs, m.rd b = some ⟨1, cs, none⟩ ∧ cs.length = N ∧ cs.take left.length = (ci left).map (Value.int .i64)
  ne : R ≠ b
  le : left.length ≤ N
theorem Rst.keep {R b N : Nat} {left : List Nat} {down : Bool} {m m' : Mem} (h : Rst R b N left down m) (hr : m'.rd R = m.rd R) (hb : m'.rd b = m.rd b) : Rst R b N left down m' := by
  obtain ⟨cs, h1, h2, h3⟩ := h.qb
  exact ⟨hr.trans h.qr, ⟨cs, hb.trans h1, h2, h3⟩, h.ne, h.le⟩
theorem Rst.mono {R b N : Nat} {left : List Nat} {down : Bool} {m m' : Mem} (h : Rst R b N left down m) (e : Gt m m') : Rst R b N left down m' := by
  obtain ⟨cs, h1, h2, h3⟩ := h.qb
  exact h.keep (e.kept _ (Mem.rd_lt h.qr)) (e.kept _ (Mem.rd_lt h1))
theorem Rst.il {R b N : Nat} {left : List Nat} {down : Bool} {m : Mem} (h : Rst R b N left down m) : IL m (.slice (some ⟨b, 0, none⟩) left.length N) (ci left) := by
  obtain ⟨cs, h1, h2, h3⟩ := h.qb
  exact IL.of h1 (by have := h.le; omega) (by rw [List.drop_zero]; exact h3)
theorem bu91 : bu Try.prog 91 [] = some (.agg ⟨[.slice none 0 0, .bool false]⟩) := by kernel_rfl
theorem range_ci (i : Nat) : ci (List.range (i + 1)) = ci (List.range i) ++ [(i : Int)] := by rw [List.range_succ]; simp [ci]
theorem begun_sp {N : Nat} (hlf : 1000000 ≤ lf) (hL : L ≤ m.next) (h1 : 1 ≤ N) (h9 : N ≤ 9) (hk : ∀ b m', Gt m m' → m.next < b → b < m'.next → Rst m.next b N (List.range N) false m' → k (.pointer (some ⟨m.next, 0, none⟩)) m' = some ()) :
    runT (tab lf) (n + 1) 83 [.int .i64 (N : Int)] L m k = some () := by
  rw [r83]; dsimp only [S83, iofNat, inegSucc]
  rw [uc_e, un0_e, bu91, oOpt_e, abox_e, oRes_e, cells_agg]
  have e1 := Mem.gt_push m ⟨1, [.slice none 0 0, .bool false], none⟩
  have q1 : (m.push ⟨1, [.slice none 0 0, .bool false], none⟩).rd m.next = some ⟨1, [.slice none 0 0, .bool false], none⟩ := Mem.rd_push _ _
  have n1 : (m.push ⟨1, [.slice none 0 0, .bool false], none⟩).next = m.next + 1 := Mem.push_next _ _
  have hp : ptrTo m.next = .pointer (some ⟨m.next, 0, none⟩) := rfl
  try rw [hp]
  generalize m.push ⟨1, [.slice none 0 0, .bool false], none⟩ = m1 at e1 q1 n1 ⊢
  have han : ∀ a : Addr, anil (.pointer (some a)) = some (.pointer (some a)) := fun _ => rfl
  refine loop_up N (fun i vs m' => vs = [.int .i64 (i : Int)] ∧ Gt m m' ∧ m.next < m'.next ∧ ∃ v, m'.rd m.next = some ⟨1, [v, .bool false], none⟩ ∧ GL (m.next + 1) m' v (ci (List.range i))) (by omega) ⟨rfl, e1, by omega, _, q1, GL.nil _ _⟩ ?_
  rintro i vs m2 hi ⟨rfl, e2, n2, v, q2, hv⟩ self hself
  rw [uc_e, oInt_lss]
  refine oIf_dec (fun h => ?_) (fun h => ?_)
  · have hiN : i < N := by omega
    have hl0 : rdo (m2.rd m.next) 0 = some v := by rw [q2]; rfl
    obtain ⟨v', m3, s1, s2, s3, s4, s5⟩ := GL.snocV (P := Try.prog) (L := L) (m0 := ⟨.e, 0⟩) (i : Int) ael22 (by omega) hv (by rw [ci_length, List.length_range]; omega) (by omega) (gt0 _) (Nat.zero_le _)
    have hvb : ∀ c, c < m.next + 1 → m3.rd c = m2.rd c := fun c hc => s5 c (by omega) fun hh => by have := hv.fr c hh; omega
    have q3 : m3.rd m.next = some ⟨1, [v, .bool false], none⟩ := (hvb _ (by omega)).trans q2
    obtain ⟨pv, cv, ev⟩ := s2.il.ex
    have hst : stw 1 L m3 m.next 0 v'.cells.toList (m3.rd m.next) = some (Go.undef, m3.put m.next (some ⟨1, [v', .bool false], none⟩)) := by
      rw [q3, ev]; exact stw_e hL rfl (by simp) rfl
    try simp (disch := first | omega | with_unfolding_all exact id rfl | with_unfolding_all exact Nat.le_of_ble_eq_true rfl | (simp only [Jd, Je, Jr, Js, Jt, Nat.reduceAdd, allOne, oneCell, Bool.and_self, Jc]; first | done | omega)) only [han, hl0, ↓Qa, ↓Qb, ↓Qc, Qd, Qe, Qf, Qg, Qh, Qi, Qj, Qk, Ql, Qm, Qn, Qo, Qp, Qq, Qr, Qs, Qt, Qu, Qv, Qw, Qx, Qy, ptrTo, Qz, QA, QB, QC, QD, QE, QF, QG, QH, QI, QJ, QK, QL, QM, QN, QO, QP, QQ, QR, QS, QT, QU, QV, QW, QX, QY, QZ, Ja, Jb, Jc, Jd, Je, Jf, Jg, Jh, Ji, Jj, Jk, Jl, Jm, Jn, Jo, Jp, Jq, Jr, Js, Jt, Nat.reduceAdd]
    rw [bs22, oRes_e, s1, oRes_e]
    try simp (disch := first | omega | with_unfolding_all exact id rfl | with_unfolding_all exact Nat.le_of_ble_eq_true rfl | (simp only [Jd, Je, Jr, Js, Jt, Nat.reduceAdd, allOne, oneCell, Bool.and_self, Jc]; first | done | omega)) only [han, ↓Qa, ↓Qb, ↓Qc, Qd, Qe, Qf, Qg, Qh, Qi, Qj, Qk, Ql, Qm, Qn, Qo, Qp, Qq, Qr, Qs, Qt, Qu, Qv, Qw, Qx, Qy, ptrTo, Qz, QA, QB, QC, QD, QE, QF, QG, QH, QI, QJ, QK, QL, QM, QN, QO, QP, QQ, QR, QS, QT, QU, QV, QW, QX, QY, QZ, Ja, Jb, Jc, Jd, Je, Jf, Jg, Jh, Ji, Jj, Jk, Jl, Jm, Jn, Jo, Jp, Jq, Jr, Js, Jt, Nat.reduceAdd]
    rw [hst, oRes_e, oInt_add ⟨by omega, by omega⟩]
    refine hself hiN _ _ ⟨rfl, ⟨by rw [Mem.put_next']; omega, fun c hc => (Mem.rd_put _ _ _ _ (by omega)).trans ((hvb c (by omega)).trans (e2.kept c hc))⟩, by rw [Mem.put_next']; omega, v', Mem.rd_put_eq _ _ (by omega), ?_⟩
    rw [range_ci]
    exact (s2.le (by omega)).keep fun c hc hc2 => Mem.rd_put _ _ _ _ (by have := s2.fr c hc; omega)
  · have hiN : i = N := by omega
    subst hiN
    rcases hv with ⟨h0, h2, _⟩ | ⟨b, hb, rfl, hr, hlen, hn⟩
    · rw [ci_length, List.length_range] at h2; omega
    · have hbl := Mem.rd_lt hr
      rw [ci_length, List.length_range] at q2 hlen
      refine hk b m2 e2 (by omega) hbl ⟨by rw [List.length_range]; exact q2, ⟨_, hr, by rw [hlen]; omega, by rw [List.length_range, List.take_of_length_le (by rw [hlen]; omega)]⟩, by omega, by rw [List.length_range]; omega⟩
def goesX (last : Int) (x : Nat) (down : Bool) : Bool := if last < 0 then true else (decide (last < (x : Int)) == down)
theorem goes_sp {R b N i : Nat} {left : List Nat} {down : Bool} {last : Int} (hR : Rst R b N left down m) (hi : i < left.length) (hk : k (.bool (goesX last left[i] down)) m = some ()) :
    runT (tab lf) (n + 1) 84 [.pointer (some ⟨R, 0, none⟩), .int .i64 last, .int .i64 (i : Int)] L m k = some () := by
  rw [r84]; dsimp only [S84, iofNat, inegSucc]
  have han : ∀ a : Addr, anil (.pointer (some a)) = some (.pointer (some a)) := fun _ => rfl
  have c0 : rdo (m.rd R) 0 = some (.slice (some ⟨b, 0, none⟩) left.length N) := by rw [hR.qr]; rfl
  have c1 : rdo (m.rd R) (0 + 1) = some (.bool down) := by rw [hR.qr]; rfl
  have c1' : rdo (m.rd R) 1 = some (.bool down) := by rw [hR.qr]; rfl
  have hil := hR.il
  have hci : i < (ci left).length := by rw [ci_length]; exact hi
  have i1 := hil.ia hci
  have l1 := hil.ld hci
  rw [ci_getE left hi] at l1
  have eqlB : ∀ x y : Bool, abin Try.prog .eql 4 (.bool x) (.bool y) = some (.bool (x == y)) := fun x y => by cases x <;> cases y <;> kernel_rfl
  unfold goesX at hk
  by_cases h : last < 0
  · rw [if_pos h] at hk
    try simp (disch := first | omega | with_unfolding_all exact id rfl | with_unfolding_all exact Nat.le_of_ble_eq_true rfl | (simp only [Jd, Je, Jr, Js, Jt, Nat.reduceAdd, allOne, oneCell, Bool.and_self, Jc]; first | done | omega)) only [decide_eq_true h, ↓Qa, ↓Qb, ↓Qc, Qd, Qe, Qf, Qg, Qh, Qi, Qj, Qk, Ql, Qm, Qn, Qo, Qp, Qq, Qr, Qs, Qt, Qu, Qv, Qw, Qx, Qy, ptrTo, Qz, QA, QB, QC, QD, QE, QF, QG, QH, QI, QJ, QK, QL, QM, QN, QO, QP, QQ, QR, QS, QT, QU, QV, QW, QX, QY, QZ, Ja, Jb, Jc, Jd, Je, Jf, Jg, Jh, Ji, Jj, Jk, Jl, Jm, Jn, Jo, Jp, Jq, Jr, Js, Jt, Nat.reduceAdd]
    exact hk
  · rw [if_neg h] at hk
    try simp (disch := first | omega | with_unfolding_all exact id rfl | with_unfolding_all exact Nat.le_of_ble_eq_true rfl | (simp only [Jd, Je, Jr, Js, Jt, Nat.reduceAdd, allOne, oneCell, Bool.and_self, Jc]; first | done | omega)) only [decide_eq_false h, han, c0, c1, c1', i1, l1, eqlB, ↓Qa, ↓Qb, ↓Qc, Qd, Qe, Qf, Qg, Qh, Qi, Qj, Qk, Ql, Qm, Qn, Qo, Qp, Qq, Qr, Qs, Qt, Qu, Qv, Qw, Qx, Qy, ptrTo, Qz, QA, QB, QC, QD, QE, QF, QG, QH, QI, QJ, QK, QL, QM, QN, QO, QP, QQ, QR, QS, QT, QU, QV, QW, QX, QY, QZ, Ja, Jb, Jc, Jd, Je, Jf, Jg, Jh, Ji, Jj, Jk, Jl, Jm, Jn, Jo, Jp, Jq, Jr, Js, Jt, Nat.reduceAdd]
    exact hk
theorem ways_sp {R b N i : Nat} {left : List Nat} {down : Bool} (hlf : 1000000 ≤ lf) (hL : L ≤ m.next) (hR : Rst R b N left down m) (hi : i < left.length) (h9 : left.length ≤ 9) (hk : ∀ m', Gt m m' → k (.int .i64 (triN left.length (if down = true then left.length - 1 - i else i) : Int)) m' = some ()) :
    runT (tab lf) (n + 2) 85 [.pointer (some ⟨R, 0, none⟩), .int .i64 (i : Int)] L m k = some () := by
  rw [r85]; dsimp only [S85, iofNat, inegSucc]
  have han : ∀ a : Addr, anil (.pointer (some a)) = some (.pointer (some a)) := fun _ => rfl
  have c0 : rdo (m.rd R) 0 = some (.slice (some ⟨b, 0, none⟩) left.length N) := by rw [hR.qr]; rfl
  have c1 : rdo (m.rd R) (0 + 1) = some (.bool down) := by rw [hR.qr]; rfl
  have c1' : rdo (m.rd R) 1 = some (.bool down) := by rw [hR.qr]; rfl
  cases down with
  | true =>
    rw [if_pos rfl] at hk
    try simp (disch := first | omega | with_unfolding_all exact id rfl | with_unfolding_all exact Nat.le_of_ble_eq_true rfl | (simp only [Jd, Je, Jr, Js, Jt, Nat.reduceAdd, allOne, oneCell, Bool.and_self, Jc]; first | done | omega)) only [han, c0, c1, c1', ln_e, ↓Qa, ↓Qb, ↓Qc, Qd, Qe, Qf, Qg, Qh, Qi, Qj, Qk, Ql, Qm, Qn, Qo, Qp, Qq, Qr, Qs, Qt, Qu, Qv, Qw, Qx, Qy, ptrTo, Qz, QA, QB, QC, QD, QE, QF, QG, QH, QI, QJ, QK, QL, QM, QN, QO, QP, QQ, QR, QS, QT, QU, QV, QW, QX, QY, QZ, Ja, Jb, Jc, Jd, Je, Jf, Jg, Jh, Ji, Jj, Jk, Jl, Jm, Jn, Jo, Jp, Jq, Jr, Js, Jt, Nat.reduceAdd]
    rw [oInt_sub ⟨by omega, by omega⟩, oInt_sub ⟨by omega, by omega⟩, show (left.length : Int) - 1 - (i : Int) = ((left.length - 1 - i : Nat) : Int) by omega]
    try try simp (disch := first | omega | with_unfolding_all exact id rfl | with_unfolding_all exact Nat.le_of_ble_eq_true rfl | (simp only [Jd, Je, Jr, Js, Jt, Nat.reduceAdd, allOne, oneCell, Bool.and_self, Jc]; first | done | omega)) only [↓Qa, ↓Qb, ↓Qc, Qd, Qe, Qf, Qg, Qh, Qi, Qj, Qk, Ql, Qm, Qn, Qo, Qp, Qq, Qr, Qs, Qt, Qu, Qv, Qw, Qx, Qy, ptrTo, Qz, QA, QB, QC, QD, QE, QF, QG, QH, QI, QJ, QK, QL, QM, QN, QO, QP, QQ, QR, QS, QT, QU, QV, QW, QX, QY, QZ, Ja, Jb, Jc, Jd, Je, Jf, Jg, Jh, Ji, Jj, Jk, Jl, Jm, Jn, Jo, Jp, Jq, Jr, Js, Jt, Nat.reduceAdd]
    refine triangle_sp hlf hL fun m1 e1 => ?_
    rw [aix85 (by omega), oOpt_e, aix84 (by omega) (by omega), oOpt_e]
    exact hk m1 e1
  | false =>
    rw [if_neg (by simp)] at hk
    try simp (disch := first | omega | with_unfolding_all exact id rfl | with_unfolding_all exact Nat.le_of_ble_eq_true rfl | (simp only [Jd, Je, Jr, Js, Jt, Nat.reduceAdd, allOne, oneCell, Bool.and_self, Jc]; first | done | omega)) only [han, c0, c1, c1', ln_e, ↓Qa, ↓Qb, ↓Qc, Qd, Qe, Qf, Qg, Qh, Qi, Qj, Qk, Ql, Qm, Qn, Qo, Qp, Qq, Qr, Qs, Qt, Qu, Qv, Qw, Qx, Qy, ptrTo, Qz, QA, QB, QC, QD, QE, QF, QG, QH, QI, QJ, QK, QL, QM, QN, QO, QP, QQ, QR, QS, QT, QU, QV, QW, QX, QY, QZ, Ja, Jb, Jc, Jd, Je, Jf, Jg, Jh, Ji, Jj, Jk, Jl, Jm, Jn, Jo, Jp, Jq, Jr, Js, Jt, Nat.reduceAdd]
    refine triangle_sp hlf hL fun m1 e1 => ?_
    rw [aix85 (by omega), oOpt_e, aix84 (by omega) (by omega), oOpt_e]
    exact hk m1 e1
theorem take_sp {R b N i : Nat} {left : List Nat} {down : Bool} (hlf : 1000000 ≤ lf) (hLR : L ≤ R) (hLb : L ≤ b) (hN : N ≤ 9) (hR : Rst R b N left down m) (hi : i < left.length)
    (hk : ∀ m', GtX (fun c => c = R ∨ c = b) m m' → Rst R b N (left.eraseIdx i) (!down) m' → k (.int .i64 (left[i] : Int)) m' = some ()) :
    runT (tab lf) (n + 2) 86 [.pointer (some ⟨R, 0, none⟩), .int .i64 (i : Int)] L m k = some () := by
  rw [r86]; dsimp only [S86, iofNat, inegSucc]
  have han : ∀ a : Addr, anil (.pointer (some a)) = some (.pointer (some a)) := fun _ => rfl
  have c0 : rdo (m.rd R) 0 = some (.slice (some ⟨b, 0, none⟩) left.length N) := by rw [hR.qr]; rfl
  have hil := hR.il
  have hci : i < (ci left).length := by rw [ci_length]; exact hi
  have i1 := hil.ia hci
  have l1 := hil.ld hci
  rw [ci_getE left hi] at l1
  have hle := hR.le
  try simp (disch := first | omega | with_unfolding_all exact id rfl | with_unfolding_all exact Nat.le_of_ble_eq_true rfl | (simp only [Jd, Je, Jr, Js, Jt, Nat.reduceAdd, allOne, oneCell, Bool.and_self, Jc]; first | done | omega)) only [han, c0, i1, l1, ↓Qa, ↓Qb, ↓Qc, Qd, Qe, Qf, Qg, Qh, Qi, Qj, Qk, Ql, Qm, Qn, Qo, Qp, Qq, Qr, Qs, Qt, Qu, Qv, Qw, Qx, Qy, ptrTo, Qz, QA, QB, QC, QD, QE, QF, QG, QH, QI, QJ, QK, QL, QM, QN, QO, QP, QQ, QR, QS, QT, QU, QV, QW, QX, QY, QZ, Ja, Jb, Jc, Jd, Je, Jf, Jg, Jh, Ji, Jj, Jk, Jl, Jm, Jn, Jo, Jp, Jq, Jr, Js, Jt, Nat.reduceAdd]
  rw [oInt_add ⟨by omega, by omega⟩]
  obtain ⟨cs, h1, h2, h3⟩ := hR.qb
  have hRl := Mem.rd_lt hR.qr
  have hbl := Mem.rd_lt h1
  refine delete_sp hlf hLb h1 h2 (by omega) hle rfl h3 hi fun m' cs' k1 k2 k3 k4 k5 => ?_
  have qr1 : m'.rd R = some ⟨1, [.slice (some ⟨b, 0, none⟩) left.length N, .bool down], none⟩ := (k1 R hR.ne).trans hR.qr
  have hst : stw 1 L m' R 0 (Value.slice (some ⟨b, 0, none⟩) (left.length - 1) N).cells.toList (m'.rd R) = some (Go.undef, m'.put R (some ⟨1, [.slice (some ⟨b, 0, none⟩) (left.length - 1) N, .bool down], none⟩)) := by
    rw [qr1]; exact stw_e hLR rfl (by simp) rfl
  have hst' : stw 1 L m' R 0 [Value.slice (some ⟨b, 0, none⟩) (left.length - 1) N] (m'.rd R) = some (Go.undef, m'.put R (some ⟨1, [.slice (some ⟨b, 0, none⟩) (left.length - 1) N, .bool down], none⟩)) := hst
  try simp (disch := first | omega | with_unfolding_all exact id rfl | with_unfolding_all exact Nat.le_of_ble_eq_true rfl | (simp only [Jd, Je, Jr, Js, Jt, Nat.reduceAdd, allOne, oneCell, Bool.and_self, Jc]; first | done | omega)) only [han, hst, hst', ↓Qa, ↓Qb, ↓Qc, Qd, Qe, Qf, Qg, Qh, Qi, Qj, Qk, Ql, Qm, Qn, Qo, Qp, Qq, Qr, Qs, Qt, Qu, Qv, Qw, Qx, Qy, ptrTo, Qz, QA, QB, QC, QD, QE, QF, QG, QH, QI, QJ, QK, QL, QM, QN, QO, QP, QQ, QR, QS, QT, QU, QV, QW, QX, QY, QZ, Ja, Jb, Jc, Jd, Je, Jf, Jg, Jh, Ji, Jj, Jk, Jl, Jm, Jn, Jo, Jp, Jq, Jr, Js, Jt, Nat.reduceAdd]
  have q2 : (m'.put R (some ⟨1, [.slice (some ⟨b, 0, none⟩) (left.length - 1) N, .bool down], none⟩)).rd R = some ⟨1, [.slice (some ⟨b, 0, none⟩) (left.length - 1) N, .bool down], none⟩ := Mem.rd_put_eq _ _ (by omega)
  have q2b : (m'.put R (some ⟨1, [.slice (some ⟨b, 0, none⟩) (left.length - 1) N, .bool down], none⟩)).rd b = some ⟨1, cs', none⟩ := (Mem.rd_put _ _ _ _ hR.ne).trans k3
  have e2 : GtX (fun c => c = R ∨ c = b) m (m'.put R (some ⟨1, [.slice (some ⟨b, 0, none⟩) (left.length - 1) N, .bool down], none⟩)) := GtX.put ⟨by omega, fun c hc hx => k1 c fun h => hx (.inr h)⟩ (.inl rfl) _
  have n2 : (m'.put R (some ⟨1, [.slice (some ⟨b, 0, none⟩) (left.length - 1) N, .bool down], none⟩)).next = m'.next := rfl
  generalize m'.put R (some ⟨1, [.slice (some ⟨b, 0, none⟩) (left.length - 1) N, .bool down], none⟩) = m2 at q2 q2b e2 n2 ⊢
  have c12 : rdo (m2.rd R) (0 + 1) = some (.bool down) := by rw [q2]; rfl
  have c12' : rdo (m2.rd R) 1 = some (.bool down) := by rw [q2]; rfl
  have hst2 : stw 1 L m2 R (0 + 1) [Value.bool (!down)] (m2.rd R) = some (Go.undef, m2.put R (some ⟨1, [.slice (some ⟨b, 0, none⟩) (left.length - 1) N, .bool (!down)], none⟩)) := by
    rw [q2]; exact stw_e hLR rfl (by simp) rfl
  have hst2' : stw 1 L m2 R 1 [Value.bool (!down)] (m2.rd R) = some (Go.undef, m2.put R (some ⟨1, [.slice (some ⟨b, 0, none⟩) (left.length - 1) N, .bool (!down)], none⟩)) := hst2
  try simp (disch := first | omega | with_unfolding_all exact id rfl | with_unfolding_all exact Nat.le_of_ble_eq_true rfl | (simp only [Jd, Je, Jr, Js, Jt, Nat.reduceAdd, allOne, oneCell, Bool.and_self, Jc]; first | done | omega)) only [han, c12, c12', hst2, hst2', ↓Qa, ↓Qb, ↓Qc, Qd, Qe, Qf, Qg, Qh, Qi, Qj, Qk, Ql, Qm, Qn, Qo, Qp, Qq, Qr, Qs, Qt, Qu, Qv, Qw, Qx, Qy, ptrTo, Qz, QA, QB, QC, QD, QE, QF, QG, QH, QI, QJ, QK, QL, QM, QN, QO, QP, QQ, QR, QS, QT, QU, QV, QW, QX, QY, QZ, Ja, Jb, Jc, Jd, Je, Jf, Jg, Jh, Ji, Jj, Jk, Jl, Jm, Jn, Jo, Jp, Jq, Jr, Js, Jt, Nat.reduceAdd]
  have hel : (left.eraseIdx i).length = left.length - 1 := List.length_eraseIdx_of_lt hi
  refine hk _ (e2.put (.inl rfl) _) ⟨?_, ⟨cs', ?_, k4, by rw [hel]; exact k5⟩, hR.ne, by omega⟩
  · rw [hel]; exact Mem.rd_put_eq _ _ (by omega)
  · exact (Mem.rd_put _ _ _ _ hR.ne).trans q2b
end
end Go.Vit
