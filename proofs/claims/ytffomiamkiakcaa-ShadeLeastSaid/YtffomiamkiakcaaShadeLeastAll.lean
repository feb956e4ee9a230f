/- The law ShadeLeast: its walk. -/
import Derived.Test.YtffomiamkiakcaaW14
import Derived.Test.YtffomiamkiakcaaP7
set_option linter.unusedSimpArgs false
set_option linter.unusedVariables false
set_option maxRecDepth 20000
namespace Go.Vit
open Go Go.Proofs
attribute [local irreducible] runT loopS
theorem neqb (x : Int) : decide (x = x) = true := decide_eq_true rfl
theorem join_gt {F : List Value → Mem → Option Unit} {r : Bool} {m : Mem} {x : Option Value} {a b : Int} (hx : x = some (.int .i64 a)) :
    join F (fun j => oGT (.bool r) (oOpt x fun t => oInt .gtr .i64 t (.int .i64 b) fun t' => j [t'] m) (j [Go.undef] m)) = F [if r = true then .bool (decide (b < a)) else Go.undef] m := by
  subst hx
  rw [join_e, oOpt_e, oInt_gtr]
  cases r
  · rw [oGT_f]; rfl
  · rw [oGT_t]; rfl
theorem pick_if {r d : Bool} {K : Value → Option Unit} : oPick (.bool r) (if r = true then .bool d else Go.undef) (.bool false) K = K (.bool (r && d)) := by
  cases r
  · rfl
  · rfl
theorem join_if {F : List Value → Mem → Option Unit} {b : Bool} {m : Mem} {x y : Value} : join F (fun j => oIf (.bool b) (j [x] m) (j [y] m)) = F [if b = true then x else y] m := by
  cases b <;> rfl
theorem prS_why {l : List Int} {r : Bool} (h : chkS l = 0) (hN : 0 < (isortI l).length - reachN (isortI l) r) : prS l r (whyN (isortI l) r : Int) (leastV (isortI l) r) = 0 ∧ prS l r (whyN (isortI l) r : Int) (leastV (isortI l) r + 1) = 14 := by
  obtain ⟨w1, w2, w3⟩ := whyN_ok (isortI_sorted l) hN
  have hil := isortI_length l
  have hrn : reachN (isortI l) r = reachN l r := reachN_len _ _ _ hil
  have hmx : gapS (isortI l) (reachN (isortI l) r) (whyN (isortI l) r) ≤ leastV (isortI l) r := maxL_mem (List.mem_map.2 ⟨_, by simpa using w1, rfl⟩)
  rw [hrn] at w1 w2 hmx
  have hin : inI ((whyN (isortI l) r : Nat) : Int) 0 ((l.length : Int) - 1 - reachN l r) := ⟨by omega, by omega⟩
  unfold prS
  rw [if_pos h, if_pos h, if_pos hin, if_pos hin, Int.toNat_natCast]
  unfold gapS at w2 hmx
  exact ⟨if_neg (by omega), if_pos (by omega)⟩
section
variable {lf n L : Nat} {m : Mem} {k : Value → Mem → Option Unit}
theorem values_sp {v : Value} {l : List Int} (hv : IL m v l) (hk : ∀ m', Gt m m' → m'.rd m.next = some ⟨1, [v], none⟩ → k (.func (.func 89) #[] ⟨[.pointer (some ⟨m.next, 0, none⟩)]⟩) m' = some ()) : runT (tab lf) (n + 1) 50 [v] L m k = some () := by
  rw [r50]; dsimp only [S50, iofNat, inegSucc]
  obtain ⟨p, c, hvx⟩ := hv.ex
  have hab : abox m v = some (ptrTo m.next, m.push ⟨1, [v], none⟩) := by rw [hvx]; exact abox_e _ _
  rw [uc_e, un0_e, hab, oRes_e]
  exact hk _ (Mem.gt_push _ _) (Mem.rd_push _ _)
set_option maxHeartbeats 8000000 in
theorem leastL_sp {a0 : Nat} {gl : List Nat} {r : Bool} (hlf : 1000000 ≤ lf) (hL : L ≤ m.next) (hT : TabOk mTab m) (h0 : a0 < 256) (hlen : gl.length = 7) (hg : ∀ g ∈ gl, g < 256)
    (hk : ∀ m', Gt m m' → k (.bool true) m' = some ()) : runT (tab lf) (n + 60) 14 [trayV a0 gl, .bool r] L m k = some () := by
  rw [r14]; dsimp only [S14, iofNat, inegSucc]
  have hl8 : (Value.int .u8 (a0 : Int) :: gl.map (fun (g : Nat) => Value.int .u8 (g : Int))).length = 8 := by simp [hlen]
  have hrd := rdn_all (s := 1) hl8
  have cc : ∀ v : Value, ([v] : List Value)[0]? = some v := fun _ => rfl
  unfold trayV
  rw [uc_e, uc_e, un0_e, abox_e, oRes_e, abox_e, oRes_e]
  rw [cells_agg, cells_bool]
  have e1 := (Mem.gt_push m ⟨1, .int .u8 (a0 : Int) :: gl.map (fun (g : Nat) => .int .u8 (g : Int)), none⟩).trans (Mem.gt_push (m.push ⟨1, .int .u8 (a0 : Int) :: gl.map (fun (g : Nat) => .int .u8 (g : Int)), none⟩) ⟨1, [.bool r], none⟩)
  have qr : ((m.push ⟨1, .int .u8 (a0 : Int) :: gl.map (fun (g : Nat) => .int .u8 (g : Int)), none⟩).push ⟨1, [.bool r], none⟩).rd (m.next + 1) = some ⟨1, [.bool r], none⟩ := Mem.rd_push _ _
  have qt : ((m.push ⟨1, .int .u8 (a0 : Int) :: gl.map (fun (g : Nat) => .int .u8 (g : Int)), none⟩).push ⟨1, [.bool r], none⟩).rd m.next = some ⟨1, .int .u8 (a0 : Int) :: gl.map (fun (g : Nat) => .int .u8 (g : Int)), none⟩ := (Mem.rd_push_lt _ _ (by rw [Mem.push_next]; omega)).trans (Mem.rd_push _ _)
  have hpn : (m.push ⟨1, .int .u8 (a0 : Int) :: gl.map (fun (g : Nat) => .int .u8 (g : Int)), none⟩).next = m.next + 1 := rfl
  rw [hpn]
  generalize (m.push ⟨1, .int .u8 (a0 : Int) :: gl.map (fun (g : Nat) => .int .u8 (g : Int)), none⟩).push ⟨1, [.bool r], none⟩ = m1 at e1 qr qt ⊢
  have n1 := e1.next
  try simp (disch := first | omega | with_unfolding_all exact id rfl | with_unfolding_all exact Nat.le_of_ble_eq_true rfl | (simp only [Jd, Je, Jr, Js, Jt, Nat.reduceAdd, allOne, oneCell, Bool.and_self, Jc]; first | done | omega)) only [qt, hrd, ↓Qa, ↓Qb, Qd, Qe, Qf, Qg, Qh, Qi, Qj, Qk, Ql, Qm, Qn, Qo, Qp, Qq, Qr, Qs, Qt, Qu, Qv, Qw, Qx, Qy, ptrTo, Qz, QA, QB, QC, QD, QE, QF, QG, QH, QI, QJ, QK, QL, QM, QN, QO, QP, QQ, QR, QS, QT, QU, QV, QW, QX, QY, QZ, Ja, Jb, Jc, Jd, Je, Jf, Jg, Jh, Ji, Jj, Jk, Jl, Jm, Jn, Jo, Jp, Jq, Jr, Js, Jt, Nat.reduceAdd]
  refine made_sp (a0 := a0) (gl := gl) (most := 6) hlf (by omega) h0 hlen hg (by omega) (by omega) fun u m2 e2 hu => ?_
  have n2 := e2.next
  have e02 := e1.trans e2
  obtain ⟨l1, l6⟩ := madeT_len (a0 := a0) (most := 6) hlen (by omega) (by omega)
  have hc := madeT_ok (a0 := a0) (most := 6) hlen (by omega) (by omega)
  have hbd : ∀ z ∈ madeT a0 gl 6, 0 ≤ z ∧ z ≤ 60 := madeT_bd
  generalize madeT a0 gl 6 = l at hu l1 l6 hc hbd
  have qrl := Mem.rd_lt qr
  have qr2 := (e2.kept _ qrl).trans qr
  refine values_sp hu.il fun m3 e3 q3 => ?_
  have n3 := e3.next
  refine sorted_sp hlf (by omega) q3 (hu.il.mono e3) (by omega) fun us m4 e4 hus => ?_
  have n4 := e4.next
  have e24 := e3.trans e4
  have hu4 := hu.il.mono e24
  have hil := isortI_length l
  have hss := isortI_sorted l
  have hsp := isortI_perm l
  have hmem : ∀ y ∈ isortI l, 0 ≤ y ∧ y ≤ 60 := fun y hy => hbd y (hsp.mem_iff.1 hy)
  have hrn : reachN l r = reachN (isortI l) r := reachN_len _ _ _ hil.symm
  have hrb := reachN_bd l r
  have hq1 : l.length = 1 → reachN l r = 1 := fun h => by unfold reachN; rw [if_neg (by simp [h])]
  have hq2 : l.length ≤ 2 → reachN l r = 1 := fun h => by unfold reachN; rw [if_neg (by simp; omega)]
  have qr4 := (e24.kept _ (by omega)).trans qr2
  have hldr : ∀ m' : Mem, m'.rd (m.next + 1) = some ⟨1, [.bool r], none⟩ → ld1 m' (.pointer (some ⟨m.next + 1, 0, none⟩)) = some (.bool r) := fun m' h => by rw [ld1_u, h]; rfl
  have hptr : ptrTo (m.next + 1) = .pointer (some ⟨m.next + 1, 0, none⟩) := rfl
  try rw [hptr]
  first | rw [hldr m4 qr4, oOpt_e] | rw [show rdo (m4.rd (m.next + 1)) 0 = some (.bool r) by rw [qr4]; rfl, oOpt_e]
  rw [join_gt hu4.ln, uc_e, pick_if, join_if]
  have hreach : (if (r && decide ((2 : Int) < (l.length : Int))) = true then (.int .i64 2 : Value) else .int .i64 1) = .int .i64 (reachN l r : Int) := by
    unfold reachN
    by_cases h : 2 < l.length
    · rw [decide_eq_true h, decide_eq_true (show (2 : Int) < (l.length : Int) by omega)]
      cases r <;> rfl
    · rw [decide_eq_false h, decide_eq_false (show ¬ (2 : Int) < (l.length : Int) by omega)]
      cases r <;> rfl
  rw [hreach, uc_e]
  have hself4 : True := trivial
  generalize hq : reachN l r = q at hrb hq1 hq2 hrn ⊢
  refine loop_up (l.length - q) (fun i vs m' => m' = m4 ∧ ∃ ix st, vs = [.int .i64 st, .int .i64 ix, .int .i64 (i : Int)] ∧ WhyI (gapS (isortI l) q) i ix st) (by omega) ⟨rfl, -1, 0, rfl, .inl ⟨rfl, rfl, rfl⟩⟩ ?_
  rintro i vs m' hi ⟨rfl, ix, st, rfl, hw⟩ self hself
  rw [uc_e, uc_e, uc_e, oInt_add ⟨by omega, by omega⟩, show (i : Int) + (q : Int) = ((i + q : Nat) : Int) by omega]
  try rw [hu4.ln]
  try rw [oOpt_e]
  rw [oInt_lss]
  refine oIf_dec (fun h => ?_) (fun h => ?_)
  · have hi2 : i + q < (isortI l).length := by omega
    have hi1 : i < (isortI l).length := by omega
    have b1 := hmem _ (List.getElem_mem hi1)
    have b2 := hmem _ (List.getElem_mem hi2)
    have hgp : (isortI l)[i + q] - (isortI l)[i] = gapS (isortI l) q i := by
      unfold gapS
      rw [List.getD_eq_getElem?_getD, List.getElem?_eq_getElem hi2, List.getD_eq_getElem?_getD, List.getElem?_eq_getElem hi1]; rfl
    have hst := hw.step
    try rw [oInt_add ⟨by omega, by omega⟩, show (i : Int) + (q : Int) = ((i + q : Nat) : Int) by omega]
    rw [hus.il.ia hi2, oOpt_e, hus.il.ld hi2, oOpt_e, hus.il.ia hi1, oOpt_e, hus.il.ld hi1, oOpt_e, oInt_sub ⟨by omega, by omega⟩, hgp]
    by_cases hx : ix < 0
    · try simp (disch := first | omega | with_unfolding_all exact id rfl | with_unfolding_all exact Nat.le_of_ble_eq_true rfl | (simp only [Jd, Je, Jr, Js, Jt, Nat.reduceAdd, allOne, oneCell, Bool.and_self, Jc]; first | done | omega)) only [decide_eq_true hx, ↓Qa, ↓Qb, ↓Qc, Qd, Qe, Qf, Qg, Qh, Qi, Qj, Qk, Ql, Qm, Qn, Qo, Qp, Qq, Qr, Qs, Qt, Qu, Qv, Qw, Qx, Qy, ptrTo, Qz, QA, QB, QC, QD, QE, QF, QG, QH, QI, QJ, QK, QL, QM, QN, QO, QP, QQ, QR, QS, QT, QU, QV, QW, QX, QY, QZ, Ja, Jb, Jc, Jd, Je, Jf, Jg, Jh, Ji, Jj, Jk, Jl, Jm, Jn, Jo, Jp, Jq, Jr, Js, Jt, Nat.reduceAdd]
      rw [oInt_add ⟨by omega, by omega⟩]
      exact hself (by omega) _ _ ⟨rfl, _, _, rfl, hst.1 (.inl hx)⟩
    · try simp (disch := first | omega | with_unfolding_all exact id rfl | with_unfolding_all exact Nat.le_of_ble_eq_true rfl | (simp only [Jd, Je, Jr, Js, Jt, Nat.reduceAdd, allOne, oneCell, Bool.and_self, Jc]; first | done | omega)) only [decide_eq_false hx, ↓Qa, ↓Qb, ↓Qc, Qd, Qe, Qf, Qg, Qh, Qi, Qj, Qk, Ql, Qm, Qn, Qo, Qp, Qq, Qr, Qs, Qt, Qu, Qv, Qw, Qx, Qy, ptrTo, Qz, QA, QB, QC, QD, QE, QF, QG, QH, QI, QJ, QK, QL, QM, QN, QO, QP, QQ, QR, QS, QT, QU, QV, QW, QX, QY, QZ, Ja, Jb, Jc, Jd, Je, Jf, Jg, Jh, Ji, Jj, Jk, Jl, Jm, Jn, Jo, Jp, Jq, Jr, Js, Jt, Nat.reduceAdd]
      refine oIf_dec (fun h2 => ?_) (fun h2 => ?_)
      · rw [oInt_add ⟨by omega, by omega⟩]
        exact hself (by omega) _ _ ⟨rfl, _, _, rfl, hst.1 (.inr h2)⟩
      · rw [oInt_add ⟨by omega, by omega⟩]
        exact hself (by omega) _ _ ⟨rfl, _, _, rfl, hst.2 hx h2⟩
  · have hin : i = l.length - q := by omega
    subst hin
    clear hself
    have hw' : WhyI (gapS (isortI l) (reachN (isortI l) r)) ((isortI l).length - reachN (isortI l) r) ix st := by rw [← hrn, hil]; exact hw
    obtain ⟨w1, w2, w3⟩ := hw'.end hss
    -- the two cells
    have hst1 : stw 1 L (m'.push ⟨1, [.int .i64 0], none⟩) m'.next 0 [.int .i64 1000] (some ⟨1, [.int .i64 0], none⟩) = some (Go.undef, (m'.push ⟨1, [.int .i64 0], none⟩).put m'.next (some ⟨1, [.int .i64 1000], none⟩)) := stw_e (by omega) rfl (Nat.le_refl _) rfl
    rw [hst1, oRes_e]
    have e5 : Gt m' ((m'.push ⟨1, [.int .i64 0], none⟩).put m'.next (some ⟨1, [.int .i64 1000], none⟩)) := Mem.put_gt (Mem.gt_push _ _) _ (Nat.le_refl _)
    have q5 : ((m'.push ⟨1, [.int .i64 0], none⟩).put m'.next (some ⟨1, [.int .i64 1000], none⟩)).rd m'.next = some ⟨1, [.int .i64 1000], none⟩ := Mem.rd_put_eq _ _ (by rw [Mem.push_next]; omega)
    have n5 : ((m'.push ⟨1, [.int .i64 0], none⟩).put m'.next (some ⟨1, [.int .i64 1000], none⟩)).next = m'.next + 1 := rfl
    generalize (m'.push ⟨1, [.int .i64 0], none⟩).put m'.next (some ⟨1, [.int .i64 1000], none⟩) = m5 at e5 q5 n5 ⊢
    have e6 := Mem.gt_push m5 ⟨1, [.slice none 0 0], none⟩
    have q6 : (m5.push ⟨1, [.slice none 0 0], none⟩).rd m5.next = some ⟨1, [.slice none 0 0], none⟩ := Mem.rd_push _ _
    have n6 : (m5.push ⟨1, [.slice none 0 0], none⟩).next = m5.next + 1 := Mem.push_next _ _
    generalize m5.push ⟨1, [.slice none 0 0], none⟩ = m6 at e6 q6 n6 ⊢
    have e46 := e5.trans e6
    have hus6 := hus.il.mono e46
    have hub := hus.bid_lt
    have hubu := hu.bid_lt
    have hu6 := hu4.mono e46
    have qr6 := (e46.kept _ (by omega)).trans qr4
    rw [show n + 59 = (n + (54 - (isortI l).length)) + (isortI l).length + (3 + 2) by omega]
    refine all51_sp (X := fun c => c = m'.next ∨ c = m5.next) (J := lstJ r m'.next m5.next) hlf (by omega) hss (by omega) hmem (fun c hc => by rcases hc with rfl | rfl <;> omega) hus6 (fun c hc hx => by have := hub c hc; rcases hx with rfl | rfl <;> omega)
      (fun m0 e0 => lstEach hlf (by omega) (by omega) (by omega) ((e0.kept _ (by omega)).trans qr6) (by omega) (by omega) (by have := e0.next; omega) (by have := e0.next; omega) (by omega) (by omega) hmem) (fun d a b e h => h.mono e) ⟨1000, .slice none 0 0, (e6.kept _ (by omega)).trans q5, q6, .inl ⟨rfl, rfl, rfl⟩⟩ fun m7 e7 hJ => ?_
    rw [show (n + (54 - (isortI l).length)) + (isortI l).length + (3 + 2) = n + 59 by omega]
    obtain ⟨b, qq, hbq⟩ := allR_ne (isortI l)
    have hfb := first_best (cost := cM r) hss hbq
    rw [hbq] at hJ
    obtain ⟨c, v, g1, g2, g3⟩ := hJ
    rcases g3 with ⟨h, _⟩ | ⟨b', q', hbb, k2, k3, k4⟩
    · cases h
    · injection hbb with hb1 hb2
      subst hb1; subst hb2
      obtain ⟨hB, hcm⟩ := boxL_ok (r := r) hc
      have hR : firstL (cM r) b qq = boxL l r := hfb.uniq hsp hB
      rw [hR] at k2 k3
      rw [hcm] at k2
      subst k2
      subst w1
      have n7 := e7.next
      have qr7 := (e7.kept _ (by omega) (fun hx => by rcases hx with h | h <;> omega)).trans qr6
      have hu7 : IL m7 u l := hu6.keep fun c hc => e7.kept c (by have := hubu c hc; omega) fun hx => by have := hubu c hc; rcases hx with rfl | rfl <;> omega
      have hrr : ∀ M : Mem, Gt m7 M → rdo (M.rd (m.next + 1)) 0 = some (.bool r) := fun M e => by rw [(e.kept _ (by omega)).trans qr7]; rfl
      have hll : ∀ M : Mem, Gt m7 M → rdo (M.rd m'.next) 0 = some (.int .i64 (leastV (isortI l) r)) := fun M e => by rw [(e.kept _ (Mem.rd_lt g1)).trans g1]; rfl
      have hff : ∀ M : Mem, Gt m7 M → rdo (M.rd m5.next) 0 = some v := fun M e => by rw [(e.kept _ (Mem.rd_lt g2)).trans g2]; rfl
      rw [hrr m7 (Gt.refl _), oOpt_e]
      refine least_sp hlf (by omega) hu7 (by omega) fun m8 e8 => ?_
      have n8 := e8.next
      try simp (disch := first | omega | with_unfolding_all exact id rfl | with_unfolding_all exact Nat.le_of_ble_eq_true rfl | (simp only [Jd, Je, Jr, Js, Jt, Nat.reduceAdd, allOne, oneCell, Bool.and_self, Jc]; first | done | omega)) only [hrr m8 e8, ↓Qa, ↓Qb, Qd, Qe, Qf, Qg, Qh, Qi, Qj, Qk, Ql, Qm, Qn, Qo, Qp, Qq, Qr, Qs, Qt, Qu, Qv, Qw, Qx, Qy, ptrTo, Qz, QA, QB, QC, QD, QE, QF, QG, QH, QI, QJ, QK, QL, QM, QN, QO, QP, QQ, QR, QS, QT, QU, QV, QW, QX, QY, QZ, Ja, Jb, Jc, Jd, Je, Jf, Jg, Jh, Ji, Jj, Jk, Jl, Jm, Jn, Jo, Jp, Jq, Jr, Js, Jt, Nat.reduceAdd]
      refine box_sp hlf (by omega) (hu7.mono e8) (by omega) fun bx m9 e9 hbx _ => ?_
      have n9 := e9.next
      have e79 := e8.trans e9
      try simp (disch := first | omega | with_unfolding_all exact id rfl | with_unfolding_all exact Nat.le_of_ble_eq_true rfl | (simp only [Jd, Je, Jr, Js, Jt, Nat.reduceAdd, allOne, oneCell, Bool.and_self, Jc]; first | done | omega)) only [hrr m9 e79, ↓Qa, ↓Qb, Qd, Qe, Qf, Qg, Qh, Qi, Qj, Qk, Ql, Qm, Qn, Qo, Qp, Qq, Qr, Qs, Qt, Qu, Qv, Qw, Qx, Qy, ptrTo, Qz, QA, QB, QC, QD, QE, QF, QG, QH, QI, QJ, QK, QL, QM, QN, QO, QP, QQ, QR, QS, QT, QU, QV, QW, QX, QY, QZ, Ja, Jb, Jc, Jd, Je, Jf, Jg, Jh, Ji, Jj, Jk, Jl, Jm, Jn, Jo, Jp, Jq, Jr, Js, Jt, Nat.reduceAdd]
      refine why28_sp hlf (by omega) (hu7.mono e79) (by omega) fun m10 e10 => ?_
      have n10 := e10.next
      have e710 := e79.trans e10
      have hle : leX l r = leastV (isortI l) r := by unfold leX; rw [if_pos hc]
      have hbxe : boxX l r = boxL l r := by unfold boxX; rw [if_pos hc]
      rw [hbxe] at hbx
      rw [hle, hc]
      have E : Gt m m7 := ⟨by have := e02.next; omega, fun c hc => (e7.kept c (by have := e02.next; omega) (fun hx => by have := e02.next; rcases hx with h | h <;> omega)).trans (((e02.trans e24).trans e46).kept c hc)⟩
      have E10 := E.trans e710
      try simp (disch := first | omega | with_unfolding_all exact id rfl | with_unfolding_all exact Nat.le_of_ble_eq_true rfl | (simp only [Jd, Je, Jr, Js, Jt, Nat.reduceAdd, allOne, oneCell, Bool.and_self, Jc]; first | done | omega)) only [neqb, ↓Qa, ↓Qb, Qd, Qe, Qf, Qg, Qh, Qi, Qj, Qk, Ql, Qm, Qn, Qo, Qp, Qq, Qr, Qs, Qt, Qu, Qv, Qw, Qx, Qy, ptrTo, Qz, QA, QB, QC, QD, QE, QF, QG, QH, QI, QJ, QK, QL, QM, QN, QO, QP, QQ, QR, QS, QT, QU, QV, QW, QX, QY, QZ, Ja, Jb, Jc, Jd, Je, Jf, Jg, Jh, Ji, Jj, Jk, Jl, Jm, Jn, Jo, Jp, Jq, Jr, Js, Jt, Nat.reduceAdd]
      repeat (rw [join_e]; try simp (disch := first | omega | with_unfolding_all exact id rfl | with_unfolding_all exact Nat.le_of_ble_eq_true rfl | (simp only [Jd, Je, Jr, Js, Jt, Nat.reduceAdd, allOne, oneCell, Bool.and_self, Jc]; first | done | omega)) only [neqb, hll m10 e710, hff m10 e710, ↓Qa, ↓Qb, Qd, Qe, Qf, Qg, Qh, Qi, Qj, Qk, Ql, Qm, Qn, Qo, Qp, Qq, Qr, Qs, Qt, Qu, Qv, Qw, Qx, Qy, ptrTo, Qz, QA, QB, QC, QD, QE, QF, QG, QH, QI, QJ, QK, QL, QM, QN, QO, QP, QQ, QR, QS, QT, QU, QV, QW, QX, QY, QZ, Ja, Jb, Jc, Jd, Je, Jf, Jg, Jh, Ji, Jj, Jk, Jl, Jm, Jn, Jo, Jp, Jq, Jr, Js, Jt, Nat.reduceAdd])
      refine same_sp hlf (hbx.mono e10) (k3.mono e710) (by have := hB.1.length_eq; omega) ?_
      by_cases hl1 : l.length = 1
      · have hN : (isortI l).length - reachN (isortI l) r = 0 := by rw [hil, ← hrn, hq1 hl1]; omega
        have hix := w2 hN
        subst hix
        have hwE : whyE l = 12 := by unfold whyE; rw [if_pos hc, if_pos hl1]
        have hwX : whyX l r = 0 := by unfold whyX; rw [if_pos hc, if_pos hl1]
        try simp (disch := first | omega | with_unfolding_all exact id rfl | with_unfolding_all exact Nat.le_of_ble_eq_true rfl | (simp only [Jd, Je, Jr, Js, Jt, Nat.reduceAdd, allOne, oneCell, Bool.and_self, Jc]; first | done | omega)) only [neqb, hwE, hwX, decide_eq_true (show (-1 : Int) < 0 by omega), ↓Qa, ↓Qb, Qd, Qe, Qf, Qg, Qh, Qi, Qj, Qk, Ql, Qm, Qn, Qo, Qp, Qq, Qr, Qs, Qt, Qu, Qv, Qw, Qx, Qy, ptrTo, Qz, QA, QB, QC, QD, QE, QF, QG, QH, QI, QJ, QK, QL, QM, QN, QO, QP, QQ, QR, QS, QT, QU, QV, QW, QX, QY, QZ, Ja, Jb, Jc, Jd, Je, Jf, Jg, Jh, Ji, Jj, Jk, Jl, Jm, Jn, Jo, Jp, Jq, Jr, Js, Jt, Nat.reduceAdd]
        repeat (rw [join_e]; try simp (disch := first | omega | with_unfolding_all exact id rfl | with_unfolding_all exact Nat.le_of_ble_eq_true rfl | (simp only [Jd, Je, Jr, Js, Jt, Nat.reduceAdd, allOne, oneCell, Bool.and_self, Jc]; first | done | omega)) only [neqb, hwE, hwX, decide_eq_true (show (-1 : Int) < 0 by omega), ↓Qa, ↓Qb, Qd, Qe, Qf, Qg, Qh, Qi, Qj, Qk, Ql, Qm, Qn, Qo, Qp, Qq, Qr, Qs, Qt, Qu, Qv, Qw, Qx, Qy, ptrTo, Qz, QA, QB, QC, QD, QE, QF, QG, QH, QI, QJ, QK, QL, QM, QN, QO, QP, QQ, QR, QS, QT, QU, QV, QW, QX, QY, QZ, Ja, Jb, Jc, Jd, Je, Jf, Jg, Jh, Ji, Jj, Jk, Jl, Jm, Jn, Jo, Jp, Jq, Jr, Js, Jt, Nat.reduceAdd])
        rw [r15]
        exact SClosed_sp (cK := runT (tab lf) (n + 59)) (L := L) (hT.mono E10) (hk _ E10)
      · have hN : 0 < (isortI l).length - reachN (isortI l) r := by
          rw [hil, ← hrn]
          by_cases h2 : l.length ≤ 2
          · rw [hq2 h2]; omega
          · omega
        have hix := w3 hN
        subst hix
        have hwE : whyE l = 0 := by unfold whyE; rw [if_pos hc, if_neg hl1]
        have hwX : whyX l r = (whyN (isortI l) r : Int) := by unfold whyX; rw [if_pos hc, if_neg hl1]
        obtain ⟨p1, p2⟩ := prS_why hc hN
        have hbnd : leastV (isortI l) r ≤ 60 := by
          rw [← hcm]
          exact maxL_le.2 ⟨by omega, fun x hx => (stepX_bd (fun y hy => hbd y (hB.1.mem_iff.1 hy)) x hx).2⟩
        have hbn2 : 0 ≤ leastV (isortI l) r := maxL_nn _
        try simp (disch := first | omega | with_unfolding_all exact id rfl | with_unfolding_all exact Nat.le_of_ble_eq_true rfl | (simp only [Jd, Je, Jr, Js, Jt, Nat.reduceAdd, allOne, oneCell, Bool.and_self, Jc]; first | done | omega)) only [neqb, hwE, hwX, decide_eq_false (show ¬ ((whyN (isortI l) r : Nat) : Int) < 0 by omega), ↓Qa, ↓Qb, Qd, Qe, Qf, Qg, Qh, Qi, Qj, Qk, Ql, Qm, Qn, Qo, Qp, Qq, Qr, Qs, Qt, Qu, Qv, Qw, Qx, Qy, ptrTo, Qz, QA, QB, QC, QD, QE, QF, QG, QH, QI, QJ, QK, QL, QM, QN, QO, QP, QQ, QR, QS, QT, QU, QV, QW, QX, QY, QZ, Ja, Jb, Jc, Jd, Je, Jf, Jg, Jh, Ji, Jj, Jk, Jl, Jm, Jn, Jo, Jp, Jq, Jr, Js, Jt, Nat.reduceAdd]
        repeat (rw [join_e]; try simp (disch := first | omega | with_unfolding_all exact id rfl | with_unfolding_all exact Nat.le_of_ble_eq_true rfl | (simp only [Jd, Je, Jr, Js, Jt, Nat.reduceAdd, allOne, oneCell, Bool.and_self, Jc]; first | done | omega)) only [neqb, hwE, hwX, decide_eq_false (show ¬ ((whyN (isortI l) r : Nat) : Int) < 0 by omega), hrr m10 e710, ↓Qa, ↓Qb, Qd, Qe, Qf, Qg, Qh, Qi, Qj, Qk, Ql, Qm, Qn, Qo, Qp, Qq, Qr, Qs, Qt, Qu, Qv, Qw, Qx, Qy, ptrTo, Qz, QA, QB, QC, QD, QE, QF, QG, QH, QI, QJ, QK, QL, QM, QN, QO, QP, QQ, QR, QS, QT, QU, QV, QW, QX, QY, QZ, Ja, Jb, Jc, Jd, Je, Jf, Jg, Jh, Ji, Jj, Jk, Jl, Jm, Jn, Jo, Jp, Jq, Jr, Js, Jt, Nat.reduceAdd])
        refine proves_sp hlf (by omega) (hu7.mono e710) (by omega) fun m11 e11 => ?_
        have n11 := e11.next
        have e711 := e710.trans e11
        have E11 := E.trans e711
        rw [p1]
        try simp (disch := first | omega | with_unfolding_all exact id rfl | with_unfolding_all exact Nat.le_of_ble_eq_true rfl | (simp only [Jd, Je, Jr, Js, Jt, Nat.reduceAdd, allOne, oneCell, Bool.and_self, Jc]; first | done | omega)) only [neqb, ↓Qa, ↓Qb, Qd, Qe, Qf, Qg, Qh, Qi, Qj, Qk, Ql, Qm, Qn, Qo, Qp, Qq, Qr, Qs, Qt, Qu, Qv, Qw, Qx, Qy, ptrTo, Qz, QA, QB, QC, QD, QE, QF, QG, QH, QI, QJ, QK, QL, QM, QN, QO, QP, QQ, QR, QS, QT, QU, QV, QW, QX, QY, QZ, Ja, Jb, Jc, Jd, Je, Jf, Jg, Jh, Ji, Jj, Jk, Jl, Jm, Jn, Jo, Jp, Jq, Jr, Js, Jt, Nat.reduceAdd]
        repeat (rw [join_e]; try simp (disch := first | omega | with_unfolding_all exact id rfl | with_unfolding_all exact Nat.le_of_ble_eq_true rfl | (simp only [Jd, Je, Jr, Js, Jt, Nat.reduceAdd, allOne, oneCell, Bool.and_self, Jc]; first | done | omega)) only [neqb, hrr m11 e711, ↓Qa, ↓Qb, Qd, Qe, Qf, Qg, Qh, Qi, Qj, Qk, Ql, Qm, Qn, Qo, Qp, Qq, Qr, Qs, Qt, Qu, Qv, Qw, Qx, Qy, ptrTo, Qz, QA, QB, QC, QD, QE, QF, QG, QH, QI, QJ, QK, QL, QM, QN, QO, QP, QQ, QR, QS, QT, QU, QV, QW, QX, QY, QZ, Ja, Jb, Jc, Jd, Je, Jf, Jg, Jh, Ji, Jj, Jk, Jl, Jm, Jn, Jo, Jp, Jq, Jr, Js, Jt, Nat.reduceAdd])
        rw [oInt_add ⟨by omega, by omega⟩]
        refine proves_sp hlf (by omega) (hu7.mono e711) (by omega) fun m12 e12 => ?_
        have E12 := E11.trans e12
        rw [p2]
        try simp (disch := first | omega | with_unfolding_all exact id rfl | with_unfolding_all exact Nat.le_of_ble_eq_true rfl | (simp only [Jd, Je, Jr, Js, Jt, Nat.reduceAdd, allOne, oneCell, Bool.and_self, Jc]; first | done | omega)) only [neqb, ↓Qa, ↓Qb, Qd, Qe, Qf, Qg, Qh, Qi, Qj, Qk, Ql, Qm, Qn, Qo, Qp, Qq, Qr, Qs, Qt, Qu, Qv, Qw, Qx, Qy, ptrTo, Qz, QA, QB, QC, QD, QE, QF, QG, QH, QI, QJ, QK, QL, QM, QN, QO, QP, QQ, QR, QS, QT, QU, QV, QW, QX, QY, QZ, Ja, Jb, Jc, Jd, Je, Jf, Jg, Jh, Ji, Jj, Jk, Jl, Jm, Jn, Jo, Jp, Jq, Jr, Js, Jt, Nat.reduceAdd]
        repeat (rw [join_e]; try simp (disch := first | omega | with_unfolding_all exact id rfl | with_unfolding_all exact Nat.le_of_ble_eq_true rfl | (simp only [Jd, Je, Jr, Js, Jt, Nat.reduceAdd, allOne, oneCell, Bool.and_self, Jc]; first | done | omega)) only [neqb, ↓Qa, ↓Qb, Qd, Qe, Qf, Qg, Qh, Qi, Qj, Qk, Ql, Qm, Qn, Qo, Qp, Qq, Qr, Qs, Qt, Qu, Qv, Qw, Qx, Qy, ptrTo, Qz, QA, QB, QC, QD, QE, QF, QG, QH, QI, QJ, QK, QL, QM, QN, QO, QP, QQ, QR, QS, QT, QU, QV, QW, QX, QY, QZ, Ja, Jb, Jc, Jd, Je, Jf, Jg, Jh, Ji, Jj, Jk, Jl, Jm, Jn, Jo, Jp, Jq, Jr, Js, Jt, Nat.reduceAdd])
        rw [r15]
        exact SClosed_sp (cK := runT (tab lf) (n + 59)) (L := L) (hT.mono E12) (hk _ E12)
end
end Go.Vit
