/- The law TopHitting: its walk. -/
import Derived.Test.YtppallabmjdolaaGreatDoorH7
set_option linter.unusedSimpArgs false
set_option linter.unusedVariables false
set_option maxRecDepth 20000
namespace Go.Vit
open Go Go.Proofs
attribute [local irreducible] runT loopS
def u8n (l : List Nat) : List Value := l.map fun (g : Nat) => .int .u8 (g : Int)
theorem u8n_get {l : List Nat} {i : Nat} (h : i < l.length) : (u8n l)[i]? = some (.int .u8 (l[i] : Int)) := by
  unfold u8n
  rw [List.getElem?_map, List.getElem?_eq_getElem h]; rfl
theorem eights_of {ns : List (IntKind × Int)} (h : ns.map (·.1) = [.u8, .u8, .u8, .u8, .u8, .u8, .u8, .u8] ∧ ∀ p ∈ ns, p.1.has p.2) : ∃ gl : List Nat, Value.agg ⟨intsV ns⟩ = .agg ⟨u8n gl⟩ ∧ gl.length = 8 ∧ ∀ g ∈ gl, g < 256 := by
  obtain ⟨l, h1, h2, h3⟩ := u8s_of (n := 8) h.1 h.2
  exact ⟨l, by rw [h1]; rfl, h2, h3⟩
def hpA (fl ll : List Nat) (i : Nat) : Hp := (fl.getD i 0 % 6, min 5 (fl.getD i 0 % 6 + ll.getD i 0 % 4))
def hpsL (fl ll : List Nat) (c : Nat) : List Hp := (List.range c).map (hpA fl ll)
theorem hpsL_s (fl ll : List Nat) (c : Nat) : hpsL fl ll (c + 1) = hpsL fl ll c ++ [hpA fl ll c] := by
  unfold hpsL
  rw [List.range_succ, List.map_append]; rfl
theorem hpA_v (fl ll : List Nat) (i : Nat) : (hpA fl ll i).1 ≤ (hpA fl ll i).2 ∧ (hpA fl ll i).2 ≤ 5 := by
  unfold hpA
  have := Nat.mod_lt (fl.getD i 0) (show 0 < 6 by omega)
  show fl.getD i 0 % 6 ≤ min 5 _ ∧ min 5 _ ≤ 5
  omega
theorem hpsL_v (fl ll : List Nat) (c : Nat) : V6 (hpsL fl ll c) := fun h hh => by
  obtain ⟨i, _, rfl⟩ := List.mem_map.1 hh
  exact hpA_v fl ll i
theorem hpsL_len (fl ll : List Nat) (c : Nat) : (hpsL fl ll c).length = c := by unfold hpsL; rw [List.length_map, List.length_range]
theorem bu29 (a : Int) : bu Tryz.prog 29 [(0, .int .i64 a)] = some (.agg ⟨[.int .i64 a, .slice none 0 0]⟩) := by kernel_rfl
theorem bu49 (a : Int) : bu Tryz.prog 49 [(0, .int .i64 a)] = some (.agg ⟨[.int .i64 a, .int .i64 0]⟩) := by kernel_rfl
theorem bs47 (m : Mem) (a b : Int) : bs Tryz.prog m 47 1 [(0, .agg ⟨[.int .i64 a, .int .i64 b]⟩)] = some (slTo 1 m.next, m.push ⟨2, [.int .i64 a, .int .i64 b], none⟩) :=
  (show _ = anew m 2 [.int .i64 a, .int .i64 b] (slTo 1) by kernel_rfl).trans (anew_eq ..)
theorem shl3 (i : Nat) (hi : i < 62) : abin Tryz.prog .shl 3 (.int .i64 1) (.int .i64 (i : Int)) = some (.int .i64 ((2 ^ i : Nat) : Int)) := by
  show ashift .shl .i64 (Int.ofNat 1) (Int.ofNat i) = _
  unfold ashift
  rw [show ilt (Int.ofNat i) 0 = false by rw [ilt_e]; exact decide_eq_false (by rw [Int.ofNat_eq_natCast]; omega)]
  show mkI .i64 (fwrap .i64 (Int.ofNat (Nat.shiftLeft 1 (nmin i 64)))) = _
  have h1 : nmin i 64 = i := by unfold nmin; rw [Nat.ble_eq_true_of_le (by omega)]
  have h2 : Nat.shiftLeft 1 i = 2 ^ i := by rw [show Nat.shiftLeft 1 i = 1 * 2 ^ i from Nat.shiftLeft_eq 1 i, Nat.one_mul]
  have h3 : 2 ^ i < 2 ^ 63 := Nat.pow_lt_pow_right (by omega) (by omega)
  have h4 : (2 : Nat) ^ 63 = 9223372036854775808 := by decide
  rw [h1, h2]
  unfold fwrap
  rw [fits_nat (by omega), mkI_e]; rfl
theorem neB4 (x y : Bool) : abin Tryz.prog .neq 4 (.bool x) (.bool y) = some (.bool (x != y)) := by cases x <;> cases y <;> kernel_rfl
theorem nn_ci (l : List Nat) : nn (ci l) = l := by
  unfold nn ci
  rw [List.map_map]
  conv => rhs; rw [← List.map_id l]
  exact List.map_congr_left fun x _ => rfl
theorem chk6 {l : List Nat} (hl : l.length ≤ 64) (h : ∀ x ∈ l, x < 64) : chk 6 (ci l) = 0 := by
  unfold chk
  rw [if_pos (by omega), ci_length, if_neg (by omega), if_neg]
  rw [List.any_eq_true]
  rintro ⟨x, hx, hx2⟩
  obtain ⟨y, hy, rfl⟩ := List.mem_map.1 hx
  have := h y hy
  rw [Bool.not_eq_true', decide_eq_false_iff_not] at hx2
  apply hx2
  have h6 : (2 : Int) ^ (6 : Int).toNat - 1 = 63 := by decide
  rw [h6]; omega
section
variable {lf n L : Nat} {m : Mem} {k : Value → Mem → Option Unit}
theorem same13_sp {v u : Value} {a b : List Int} (hlf : 1000000 ≤ lf) (hv : IL m v a) (hu : IL m u b) (hl : a.length < 1000000) (hk : k (.bool (decide (a = b))) m = some ()) : runT (tabC lf) (n + 1) 13 [v, u] L m k = some () := by
  rw [r13]
  dsimp only [S13, iofNat, inegSucc]
  try simp (disch := first | omega | with_unfolding_all exact id rfl | with_unfolding_all exact Nat.le_of_ble_eq_true rfl | (simp only [Jd, Je, Jr, Js, Jt, Nat.reduceAdd, allOne, oneCell, Bool.and_self, Jc]; first | done | omega)) only [hv.ln, hu.ln, ↓Qa, ↓Qb, ↓Qc, Qd, Qe, Qf, Qg, Qh, Qi, Qj, Qk, Ql, Qm, Qn, Qo, Qp, Qq, Qr, Qs, Qt, Qu, Qv, Qw, Qx, Qy, ptrTo, Qz, QA, QB, QC, QD, QE, QF, QG, QH, QI, QJ, QK, QL, QM, QN, QO, QP, QQ, QR, QS, QT, QU, QV, QW, QX, QY, QZ, Ja, Jb, Jc, Jd, Je, Jf, Jg, Jh, Ji, Jj, Jk, Jl, Jm, Jn, Jo, Jp, Jq, Jr, Js, Jt, Nat.reduceAdd]
  refine oIf_ndec (fun h => ?_) (fun h => ?_)
  · have : ¬ a = b := fun e => h (by rw [e])
    simp only [this, ↓Qa, ↓Qb, ↓Qc, Qd, Qe, Qf, Qg, Qh, Qi, Qj, Qk, Ql, Qm, Qn, Qo, Qp, Qq, Qr, Qs, Qt, Qu, Qv, Qw, Qx, Qy, ptrTo, Qz, QA, QB, QC, QD, QE, QF, QG, QH, QI, QJ, QK, QL, QM, QN, QO, QP, QQ, QR, QS, QT, QU, QV, QW, QX, QY, QZ, Ja, Jb, Jc, Jd, Je, Jf, Jg, Jh, Ji, Jj, Jk, Jl, Jm, Jn, Jo, Jp, Jq, Jr, Js, Jt, Nat.reduceAdd] at hk; exact hk
  · refine loop_up a.length (fun i vs m' => vs = [.int .i64 (i : Int)] ∧ m' = m ∧ ∀ j, j < i → a[j]? = b[j]?) (by omega) ⟨rfl, rfl, fun j h => by omega⟩ ?_
    rintro i vs m' hi ⟨rfl, rfl, hI⟩ self hself
    try simp (disch := first | omega | with_unfolding_all exact id rfl | with_unfolding_all exact Nat.le_of_ble_eq_true rfl | (simp only [Jd, Je, Jr, Js, Jt, Nat.reduceAdd, allOne, oneCell, Bool.and_self, Jc]; first | done | omega)) only [↓Qa, ↓Qb, ↓Qc, Qd, Qe, Qf, Qg, Qh, Qi, Qj, Qk, Ql, Qm, Qn, Qo, Qp, Qq, Qr, Qs, Qt, Qu, Qv, Qw, Qx, Qy, ptrTo, Qz, QA, QB, QC, QD, QE, QF, QG, QH, QI, QJ, QK, QL, QM, QN, QO, QP, QQ, QR, QS, QT, QU, QV, QW, QX, QY, QZ, Ja, Jb, Jc, Jd, Je, Jf, Jg, Jh, Ji, Jj, Jk, Jl, Jm, Jn, Jo, Jp, Jq, Jr, Js, Jt, Nat.reduceAdd]
    refine oIf_dec (fun h1 => ?_) (fun h1 => ?_)
    · have h2 : i < a.length := by omega
      have h3 : i < b.length := by omega
      try simp (disch := first | omega | with_unfolding_all exact id rfl | with_unfolding_all exact Nat.le_of_ble_eq_true rfl | (simp only [Jd, Je, Jr, Js, Jt, Nat.reduceAdd, allOne, oneCell, Bool.and_self, Jc]; first | done | omega)) only [hv.ia h2, hv.ld h2, hu.ia h3, hu.ld h3, ↓Qa, ↓Qb, ↓Qc, Qd, Qe, Qf, Qg, Qh, Qi, Qj, Qk, Ql, Qm, Qn, Qo, Qp, Qq, Qr, Qs, Qt, Qu, Qv, Qw, Qx, Qy, ptrTo, Qz, QA, QB, QC, QD, QE, QF, QG, QH, QI, QJ, QK, QL, QM, QN, QO, QP, QQ, QR, QS, QT, QU, QV, QW, QX, QY, QZ, Ja, Jb, Jc, Jd, Je, Jf, Jg, Jh, Ji, Jj, Jk, Jl, Jm, Jn, Jo, Jp, Jq, Jr, Js, Jt, Nat.reduceAdd]
      refine oIf_ndec (fun h4 => ?_) (fun h4 => ?_)
      · have : ¬ a = b := fun e => h4 (by subst e; rfl)
        simp only [this, ↓Qa, ↓Qb, ↓Qc, Qd, Qe, Qf, Qg, Qh, Qi, Qj, Qk, Ql, Qm, Qn, Qo, Qp, Qq, Qr, Qs, Qt, Qu, Qv, Qw, Qx, Qy, ptrTo, Qz, QA, QB, QC, QD, QE, QF, QG, QH, QI, QJ, QK, QL, QM, QN, QO, QP, QQ, QR, QS, QT, QU, QV, QW, QX, QY, QZ, Ja, Jb, Jc, Jd, Je, Jf, Jg, Jh, Ji, Jj, Jk, Jl, Jm, Jn, Jo, Jp, Jq, Jr, Js, Jt, Nat.reduceAdd] at hk; exact hk
      · rw [oInt_add ⟨by omega, by omega⟩]
        refine hself h2 _ _ ⟨rfl, rfl, fun j hj => ?_⟩
        by_cases hji : j = i
        · subst hji; simp [h2, h3, h4]
        · exact hI j (by omega)
    · have : a = b := by
        refine List.ext_getElem? fun j => ?_
        by_cases hj : j < a.length
        · exact hI j (by omega)
        · rw [List.getElem?_eq_none (by omega), List.getElem?_eq_none (by omega)]
      simp only [this, ↓Qa, ↓Qb, ↓Qc, Qd, Qe, Qf, Qg, Qh, Qi, Qj, Qk, Ql, Qm, Qn, Qo, Qp, Qq, Qr, Qs, Qt, Qu, Qv, Qw, Qx, Qy, ptrTo, Qz, QA, QB, QC, QD, QE, QF, QG, QH, QI, QJ, QK, QL, QM, QN, QO, QP, QQ, QR, QS, QT, QU, QV, QW, QX, QY, QZ, Ja, Jb, Jc, Jd, Je, Jf, Jg, Jh, Ji, Jj, Jk, Jl, Jm, Jn, Jo, Jp, Jq, Jr, Js, Jt, Nat.reduceAdd] at hk; exact hk
set_option maxHeartbeats 4000000 in
theorem hittingL_sp {fl ll : List Nat} {a : Nat} (hlf : 1000000 ≤ lf) (hL : L ≤ m.next) (hT : TabOk mTab m) (hfl : fl.length = 8) (hll : ll.length = 8) (hf8 : ∀ g ∈ fl, g < 256) (hl8 : ∀ g ∈ ll, g < 256) (ha : a < 256)
    (hk : ∀ m', Gt m m' → k (.bool true) m' = some ()) : runT (tabC lf) (n + 30) 4 [.agg ⟨u8n fl⟩, .agg ⟨u8n ll⟩, .int .u8 (a : Int)] L m k = some () := by
  rw [r4]; dsimp only [S4p, iofNat, inegSucc]
  rw [uc_e, uc_e, uc_e, un0_e, abox_e, oRes_e]
  have e1 := Mem.gt_push m ⟨1, (Value.agg ⟨u8n fl⟩).cells.toList, none⟩
  have q1 : (m.push ⟨1, (Value.agg ⟨u8n fl⟩).cells.toList, none⟩).rd m.next = some ⟨1, u8n fl, none⟩ := Mem.rd_push _ _
  have n1 : (m.push ⟨1, (Value.agg ⟨u8n fl⟩).cells.toList, none⟩).next = m.next + 1 := Mem.push_next _ _
  generalize m.push ⟨1, (Value.agg ⟨u8n fl⟩).cells.toList, none⟩ = m1 at e1 q1 n1 ⊢
  rw [abox_e, oRes_e]
  have e2 := Mem.gt_push m1 ⟨1, (Value.agg ⟨u8n ll⟩).cells.toList, none⟩
  have q2 : (m1.push ⟨1, (Value.agg ⟨u8n ll⟩).cells.toList, none⟩).rd m1.next = some ⟨1, u8n ll, none⟩ := Mem.rd_push _ _
  have n2 : (m1.push ⟨1, (Value.agg ⟨u8n ll⟩).cells.toList, none⟩).next = m1.next + 1 := Mem.push_next _ _
  generalize m1.push ⟨1, (Value.agg ⟨u8n ll⟩).cells.toList, none⟩ = m2 at e2 q2 n2 ⊢
  rw [bu29, oOpt_e]
  refine mk2 (by omega) rfl fun m3 e3 q3 n3 => ?_
  have q1 := (e3.kept _ (by omega)).trans ((e2.kept _ (by omega)).trans q1)
  have q2 := (e3.kept _ (by omega)).trans q2
  have E3 := (e1.trans e2).trans e3
  have hc9 := Nat.mod_lt a (show 0 < 9 by omega)
  have r9 : ∀ K : Value → Option Unit, oInt .rem .i64 (.int .i64 (a : Int)) (.int .i64 9) K = K (.int .i64 ((a % 9 : Nat) : Int)) := fun K => oInt_remN (b := 9) (by omega) K
  rw [oCv_nat (by omega), r9]
  obtain ⟨c, hc⟩ : ∃ c, c = a % 9 := ⟨_, rfl⟩
  rw [← hc] at hc9 ⊢
  refine loop_up c (fun i vs m' => ∃ u lv, vs = [u, .int .i64 (i : Int)] ∧ GtX (· = m2.next) m3 m' ∧ m'.rd m2.next = some ⟨1, [.int .i64 6, lv], none⟩ ∧ PG m3.next m' u (hpsL fl ll i) ∧ GN m3.next m' lv ((hpsL fl ll i).map lockH) ∧ ∀ c, bid u = some c → bid lv ≠ some c) (by omega)
    ⟨_, _, rfl, GtX.refl _, q3, PG.nil _ _, GN.nil _ _, fun c hc => by cases hc⟩ ?_
  rintro i vs m4 hi ⟨u, lv, rfl, e4, q4, hu, hlv, hdis⟩ self hself
  have n4 := e4.next
  have q14 := (e4.kept m.next (by omega) (by omega)).trans q1
  have q24 := (e4.kept m1.next (by omega) (by omega)).trans q2
  rw [uc_e, uc_e, oInt_lss]
  refine oIf_dec (fun hc1 => ?_) (fun hc1 => ?_)
  · have hic : i < c := by omega
    have hif : i < fl.length := by omega
    have hil : i < ll.length := by omega
    have hfi := hf8 _ (List.getElem_mem hif)
    have hli := hl8 _ (List.getElem_mem hil)
    have ld8 : ∀ (M : Mem) (b : Nat) (l : List Nat), M.rd b = some ⟨1, u8n l, none⟩ → (h : i < l.length) → ld1 M (.pointer (some ⟨b, i, none⟩)) = some (.int .u8 (l[i] : Int)) := fun M b l hr h => by rw [ld1_u, hr, rdo_e, u8n_get h]
    have ia8 : ∀ b, iaA 8 1 (ptrTo b) (.int .i64 (i : Int)) = some (.pointer (some ⟨b, i, none⟩)) := fun b => by
      have := iaA_k (b := b) (n := 8) (o := 0) (i := i) (by omega)
      rwa [Nat.zero_add] at this
    have r6 : ∀ K : Value → Option Unit, oInt .rem .i64 (.int .i64 (fl[i] : Int)) (.int .i64 6) K = K (.int .i64 ((fl[i] % 6 : Nat) : Int)) := fun K => oInt_remN (b := 6) (by omega) K
    have r4' : ∀ K : Value → Option Unit, oInt .rem .i64 (.int .i64 (ll[i] : Int)) (.int .i64 4) K = K (.int .i64 ((ll[i] % 4 : Nat) : Int)) := fun K => oInt_remN (b := 4) (by omega) K
    have hm6 := Nat.mod_lt fl[i] (show 0 < 6 by omega)
    have hm4 := Nat.mod_lt ll[i] (show 0 < 4 by omega)
    have hha : hpA fl ll i = (fl[i] % 6, min 5 (fl[i] % 6 + ll[i] % 4)) := by
      unfold hpA
      rw [List.getD_eq_getElem?_getD, List.getD_eq_getElem?_getD, List.getElem?_eq_getElem hif, List.getElem?_eq_getElem hil]; rfl
    have hhv := hpA_v fl ll i
    rw [hpsL_s, List.map_append, List.map_cons, List.map_nil] at hself
    have hln := hpsL_len fl ll i
    obtain ⟨F, hF⟩ : ∃ F, F = fl[i] % 6 := ⟨_, rfl⟩
    obtain ⟨T, hTt⟩ : ∃ T, T = min 5 (fl[i] % 6 + ll[i] % 4) := ⟨_, rfl⟩
    rw [← hTt, ← hF] at hha
    rw [hha] at hself hhv
    have hFT : F ≤ T ∧ T ≤ 5 := hhv
    rw [ia8, oOpt_e, ld8 m4 _ _ q14 hif, oOpt_e, oCv_nat (by omega), r6, ← hF, bu49, oOpt_e]
    refine mk2 (by omega) rfl fun m5 e5 q5 n5 => ?_
    have q25 := (e5.kept _ (by omega)).trans q24
    rw [fa0, oOpt_e, ld2a q5, oOpt_e, ia8, oOpt_e, ld8 m5 _ _ q25 hil, oOpt_e, oCv_nat (by omega), r4', oInt_add ⟨by omega, by omega⟩, show (F : Int) + ((ll[i] % 4 : Nat) : Int) = ((F + ll[i] % 4 : Nat) : Int) by omega, show (Value.int .i64 5) = .int .i64 ((5 : Nat) : Int) from rfl, minI_k, oOpt_e, show min 5 (F + ll[i] % 4) = T by omega, fa1, oOpt_e, st2b q5 (by omega) rfl rfl, oRes_e]
    have e6 : Gt m4 (m5.put m4.next (some ⟨1, [.int .i64 (F : Int), .int .i64 (T : Int)], none⟩)) := Mem.put_gt e5 _ (Nat.le_refl _)
    have q6 : (m5.put m4.next (some ⟨1, [.int .i64 (F : Int), .int .i64 (T : Int)], none⟩)).rd m4.next = some ⟨1, [.int .i64 (F : Int), .int .i64 (T : Int)], none⟩ := Mem.rd_put_eq _ _ (by omega)
    have n6 : (m5.put m4.next (some ⟨1, [.int .i64 (F : Int), .int .i64 (T : Int)], none⟩)).next = m4.next + 1 := n5
    generalize m5.put m4.next (some ⟨1, [.int .i64 (F : Int), .int .i64 (T : Int)], none⟩) = m6 at e6 q6 n6 ⊢
    rw [ldN2 q6, oOpt_e, bs47, oRes_e]
    have ec : Gt ⟨m6.tr, m3.next⟩ m6 := Mem.cut_gt (by omega)
    obtain ⟨u7, m7, g1, g2, g3, g4, g5⟩ := PG.snoc (P := Tryz.prog) (L := L) (L0 := m3.next) (m0 := ⟨m6.tr, m3.next⟩) (F, T) ael47 (by omega) (hu.mono e6) (by omega) (by omega) ec (Nat.le_refl _)
    have g1 : aappend Tryz.prog L (m6.push ⟨2, [.int .i64 (F : Int), .int .i64 (T : Int)], none⟩) 47 u (slTo 1 m6.next) = some (u7, m7) := g1
    have hub : ∀ c, bid u = some c → m3.next ≤ c ∧ c < m4.next := fun c hc => hu.bid_lt c hc
    have q7 : m7.rd m4.next = some ⟨1, [.int .i64 (F : Int), .int .i64 (T : Int)], none⟩ := (g5 _ (by omega) fun hb => by have := hub _ hb; omega).trans q6
    rw [g1, oRes_e, oOpt_e, ld2a q7, oOpt_e]
    refine loop_up (T + 1 - F) (fun j vs m' => vs = [.int .i64 (lockN F j : Int), .int .i64 ((F + j : Nat) : Int)] ∧ m' = m7) (by omega) ⟨rfl, rfl⟩ ?_
    rintro j vs m' hj ⟨rfl, rfl⟩ self2 hself2
    have hlk : lockN F j < 64 := by
      refine Nat.lt_pow_two_of_testBit (n := 6) _ fun i hi => ?_
      rw [lockN_bit]
      exact decide_eq_false (by omega)
    rw [uc_e, uc_e, fa1, oOpt_e, ld2b q7, oOpt_e, oInt_leq]
    refine oIf_dec (fun hc2 => ?_) (fun hc2 => ?_)
    · have hp6 : 2 ^ (F + j) < 64 := Nat.pow_lt_pow_right (n := 6) (by omega) (by omega)
      rw [shl3 _ (by omega), oOpt_e, oInt_or (by omega) (by omega), oInt_add ⟨by omega, by omega⟩]
      exact hself2 (by omega) _ _ ⟨rfl, rfl⟩
    · have hje : j = T + 1 - F := by omega
      clear hself2
      subst hje
      have q47 : m'.rd m2.next = some ⟨1, [.int .i64 6, lv], none⟩ := (g5 _ (by omega) fun hb => by have := hub _ hb; omega).trans ((e6.kept _ (by omega)).trans q4)
      have hlv6 := hlv.mono e6
      have hlb : ∀ c, bid lv = some c → m3.next ≤ c ∧ c < m4.next := fun c hc => Gs.bid_lt hlv c hc
      have hlv7 : GN m3.next m' lv ((hpsL fl ll i).map lockH) := GL.keep hlv6 fun c hc hcm => g5 c (by have := hlb c hc; omega) fun hb => hdis c hb hc
      have ec7 : Gt ⟨m'.tr, m3.next⟩ m' := Mem.cut_gt (by omega)
      obtain ⟨z, m8, h1, h2, h3, h4, h5⟩ := GL.snocV (P := Tryz.prog) (L := L) (L0 := m3.next) (m0 := ⟨m'.tr, m3.next⟩) ((lockN F (T + 1 - F) : Nat) : Int) ael22 (by omega) hlv7 (by rw [ci_length, List.length_map]; omega) (by omega) ec7 (Nat.le_refl _)
      have hz : ci ((hpsL fl ll i).map lockH) ++ [((lockN F (T + 1 - F) : Nat) : Int)] = ci ((hpsL fl ll i).map lockH ++ [lockH (F, T)]) := by unfold ci lockH; simp
      rw [hz] at h2
      have h2 : GN m'.next m8 z ((hpsL fl ll i).map lockH ++ [lockH (F, T)]) := h2
      have q48 : m8.rd m2.next = some ⟨1, [.int .i64 6, lv], none⟩ := (h5 _ (by omega) fun hb => by have := hlb _ hb; omega).trans q47
      obtain ⟨zp, zc, hzs⟩ := h2.ex
      rw [oOpt_e, ld2b q47, oOpt_e, bs22, oRes_e, h1, oRes_e, oOpt_e, st2b q48 (by omega) (by rw [hzs]; rfl) (by rw [hzs]; rfl), oRes_e, oInt_add ⟨by omega, by omega⟩]
      have hu7b : ∀ c, bid u7 = some c → m6.next ≤ c ∧ c < m'.next := fun c hc => g2.bid_lt c hc
      refine hself hic _ _ ⟨u7, z, rfl, ⟨by show m3.next ≤ m8.next; omega, fun c hc hn => ?_⟩, Mem.rd_put_eq _ _ (Mem.rd_lt q48), ?_, ?_, fun c hc => fun hb => by have := hu7b c hc; have := h2.fr c hb; omega⟩
      · rw [Mem.rd_put _ _ _ _ (Ne.symm hn), h5 c (by omega) fun hb => (by have := hlb c hb; omega), g5 c (by omega) fun hb => (by have := hub c hb; omega), e6.kept c (by omega)]
        exact e4.kept c hc hn
      · refine (g2.keep fun c hc hcm => ?_).le (by omega)
        rw [Mem.rd_put _ _ _ _ (by omega)]
        exact h5 c (by have := hu7b c hc; omega) fun hb => by have := hlb c hb; have := hu7b c hc; omega
      · exact (GL.keep h2 fun c hc hcm => Mem.rd_put _ _ _ _ (by omega)).le (by omega)
  · have hic : i = c := by omega
    clear hself
    subst hic
    have hv6 := hpsL_v fl ll i
    have hlen := hpsL_len fl ll i
    obtain ⟨l, hl⟩ : ∃ l, l = hpsL fl ll i := ⟨_, rfl⟩
    rw [← hl] at hu hlv hv6 hlen
    have hl10 : l.length ≤ 10 := by omega
    have hl1k : l.length < 1000 := by omega
    have hr : ∀ h ∈ l, h.1 ≤ h.2 ∧ h.2 ≤ 23 := fun h hh => ⟨(hv6 h hh).1, by have := (hv6 h hh).2; omega⟩
    have hk6 : chk 6 (ci (l.map lockH)) = 0 := chk6 (by rw [List.length_map]; omega) (fun x hx => by obtain ⟨h, hh, rfl⟩ := List.mem_map.1 hx; exact lockH_lt (hv6 h hh))
    have hLn : L ≤ m4.next := by omega
    have E4 : Gt m m4 := GtX.gt E3 e4 fun c hc => by subst hc; omega
    have hls : IL m4 lv (ci (l.map lockH)) := hlv.inn
    have hsm : smallX 6 (ci (l.map lockH)) = hitl (l.map lockH) := by unfold smallX; rw [if_pos hk6, nn_ci]
    refine loop_up 64 (fun g vs m' => vs = [.int .i64 (g : Int)] ∧ Gt m4 m') (by omega) ⟨rfl, Gt.refl _⟩ ?_
    rintro g vs m5 hg ⟨rfl, e5⟩ self hself
    have q5 := (e5.kept m2.next (Mem.rd_lt q4)).trans q4
    have n5 := e5.next
    rw [uc_e, oInt_lss]
    refine oIf_dec (fun hc2 => ?_) (fun hc2 => ?_)
    · have hg : g < 64 := by omega
      have hE : errG 6 (ci (l.map lockH)) g = 0 := by
        unfold errG
        rw [if_pos hk6, if_pos]
        have h6 : (2 : Int) ^ (6 : Int).toNat - 1 = 63 := by decide
        refine ⟨by omega, ?_⟩
        rw [h6]; omega
      have hO : openX 6 (ci (l.map lockH)) g = hitB (memL g) l := by
        unfold openX
        rw [if_pos hE, nn_ci, Int.toNat_natCast, openB_hits, hits_hit hv6]
      rw [ldN2 q5, oOpt_e]
      refine opens1_sp hlf (by omega) (hls.mono e5) fun m6 e6 => ?_
      have n6 := e6.next
      rw [hE, hO]
      simp only [aextract_e, List.getElem?_cons_zero, List.getElem?_cons_succ, oOpt_e]
      refine members_sp hlf (by omega) hg fun u7 m7 e7 hu7 => ?_
      have n7 := e7.next
      refine meets_sp hlf (by omega) (PG.pl (hu.mono ((e5.trans e6).trans e7))) hu7.inn hl10 hr (memL_asc g) (fun x hx => by have := (mem_memL.1 hx).1; omega) (by have := memTo_len g 6; show (memTo g 6).length < 1000; omega) fun m8 e8 => ?_
      have hadd : oInt .add .i64 (.int .i64 (g : Int)) (.int .i64 (.ofNat 1)) (fun t113 => self [t113] m8) = some () := by
        rw [show (Value.int .i64 (.ofNat 1)) = .int .i64 1 from rfl, oInt_add ⟨by omega, by omega⟩]
        exact hself hg _ _ ⟨rfl, ((e5.trans e6).trans e7).trans e8⟩
      have z0 : (!decide ((0 : Int) = 0)) = false := rfl
      have z1 : (!decide ((14 : Int) = 14)) = false := rfl
      have z2 : decide ((0 : Int) = 0) = true := rfl
      have z3 : decide ((14 : Int) = 0) = false := rfl
      cases hB : hitB (memL g) l
      · rw [if_neg (by decide)]
        rw [oInt_neq, z0]; (try dsimp only); rw [join_e, oGF_f, oInt_eql, z3, neB4, oOpt_e]; (try dsimp only); rw [uc_e, oPick_f]; (try dsimp only); rw [join_e, show (false != false) = false from rfl, oGF_f, aun_not, oOpt_e]; (try dsimp only); rw [uc_e]; (try dsimp only); rw [join_e, Bool.not_false, oGT_t, oInt_neq, z1]; (try dsimp only); rw [uc_e]; (try dsimp only); rw [join_e, oGF_f, oPick_t]; (try dsimp only); rw [uc_e, oPick_f, oIf_f]
        exact hadd
      · rw [if_pos rfl]
        rw [oInt_neq, z0]; (try dsimp only); rw [join_e, oGF_f, oInt_eql, z2, neB4, oOpt_e]; (try dsimp only); rw [uc_e, oPick_f]; (try dsimp only); rw [join_e, show (true != true) = false from rfl, oGF_f, aun_not, oOpt_e]; (try dsimp only); rw [uc_e]; (try dsimp only); rw [join_e, Bool.not_true, oGT_f]; (try dsimp only); rw [uc_e]; (try dsimp only); rw [join_e, oGF_f, oPick_f]; (try dsimp only); rw [uc_e, oPick_f, oIf_f]
        exact hadd
    · rw [ldN2 q5, oOpt_e]
      refine small1_sp hlf (by omega) (hls.mono e5) fun u6 m6 e6 hu6 => ?_
      rw [hk6]
      rw [hsm] at hu6
      have n6 := e6.next
      simp only [aextract_e, List.getElem?_cons_zero, List.getElem?_cons_succ, oOpt_e]
      refine hours_sp hlf (by omega) (PG.pl (hu.mono (e5.trans e6))) hl10 hr fun u7 m7 e7 hu7 => ?_
      have n7 := e7.next
      simp only [aextract_e, List.getElem?_cons_zero, List.getElem?_cons_succ, oOpt_e]
      refine apart_sp hlf (by omega) (hu.mono ((e5.trans e6).trans e7)) hl10 hr fun u8 m8 pre e8 hu8 hpre => ?_
      have n8 := e8.next
      simp only [aextract_e, List.getElem?_cons_zero, List.getElem?_cons_succ, oOpt_e]
      obtain ⟨hh1, hh2, hh3, hh4, hh5⟩ := hrs_ok hv6
      have hu7 : IN m7 u7 (hrs l) := hu7.inn
      have hu8 : IN m8 u8 pre := hu8.inn
      have hHm := hrs_mem hv6
      obtain ⟨H, hH⟩ : ∃ H, H = hitl (l.map lockH) := ⟨_, rfl⟩
      rw [← hH] at hu6 hHm
      have hH64 : H.length ≤ 64 := by rw [hH]; exact minl_len _
      have hH0 : ¬ (H.length : Int) = 0 := by have := List.length_pos_of_mem hHm; omega
      have z0 : (!decide ((0 : Int) = 0)) = false := rfl
      have z4 : decide ((H.length : Int) = 0) = false := decide_eq_false hH0
      have z5 : (!decide (((hrs l).length : Int) = (pre.length : Int))) = false := by rw [hh2, hpre]; simp
      rw [oInt_neq, z0]; (try dsimp only); rw [join_e, oGF_f, oInt_neq, z0]; (try dsimp only); rw [uc_e, oPick_f]; (try dsimp only); rw [join_e, oGF_f, oInt_neq, z0]; (try dsimp only); rw [uc_e, oPick_f]; (try dsimp only); rw [join_e, oGF_f, hu6.ln, oOpt_e, oInt_eql, z4]; (try dsimp only); rw [uc_e, oPick_f]; (try dsimp only); rw [join_e, oGF_f, hu7.ln, oOpt_e, hu8.ln, oOpt_e, oInt_neq, z5]; (try dsimp only); rw [uc_e, oPick_f, oIf_f, oOpt_e]
      refine loop_up H.length (fun j vs m' => ∃ bv found b, vs = [bv, .bool found, .int .i64 (j : Int)] ∧ Gt m8 m' ∧ BestI l (H.take j) found b ∧ (found = true → IN m' bv b ∧ b.length ≤ 6)) (by omega) ⟨_, false, [], rfl, Gt.refl _, .inl ⟨rfl, fun x hx => by cases hx⟩, fun h => by cases h⟩ ?_
      rintro j vs m9 hj ⟨bv, found, b, rfl, e9, hb, hbv⟩ self2 hself2
      have n9 := e9.next
      have hu69 := hu6.mono ((e7.trans e8).trans e9)
      have hu89 := hu8.mono e9
      rw [uc_e, uc_e, uc_e, oInt_lss]
      refine oIf_dec (fun hc3 => ?_) (fun hc3 => ?_)
      · have hjH : j < H.length := by omega
        obtain ⟨x, hx⟩ : ∃ x, x = H[j] := ⟨_, rfl⟩
        have hxm : x ∈ hitl (l.map lockH) := by rw [← hH, hx]; exact List.getElem_mem hjH
        obtain ⟨hx64, hxl, _⟩ := hitl_le hv6 hxm
        have htk : H.take (j + 1) = H.take j ++ [x] := by rw [List.take_add_one, List.getElem?_eq_getElem hjH, ← hx]; rfl
        rw [htk] at hself2
        rw [hu69.ia hjH, oOpt_e, hu69.ld hjH, oOpt_e, ← hx]
        refine members_sp hlf (by omega) hx64 fun u10 m10 e10 hu10 => ?_
        have hu10 : IN m10 u10 (memL x) := hu10.inn
        have hml : (memL x).length ≤ 6 := memTo_len x 6
        have hu810 := hu89.mono e10
        rw [hu10.ln, oOpt_e, oOpt_e, hpre, oInt_lss, decide_eq_false (by omega), oIf_f, oOpt_e, oOpt_e, oInt_eql]; (try dsimp only); rw [join_e]
        by_cases hfew : (memL x).length = meetN l
        · rw [decide_eq_true (by omega), oGT_t, aun_not, oOpt_e]; (try dsimp only); rw [uc_e]; (try dsimp only); rw [join_e]
          cases found
          · rw [Bool.not_false, oGF_t]; (try dsimp only); rw [uc_e]; (try dsimp only); rw [join_e, oGT_t, oPick_t]; (try dsimp only); rw [uc_e, oPick_t]; (try dsimp only); rw [join_e, oIf_t]; (try dsimp only); rw [uc_e]; (try dsimp only); rw [uc_e, oInt_add ⟨by omega, by omega⟩]
            exact hself2 hjH _ _ ⟨_, _, _, rfl, e9.trans e10, hb.take hv6 hxm hfew (fun h => by cases h), fun _ => ⟨hu10, hml⟩⟩
          · obtain ⟨hbv1, hbl⟩ := hbv rfl
            rw [Bool.not_true, oGF_f]
            refine compare_sp hlf hu10 (hbv1.mono e10) (by omega) (by omega) ?_
            rw [oInt_lss]
            by_cases hcm : cmpL (memL x) b < 0
            · rw [decide_eq_true hcm]; (try dsimp only); rw [uc_e]; (try dsimp only); rw [join_e, oGT_t, oPick_f]; (try dsimp only); rw [uc_e, oPick_t]; (try dsimp only); rw [join_e, oIf_t]; (try dsimp only); rw [uc_e]; (try dsimp only); rw [uc_e, oInt_add ⟨by omega, by omega⟩]
              exact hself2 hjH _ _ ⟨_, _, _, rfl, e9.trans e10, hb.take hv6 hxm hfew (fun _ => hcm), fun _ => ⟨hu10, hml⟩⟩
            · rw [decide_eq_false hcm]; (try dsimp only); rw [uc_e]; (try dsimp only); rw [join_e, oGT_t, oPick_f]; (try dsimp only); rw [uc_e, oPick_t]; (try dsimp only); rw [join_e, oIf_f]; (try dsimp only); rw [uc_e]; (try dsimp only); rw [uc_e, oInt_add ⟨by omega, by omega⟩]
              exact hself2 hjH _ _ ⟨_, _, _, rfl, e9.trans e10, hb.keep hv6 hfew hcm, fun _ => ⟨hbv1.mono e10, hbl⟩⟩
        · rw [decide_eq_false (by omega), oGT_f]; (try dsimp only); rw [uc_e]; (try dsimp only); rw [join_e, oGF_u]; (try dsimp only); rw [uc_e]; (try dsimp only); rw [join_e, oGT_f]; (try dsimp only); rw [uc_e, oPick_f]; (try dsimp only); rw [join_e, oIf_f]; (try dsimp only); rw [uc_e]; (try dsimp only); rw [uc_e, oInt_add ⟨by omega, by omega⟩]
          exact hself2 hjH _ _ ⟨_, _, _, rfl, e9.trans e10, hb.skip hv6 hfew, fun h => ⟨(hbv h).1.mono e10, (hbv h).2⟩⟩
      · have hjH : j = H.length := by omega
        clear hself2
        rw [hjH, List.take_length, hH] at hb
        obtain ⟨hb1, hb2⟩ := hb.done hv6
        obtain ⟨hbv1, hbl⟩ := hbv hb1
        have hbv1 : IL m9 bv (ci b) := hbv1
        have hu79 : IL m9 u7 (ci (hrs l)) := hu7.mono (e8.trans e9)
        rw [hb1]; (try dsimp only); rw [join_e, oGT_t]
        refine same13_sp hlf hbv1 hu79 (by rw [ci_length]; omega) ?_
        rw [hb2, decide_eq_true rfl]; (try dsimp only); rw [uc_e, oPick_t]; (try dsimp only); rw [join_e, oGT_t]
        have E9 := (((e5.trans e6).trans e7).trans e8).trans e9
        rw [r14]
        refine SClosed_sp (cK := runT (tabC lf) (n + 28)) (L := L) (hT.mono (E4.trans E9)) ?_
        dsimp only
        rw [uc_e, oPick_t]
        exact hk _ (E4.trans E9)
end
end Go.Vit
