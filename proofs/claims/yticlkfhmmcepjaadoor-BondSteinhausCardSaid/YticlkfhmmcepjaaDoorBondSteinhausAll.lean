/- The law BondSteinhaus: its walk. -/
import Derived.Test.YticlkfhmmcepjaaDoorM2
import Derived.Test.YticlkfhmmcepjaaDoorM0
import Derived.Test.YticlkfhmmcepjaaDoorW13B
import Derived.Test.YticlkfhmmcepjaaDoorW18F
import Derived.Test.YticlkfhmmcepjaaDoorP5
import Derived.Test.YticlkfhmmcepjaaDoorP6
import Derived.Test.YticlkfhmmcepjaaDoorCoreD
set_option linter.unusedSimpArgs false
set_option linter.unusedVariables false
set_option maxRecDepth 20000
namespace Go.Vit
open Go Go.Proofs
attribute [local irreducible] runT loopS
theorem neqb (x : Int) : decide (x = x) = true := decide_eq_true rfl
theorem shl56 {N : Nat} (h : N = 1 ∨ N = 2 ∨ N = 3) : abin Tryd.prog .shl 56 (.int .u64 1) (.int .i64 (N : Int)) = some (.int .u64 ((2 ^ N : Nat) : Int)) := by
  rcases h with rfl | rfl | rfl <;> kernel_rfl
theorem shl3u {N : Nat} (h : N = 1 ∨ N = 2 ∨ N = 3) : abin Tryd.prog .shl 3 (.int .i64 1) (.int .u64 ((2 ^ N : Nat) : Int)) = some (.int .i64 ((2 ^ 2 ^ N : Nat) : Int)) := by
  rcases h with rfl | rfl | rfl <;> kernel_rfl
theorem pow2_bd {N : Nat} (h : N = 1 ∨ N = 2 ∨ N = 3) : 2 ≤ 2 ^ N ∧ 2 ^ N ≤ 8 ∧ 4 ≤ 2 ^ 2 ^ N ∧ 2 ^ 2 ^ N ≤ 256 := by
  rcases h with rfl | rfl | rfl <;> decide
/-- The first one, of those from g on, so many. -/
def ff (q : Nat → Bool) : Nat → Nat → Int
  | 0, _ => -1
  | k + 1, g => if q g = true then (g : Int) else ff q k (g + 1)
theorem ff_neg {q : Nat → Bool} : ∀ (k g : Nat), ff q k g < 0 ↔ ∀ j, g ≤ j → j < g + k → q j = false
  | 0, g => ⟨fun _ j h1 h2 => by omega, fun _ => by show (-1 : Int) < 0; omega⟩
  | k + 1, g => by
    show (if q g = true then (g : Int) else ff q k (g + 1)) < 0 ↔ _
    cases h : q g with
    | true =>
      rw [if_pos rfl]
      exact ⟨fun h2 => by omega, fun h2 => by have := h2 g (Nat.le_refl _) (by omega); rw [h] at this; cases this⟩
    | false =>
      rw [if_neg (by simp), ff_neg k (g + 1)]
      exact ⟨fun h2 j h3 h4 => by
        by_cases hj : j = g
        · subst hj; exact h
        · exact h2 j (by omega) (by omega), fun h2 j h3 h4 => h2 j (by omega) (by omega)⟩
theorem ff_pos {q : Nat → Bool} : ∀ (k g : Nat), ¬ ff q k g < 0 → ∃ j : Nat, ff q k g = j ∧ g ≤ j ∧ j < g + k ∧ q j = true ∧ ∀ o, g ≤ o → o < j → q o = false
  | 0, g, h => absurd (show (-1 : Int) < 0 by omega) h
  | k + 1, g, h => by
    have h : ¬ (if q g = true then (g : Int) else ff q k (g + 1)) < 0 := h
    show ∃ j : Nat, (if q g = true then (g : Int) else ff q k (g + 1)) = j ∧ _
    cases hq : q g with
    | true => exact ⟨g, if_pos rfl, Nat.le_refl _, by omega, hq, fun o h1 h2 => by omega⟩
    | false =>
      rw [hq, if_neg (by simp)] at h
      obtain ⟨j, h1, h2, h3, h4, h5⟩ := ff_pos k (g + 1) h
      refine ⟨j, by rw [if_neg (by simp)]; exact h1, by omega, by omega, h4, fun o ho1 ho2 => ?_⟩
      by_cases ho : o = g
      · subst ho; exact hq
      · exact h5 o (by omega) ho2
theorem minI_e (a b : Int) : abuiltin Tryd.prog .min #[3, 3] [.int .i64 a, .int .i64 b] = some (.int .i64 (min a b)) := by
  show aleast true .i64 a [.int .i64 b] = _
  simp only [aleast, ilt_e]
  by_cases h : b < a
  · rw [decide_eq_true h]; simp only []
    rw [mkI_e, Int.min_eq_right (by omega)]
  · rw [decide_eq_false h]; simp only []
    rw [mkI_e, Int.min_eq_left (by omega)]
theorem bit_dec (S x : Nat) : decide (((S >>> x % 2 : Nat) : Int) = 1) = S.testBit x := by
  rw [Nat.testBit_eq_decide_div_mod_eq, ← Nat.shiftRight_eq_div_pow]
  exact decide_eq_decide.2 (by omega)
theorem same1_ff (p : Nat → Bool) (S N : Nat) : same1 p S N = true ↔ ff (fun g => p g != hits (bitsL S N) g) N 0 < 0 := by
  rw [ff_neg]
  unfold same1
  rw [List.all_eq_true]
  constructor
  · intro h j _ hj
    have := h j (List.mem_range.2 (by omega))
    show (p j != hits (bitsL S N) j) = false
    revert this
    cases p j <;> cases hits (bitsL S N) j <;> simp
  · intro h j hj
    have := h j (Nat.zero_le _) (by have := List.mem_range.1 hj; omega)
    revert this
    show (p j != hits (bitsL S N) j) = false → _
    cases p j <;> cases hits (bitsL S N) j <;> simp
theorem bitsL_len (S N : Nat) : (bitsL S N).length ≤ N := by
  have := List.length_filter_le (fun x => S.testBit x) (List.range N)
  rwa [List.length_range] at this
theorem bitsL_lt {S N x : Nat} (h : x ∈ bitsL S N) : x < N := List.mem_range.1 (List.mem_filter.1 h).1
def entN (ks : List Nat) : List (Int × Value) := ks.map fun k => ((k : Nat), .bool true)
theorem u59 : Tryd.prog.underlying 59 = some (.map 3 4) := by kernel_rfl
theorem z4 : tzero Tryd.prog 4 = some (.bool false) := by kernel_rfl
theorem lookN {m : Mem} {b s : Nat} {ks : List Nat} (hb : m.rd b = some ⟨0, [], some (entsI .i64 (entN ks))⟩) (h : s ∉ ks) : alookup Tryd.prog m 59 (.map (some b)) (.int .i64 (s : Int)) false = some (.bool false) :=
  alookup_miss u59 (by rw [keyEq_int u3]; simp) hb (mapFind_none u3 _ _ fun p hp => by
    obtain ⟨l, hl, rfl⟩ := List.mem_map.1 hp
    exact fun e => h ((Int.ofNat.inj e).symm ▸ hl)) z4 rfl
theorem updN {m : Mem} {L b s : Nat} {ks : List Nat} (hL : L ≤ b) (hb : m.rd b = some ⟨0, [], some (entsI .i64 (entN ks))⟩) (h : s ∉ ks) :
    amapUpdate Tryd.prog L m 59 (.map (some b)) (.int .i64 (s : Int)) (.bool true) = some (Go.undef, m.put b (some ⟨0, [], some (entsI .i64 (entN (ks ++ [s])))⟩)) := by
  refine amapUpdate_e u59 (by rw [keyEq_int u3]; simp) hL hb ?_
  rw [mapPut_new (mapFind_none u3 _ _ fun p hp => by
    obtain ⟨l, hl, rfl⟩ := List.mem_map.1 hp
    exact fun e => h ((Int.ofNat.inj e).symm ▸ hl))]
  simp [entsI, entN]
section
variable {lf n L : Nat} {m : Mem} {k : Value → Mem → Option Unit}
set_option maxHeartbeats 16000000 in
theorem stein_sp {a0 a1 : Nat} {gl : List Nat} (hlf : 1000000 ≤ lf) (hT : TabOk mTab m) (hL : L ≤ m.next) (h0 : a0 < 256) (h1 : a1 < 256) (hlen : gl.length = 8) (hg : ∀ g ∈ gl, g < 256)
    (hk : ∀ m', Gt m m' → k (.bool true) m' = some ()) : runT (tab lf) (n + 10) 5 [sealV a0 a1 gl] L m k = some () := by
  rw [r5]
  dsimp only [S5, iofNat, inegSucc]
  have hcl : (Value.int .u8 (a0 : Int) :: .int .u8 (a1 : Int) :: gl.map fun (g : Nat) => .int .u8 (g : Int)).length = 10 := by simp [hlen]
  have hsv : sealV a0 a1 gl = .agg ⟨.int .u8 (a0 : Int) :: .int .u8 (a1 : Int) :: gl.map fun (g : Nat) => .int .u8 (g : Int)⟩ := rfl
  have g1 := Mem.gt_push m ⟨1, .int .u8 (a0 : Int) :: .int .u8 (a1 : Int) :: gl.map (fun (g : Nat) => .int .u8 (g : Int)), none⟩
  simp only [↓uc_e, ↓un0_e, hsv, abox_e, cells_agg, oRes_e, ptrTo, ldN_u, Mem.rd_push, rdn_all hcl, oOpt_e]
  rw [← hsv]
  generalize m.push ⟨1, .int .u8 (a0 : Int) :: .int .u8 (a1 : Int) :: gl.map (fun (g : Nat) => .int .u8 (g : Int)), none⟩ = m1 at g1 ⊢
  have g1n := g1.next
  refine made_sp (most := 3) hlf (by omega) h0 h1 hlen hg (.inl rfl) fun u m2 e2 hu => ?_
  have hnlt : ∀ g ∈ madeL a0 a1 gl 3, g < 2 ^ (1 + a0 % 3) := fun g h => madeL_lt h
  have hll := madeL_len a0 a1 3 gl
  have hN3 : 1 + a0 % 3 = 1 ∨ 1 + a0 % 3 = 2 ∨ 1 + a0 % 3 = 3 := by omega
  generalize madeL a0 a1 gl 3 = l at hu hnlt hll ⊢
  generalize 1 + a0 % 3 = N at hN3 hnlt ⊢
  have hN1 : 1 ≤ N := by omega
  have hN6 : N ≤ 6 := by omega
  obtain ⟨p2a, p2b, p2c, p2d⟩ := pow2_bd hN3
  have hl64 : l.length ≤ 64 := by omega
  have hlt64 : ∀ x ∈ l, x < 64 := fun x hx => by have := hnlt x hx; omega
  have hv := hu.inn
  clear hu
  obtain ⟨pu, cu, rfl⟩ := hv.ex
  have hck := chk_ci hN1 hN6 hl64 hnlt
  have len2 : (hitl l).length ≤ 64 := minl_len _
  have hlt1 : ∀ g ∈ hitl l, g < 2 ^ N := fun g hg => hitl_lt hN6 hnlt hg
  have hlt1b : ∀ g ∈ hitl l, g < 64 := fun g hg => by have := hlt1 g hg; omega
  have hck1 := chk_ci hN1 hN6 len2 hlt1
  have hSm : smallX (N : Int) (ci l) = hitl l := by unfold smallX; rw [if_pos hck, nn_ci]
  obtain ⟨st1', st2', st3', st4'⟩ := stein hN1 (by omega) hnlt
  have hBd : barredX (N : Int) (ci l) = bdT (mayB l) N := barredX_ci hN1 hN6 hl64 hnlt
  have G2 := g1.trans e2
  have n2 := G2.next
  try simp (maxSteps := 4000000) (disch := first | omega | with_unfolding_all exact id rfl | with_unfolding_all exact Nat.le_of_ble_eq_true rfl | (simp only [Jd, Je, Jr, Js, Jt, Nat.reduceAdd, allOne, oneCell, Bool.and_self, Jc]; first | done | omega)) only [↓Qa, ↓Qb, Qd, Qe, Qf, Qg, Qh, Qi, Qj, Qk, Ql, Qm, Qn, Qo, Qp, Qq, Qr, Qs, Qt, Qu, Qv, Qw, Qx, Qy, ptrTo, Qz, QA, QB, QC, QD, QE, QF, QG, QH, QI, QJ, QK, QL, QM, QN, QO, QP, QQ, QR, QS, QT, QU, QV, QW, QX, QY, QZ, Ja, Jb, Jc, Jd, Je, Jf, Jg, Jh, Ji, Jj, Jk, Jl, Jm, Jn, Jo, Jp, Jq, Jr, Js, Jt, Nat.reduceAdd]
  refine rule_sp (l := ci l) (by omega) hv fun m3 e3 => ?_
  have E3 := G2.trans e3
  have n3 := E3.next
  try simp (maxSteps := 4000000) (disch := first | omega | with_unfolding_all exact id rfl | with_unfolding_all exact Nat.le_of_ble_eq_true rfl | (simp only [Jd, Je, Jr, Js, Jt, Nat.reduceAdd, allOne, oneCell, Bool.and_self, Jc]; first | done | omega)) only [↓Qa, ↓Qb, Qd, Qe, Qf, Qg, Qh, Qi, Qj, Qk, Ql, Qm, Qn, Qo, Qp, Qq, Qr, Qs, Qt, Qu, Qv, Qw, Qx, Qy, ptrTo, Qz, QA, QB, QC, QD, QE, QF, QG, QH, QI, QJ, QK, QL, QM, QN, QO, QP, QQ, QR, QS, QT, QU, QV, QW, QX, QY, QZ, Ja, Jb, Jc, Jd, Je, Jf, Jg, Jh, Ji, Jj, Jk, Jl, Jm, Jn, Jo, Jp, Jq, Jr, Js, Jt, Nat.reduceAdd]
  rw [boxed_fold]
  have e4 := boxed_gt m3 (N : Int) (.slice pu l.length cu)
  have hr := boxed_at m3 (N : Int) (.slice pu l.length cu)
  have hrl := hr.lt
  have hrn : m3.next + 1 = (boxed m3 (N : Int) (.slice pu l.length cu)).next := (boxed_next _ _ _).symm
  generalize boxed m3 (N : Int) (.slice pu l.length cu) = m4 at e4 hr hrl hrn ⊢
  have E4 := E3.trans e4
  have n4 := E4.next
  have v4 := hv.mono (e3.trans e4)
  try simp (maxSteps := 4000000) (disch := first | omega | with_unfolding_all exact id rfl | with_unfolding_all exact Nat.le_of_ble_eq_true rfl | (simp only [Jd, Je, Jr, Js, Jt, Nat.reduceAdd, allOne, oneCell, Bool.and_self, Jc]; first | done | omega)) only [hr.rd, ↓Qa, ↓Qb, Qd, Qe, Qf, Qg, Qh, Qi, Qj, Qk, Ql, Qm, Qn, Qo, Qp, Qq, Qr, Qs, Qt, Qu, Qv, Qw, Qx, Qy, ptrTo, Qz, QA, QB, QC, QD, QE, QF, QG, QH, QI, QJ, QK, QL, QM, QN, QO, QP, QQ, QR, QS, QT, QU, QV, QW, QX, QY, QZ, Ja, Jb, Jc, Jd, Je, Jf, Jg, Jh, Ji, Jj, Jk, Jl, Jm, Jn, Jo, Jp, Jq, Jr, Js, Jt, Nat.reduceAdd]
  refine make1_sp (l := ci l) hlf (by omega) v4 fun u5 m5 e5 hu5 => ?_
  have E5 := E4.trans e5
  have n5 := E5.next
  have e5n := e5.next
  rw [hck, if_pos rfl]
  rw [hSm] at hu5
  obtain ⟨q5, d5, rfl⟩ := hu5.ex
  have hr5 := hr.mono e5
  try simp (maxSteps := 4000000) (disch := first | omega | with_unfolding_all exact id rfl | with_unfolding_all exact Nat.le_of_ble_eq_true rfl | (simp only [Jd, Je, Jr, Js, Jt, Nat.reduceAdd, allOne, oneCell, Bool.and_self, Jc]; first | done | omega)) only [Vit.hg, hr5.rd, ↓Qa, ↓Qb, Qd, Qe, Qf, Qg, Qh, Qi, Qj, Qk, Ql, Qm, Qn, Qo, Qp, Qq, Qr, Qs, Qt, Qu, Qv, Qw, Qx, Qy, ptrTo, Qz, QA, QB, QC, QD, QE, QF, QG, QH, QI, QJ, QK, QL, QM, QN, QO, QP, QQ, QR, QS, QT, QU, QV, QW, QX, QY, QZ, Ja, Jb, Jc, Jd, Je, Jf, Jg, Jh, Ji, Jj, Jk, Jl, Jm, Jn, Jo, Jp, Jq, Jr, Js, Jt, Nat.reduceAdd]
  rw [boxed_fold]
  have e6 := boxed_gt m5 (N : Int) (.slice q5 (hitl l).length d5)
  have hq := boxed_at m5 (N : Int) (.slice q5 (hitl l).length d5)
  have hql := hq.lt
  generalize boxed m5 (N : Int) (.slice q5 (hitl l).length d5) = m6 at e6 hq hql ⊢
  have E6 := E5.trans e6
  have n6 := E6.next
  have hr6 := hr5.mono e6
  try simp (maxSteps := 4000000) (disch := first | omega | with_unfolding_all exact id rfl | with_unfolding_all exact Nat.le_of_ble_eq_true rfl | (simp only [Jd, Je, Jr, Js, Jt, Nat.reduceAdd, allOne, oneCell, Bool.and_self, Jc]; first | done | omega)) only [hr6.rd, ↓Qa, ↓Qb, Qd, Qe, Qf, Qg, Qh, Qi, Qj, Qk, Ql, Qm, Qn, Qo, Qp, Qq, Qr, Qs, Qt, Qu, Qv, Qw, Qx, Qy, ptrTo, Qz, QA, QB, QC, QD, QE, QF, QG, QH, QI, QJ, QK, QL, QM, QN, QO, QP, QQ, QR, QS, QT, QU, QV, QW, QX, QY, QZ, Ja, Jb, Jc, Jd, Je, Jf, Jg, Jh, Ji, Jj, Jk, Jl, Jm, Jn, Jo, Jp, Jq, Jr, Js, Jt, Nat.reduceAdd]
  refine barred1_sp (l := ci l) hlf (by omega) (v4.mono (e5.trans e6)) fun ub m7 e7 hb => ?_
  have E7 := E6.trans e7
  have n7 := E7.next
  have e7n := e7.next
  rw [hck]
  rw [hBd] at hb
  have hq7 := hq.mono e7
  have hr7 := hr6.mono e7
  have v7 := v4.mono ((e5.trans e6).trans e7)
  have k7 : IN m7 (.slice q5 (hitl l).length d5) (hitl l) := hu5.mono (e6.trans e7)
  have hbl : ln ub = some (.int .i64 ((bdT (mayB l) N).length : Int)) := by have := IL.ln hb; rwa [ci_length] at this
  have f1 : decide (((hitl l).length : Int) = ((bdT (mayB l) N).length : Int)) = true := decide_eq_true (by omega)
  have hml : (hitl l).length ≤ 2 ^ N := by
    rw [← smallest_eq hN6 hnlt]
    have := List.length_filter_le (leastB (openB l) (2 ^ N)) (List.range (2 ^ N))
    rwa [List.length_range] at this
  have f2 : decide (((hitl l).length : Int) > ((2 ^ N : Nat) : Int)) = false := decide_eq_false (by omega)
  have hql7 : ln (.slice q5 (hitl l).length d5) = some (.int .i64 ((hitl l).length : Int)) := ln_e _ _ _
  try simp (maxSteps := 4000000) (disch := first | omega | with_unfolding_all exact id rfl | with_unfolding_all exact Nat.le_of_ble_eq_true rfl | (simp only [Jd, Je, Jr, Js, Jt, Nat.reduceAdd, allOne, oneCell, Bool.and_self, Jc]; first | done | omega)) only [hq7.rd, hbl, hql7, f1, shl1 hN6, f2, neqb, ↓Qa, ↓Qb, Qd, Qe, Qf, Qg, Qh, Qi, Qj, Qk, Ql, Qm, Qn, Qo, Qp, Qq, Qr, Qs, Qt, Qu, Qv, Qw, Qx, Qy, ptrTo, Qz, QA, QB, QC, QD, QE, QF, QG, QH, QI, QJ, QK, QL, QM, QN, QO, QP, QQ, QR, QS, QT, QU, QV, QW, QX, QY, QZ, Ja, Jb, Jc, Jd, Je, Jf, Jg, Jh, Ji, Jj, Jk, Jl, Jm, Jn, Jo, Jp, Jq, Jr, Js, Jt, Nat.reduceAdd]
  repeat (rw [join_e]; try simp (maxSteps := 4000000) (disch := first | omega | with_unfolding_all exact id rfl | with_unfolding_all exact Nat.le_of_ble_eq_true rfl | (simp only [Jd, Je, Jr, Js, Jt, Nat.reduceAdd, allOne, oneCell, Bool.and_self, Jc]; first | done | omega)) only [hq7.rd, hbl, hql7, f1, shl1 hN6, f2, neqb, ↓Qa, ↓Qb, Qd, Qe, Qf, Qg, Qh, Qi, Qj, Qk, Ql, Qm, Qn, Qo, Qp, Qq, Qr, Qs, Qt, Qu, Qv, Qw, Qx, Qy, ptrTo, Qz, QA, QB, QC, QD, QE, QF, QG, QH, QI, QJ, QK, QL, QM, QN, QO, QP, QQ, QR, QS, QT, QU, QV, QW, QX, QY, QZ, Ja, Jb, Jc, Jd, Je, Jf, Jg, Jh, Ji, Jj, Jk, Jl, Jm, Jn, Jo, Jp, Jq, Jr, Js, Jt, Nat.reduceAdd])
  refine loop_up (hitl l).length (fun i vs m' => vs = [.int .i64 (i : Int)] ∧ m' = m7) (by omega) ⟨rfl, rfl⟩ ?_
  rintro i vs m' hi ⟨rfl, rfl⟩ self hself
  rw [uc_e, oInt_lss]
  refine oIf_dec (fun hc => ?_) (fun hc => ?_)
  · have hil : i < (hitl l).length := by omega
    have hx := hlt1 _ (List.getElem_mem hil)
    have x1 : decide (((hitl l)[i] : Int) < 0) = false := decide_eq_false (by omega)
    have x2 : decide (((hitl l)[i] : Int) ≥ ((2 ^ N : Nat) : Int)) = false := decide_eq_false (by omega)
    rw [k7.ia hil, oOpt_e, k7.ld hil, oOpt_e, oInt_lss, x1, join_e]
    try simp (disch := first | omega | with_unfolding_all exact id rfl | with_unfolding_all exact Nat.le_of_ble_eq_true rfl | (simp only [Jd, Je, Jr, Js, Jt, Nat.reduceAdd, allOne, oneCell, Bool.and_self, Jc]; first | done | omega)) only [x2, ↓Qa, ↓Qb, Qd, Qe, Qf, Qg, Qh, Qi, Qj, Qk, Ql, Qm, Qn, Qo, Qp, Qq, Qr, Qs, Qt, Qu, Qv, Qw, Qx, Qy, ptrTo, Qz, QA, QB, QC, QD, QE, QF, QG, QH, QI, QJ, QK, QL, QM, QN, QO, QP, QQ, QR, QS, QT, QU, QV, QW, QX, QY, QZ, Ja, Jb, Jc, Jd, Je, Jf, Jg, Jh, Ji, Jj, Jk, Jl, Jm, Jn, Jo, Jp, Jq, Jr, Js, Jt, Nat.reduceAdd]
    rw [oInt_add ⟨by omega, by omega⟩]
    exact hself hil _ _ ⟨rfl, rfl⟩
  · clear hself
    rw [shl56 hN3, oOpt_e, shl3u hN3, oOpt_e]
    have hE7 : L ≤ m'.next := by omega
    refine loop_up (2 ^ 2 ^ N) (fun S vs mS => vs = [.int .i64 (fewF (mayB l) (2 ^ N) S : Int), .int .i64 (S : Int)] ∧ Gt m' mS) (by omega) ⟨rfl, Gt.refl _⟩ ?_
    rintro S vs mS hS ⟨rfl, eS⟩ selfS hselfS
    have nS := eS.next
    have few1 : ∀ s, fewF (mayB l) (2 ^ N) s ≤ 100 := by
      intro s
      induction s with
      | zero => exact Nat.le_refl _
      | succ s ih =>
        show (if _ then min _ _ else _) ≤ 100
        split
        · exact Nat.le_trans (Nat.min_le_left _ _) ih
        · exact ih
    have hfS := few1 S
    rw [uc_e, uc_e, oInt_lss]
    refine oIf_dec (fun hcS => ?_) (fun hcS => ?_)
    · have hSl : S < 2 ^ 2 ^ N := by omega
      try rw [shl1 hN6]
      try rw [oOpt_e]
      refine loop_up (2 ^ N) (fun x vs mA => ∃ u, vs = [u, .int .i64 (x : Int)] ∧ Gt mS mA ∧ GN mS.next mA u ((List.range x).filter fun y => S.testBit y)) (by omega) ⟨_, rfl, Gt.refl _, GN.nil _ _⟩ ?_
      rintro x vs mA hx ⟨ua, rfl, eA, hua⟩ selfA hselfA
      have nA := eA.next
      rw [uc_e, uc_e, oInt_lss]
      refine oIf_dec (fun hcx => ?_) (fun hcx => ?_)
      · have hxl : x < 2 ^ N := by omega
        have hsl := Nat.div_le_self S (2 ^ x)
        rw [shr_e _ x (by omega), oOpt_e, show (1 : Int) = ((1 : Nat) : Int) from rfl, oInt_and (by rw [Nat.shiftRight_eq_div_pow]; omega) (by omega), Nat.and_one_is_mod, oInt_eql]
        rw [show ((1 : Nat) : Int) = 1 from rfl, bit_dec, join_e]
        cases hb : S.testBit x with
        | true =>
          rw [oIf_t]
          obtain ⟨u', mB, s1, s2, s3, s4⟩ := GN.snoc (P := Tryd.prog) (t := 22) (L := L) (m0 := mS) x ael22 (by omega) hua (by have := List.length_filter_le (fun y => S.testBit y) (List.range x); rw [List.length_range] at this; omega) (by omega) eA (Nat.le_refl _)
          rw [bs22, oRes_e, s1, oRes_e]
          dsimp only
          rw [uc_e, oInt_add ⟨by omega, by omega⟩]
          refine hselfA hxl _ _ ⟨u', rfl, s3, ?_⟩
          rw [List.range_succ, List.filter_append, List.filter_cons_of_pos hb]
          exact s2.le nA
        | false =>
          rw [oIf_f]
          dsimp only
          rw [uc_e, oInt_add ⟨by omega, by omega⟩]
          refine hselfA hxl _ _ ⟨ua, rfl, eA, ?_⟩
          rw [List.range_succ, List.filter_append, List.filter_cons_of_neg (by rw [hb]; simp), List.filter_nil, List.append_nil]
          exact hua
      · have hxN : x = 2 ^ N := by omega
        subst hxN
        clear hselfA
        have hua : GN mS.next mA ua (bitsL S (2 ^ N)) := hua
        have hBl := bitsL_len S (2 ^ N)
        have hBlt : ∀ y ∈ bitsL S (2 ^ N), y < 2 ^ N := fun y hy => bitsL_lt hy
        have hBlt64 : ∀ y ∈ bitsL S (2 ^ N), y < 64 := fun y hy => by have := hBlt y hy; omega
        have hfs1 : fewF (mayB l) (2 ^ N) (S + 1) = if same1 (mayB l) S (2 ^ N) = true then min (fewF (mayB l) (2 ^ N) S) (bitsL S (2 ^ N)).length else fewF (mayB l) (2 ^ N) S := rfl
        have hsf := same1_ff (mayB l) S (2 ^ N)
        generalize hBs : bitsL S (2 ^ N) = Bs at hua hBl hBlt hBlt64 hfs1 hsf
        rw [oInt_sub ⟨by omega, by omega⟩]
        refine loop_up (2 ^ N) (fun i vs mB => vs = [.int .i64 (ff (fun g => mayB l g != hits Bs g) i (2 ^ N - i)), .int .i64 (((2 ^ N : Nat) : Int) - 1 - (i : Int))] ∧ Gt mA mB) (by omega) ⟨by rw [show ((2 ^ N : Nat) : Int) - 1 - ((0 : Nat) : Int) = ((2 ^ N : Nat) : Int) - 1 by omega]; rfl, Gt.refl _⟩ ?_
        rintro i vs mB hi2 ⟨rfl, eB⟩ selfB hselfB
        have nB := eB.next
        have hv0 := ((v7.mono eS).mono eA).mono eB
        have hbu := (hua.mono eB).inn
        rw [uc_e, uc_e, oInt_geq]
        refine oIf_dec (fun hcg => ?_) (fun hcg => ?_)
        · have hiN : i < 2 ^ N := by omega
          obtain ⟨g, hgi⟩ : ∃ g, g = 2 ^ N - 1 - i := ⟨_, rfl⟩
          rw [show ((2 ^ N : Nat) : Int) - 1 - (i : Int) = (g : Int) by omega]
          refine within2_sp (n := n + 5) hlf hv0 (by omega) hlt64 (by omega) fun mC eC => ?_
          refine meets_sp (n := n + 5) hlf (hbu.mono eC) (by omega) hBlt64 (by omega) fun mD eD => ?_
          rw [bneq4, oOpt_e, bne_dec, join_e]
          have hff : ff (fun g => mayB l g != hits Bs g) (i + 1) (2 ^ N - (i + 1)) = if (mayB l g != hits Bs g) = true then (g : Int) else ff (fun g => mayB l g != hits Bs g) i (2 ^ N - i) := by
            show (if (mayB l (2 ^ N - (i + 1)) != hits Bs (2 ^ N - (i + 1))) = true then ((2 ^ N - (i + 1) : Nat) : Int) else ff _ i (2 ^ N - (i + 1) + 1)) = _
            rw [show 2 ^ N - (i + 1) = g by omega, show g + 1 = 2 ^ N - i by omega]
          have hnext : (g : Int) - 1 = ((2 ^ N : Nat) : Int) - 1 - ((i + 1 : Nat) : Int) := by omega
          cases hq2 : (mayB l g != hits Bs g) with
          | true =>
            rw [hq2, if_pos rfl] at hff
            rw [oIf_t]
            dsimp only
            rw [uc_e, oInt_sub ⟨by omega, by omega⟩, hnext]
            exact hselfB hiN _ _ ⟨by rw [hff], (eB.trans eC).trans eD⟩
          | false =>
            rw [hq2, if_neg (by simp)] at hff
            rw [oIf_f]
            dsimp only
            rw [uc_e, oInt_sub ⟨by omega, by omega⟩, hnext]
            exact hselfB hiN _ _ ⟨by rw [hff], (eB.trans eC).trans eD⟩
        · have hiN : i = 2 ^ N := by omega
          subst hiN
          clear hselfB
          rw [Nat.sub_self]
          have tail : ∀ M, Gt mB M → selfS [.int .i64 (fewF (mayB l) (2 ^ N) (S + 1) : Int), .int .i64 ((S : Int) + 1)] M = some () := fun M eM => hselfS hSl _ _ ⟨by rw [show (S : Int) + 1 = ((S + 1 : Nat) : Int) by omega], ((eS.trans eA).trans eB).trans eM⟩
          have hrB := ((hr7.mono eS).mono eA).mono eB
          have hrBl := hrB.lt
          have hckB : chk (N : Int) (ci Bs) = 0 := chk_ci hN1 hN6 (by omega) hBlt
          have hadd : ∀ K : Value → Option Unit, oInt .add .i64 (.int .i64 (S : Int)) (.int .i64 1) K = K (.int .i64 ((S : Int) + 1)) := fun K => by rw [oInt_add ⟨by omega, by omega⟩]
          have hrS : ∀ K : Value → Option Unit, oInt .rem .i64 (.int .i64 (S : Int)) (.int .i64 5) K = K (.int .i64 ((S % 5 : Nat) : Int)) := fun K => oInt_remN (b := 5) (by omega) K
          have hrl2 : ∀ K : Value → Option Unit, oInt .rem .i64 (.int .i64 (l.length : Int)) (.int .i64 5) K = K (.int .i64 ((l.length % 5 : Nat) : Int)) := fun K => oInt_remN (b := 5) (by omega) K
          have hlnA : ln ua = some (.int .i64 (Bs.length : Int)) := by have := IL.ln hbu; rwa [ci_length] at this
          have hlnl : ln (.slice pu l.length cu) = some (.int .i64 (l.length : Int)) := ln_e _ _ _
          have fits : ∀ (K : Value → Mem → Option Unit), (∀ M, Gt mB M → K (.tuple ⟨[.int .i64 (fitV (N : Int) (ci l) (N : Int) (ci Bs)).1, .int .i64 (fitV (N : Int) (ci l) (N : Int) (ci Bs)).2]⟩) M = some ()) →
              (oOpt (rdn (mB.rd m3.next) 0 2) fun t142 => runT (tab lf) (n + 9) 30 [Value.int IntKind.i64 ↑N, ua] L mB fun t143 m144 => oIf (Value.bool (bEq (mB.rd m3.next) (m144.rd m3.next))) (runT (tab lf) (n + 9) 18 [t142, t143] L m144 K) none) = some () := fun K hK => by
            have hrd : rdn (mB.rd m3.next) 0 2 = some (Vit.hg (N : Int) (.slice pu l.length cu)) := by rw [hrB.rd]; kernel_rfl
            rw [hrd, oOpt_e]
            refine plan_sp (n := n + 8) (l := ci Bs) (by omega) hbu fun mE eE => ?_
            have nE := eE.next
            have hrE := hrB.mono eE
            rw [hrB.rd, hrE.rd, bEq_ss, veqL_cons, veq_int, veqL_cons, veq_slice, veqL_nil]
            show oIf (.bool true) _ _ = _
            rw [oIf_t]
            exact fits1_sp (n := n) (l := ci l) (l2 := ci Bs) hlf (by omega) (hv0.mono eE) (hbu.mono eE) fun mF eF => hK mF (eE.trans eF)
          by_cases hF : ff (fun g => mayB l g != hits Bs g) (2 ^ N) 0 < 0
          · have hF2 := decide_eq_true hF
            rw [if_pos (hsf.2 hF)] at hfs1
            have hmin : min (fewF (mayB l) (2 ^ N) S : Int) (Bs.length : Int) = (fewF (mayB l) (2 ^ N) (S + 1) : Int) := by rw [hfs1]; omega
            have hfv : fitV (N : Int) (ci l) (N : Int) (ci Bs) = (0, 13) := fitV_no hck hckB fun o ho => by
              rw [nn_ci, nn_ci, openB_hits]
              exact (ff_neg _ _).1 hF o (Nat.zero_le _) (by omega)
            rw [hfv] at fits
            generalize ff (fun g => mayB l g != hits Bs g) (2 ^ N) 0 = F at hF hF2 ⊢
            rw [oInt_lss, hF2, join_e, oIf_t, hlnA, oOpt_e, minI_e, oOpt_e, hmin]
            dsimp only
            rw [uc_e, hrS, hlnl, oOpt_e, hrl2, oInt_eql, join_e]
            refine oIf_dec (fun h5 => ?_) (fun h5 => ?_)
            · refine fits _ fun M eM => ?_
              have hF3 : decide (0 ≤ F) = false := decide_eq_false (by omega)
              try simp (disch := first | omega | with_unfolding_all exact id rfl | with_unfolding_all exact Nat.le_of_ble_eq_true rfl | (simp only [Jd, Je, Jr, Js, Jt, Nat.reduceAdd, allOne, oneCell, Bool.and_self, Jc]; first | done | omega)) only [hF2, hF3, neqb, ↓Qa, ↓Qb, Qd, Qe, Qf, Qg, Qh, Qi, Qj, Qk, Ql, Qm, Qn, Qo, Qp, Qq, Qr, Qs, Qt, Qu, Qv, Qw, Qx, Qy, ptrTo, Qz, QA, QB, QC, QD, QE, QF, QG, QH, QI, QJ, QK, QL, QM, QN, QO, QP, QQ, QR, QS, QT, QU, QV, QW, QX, QY, QZ, Ja, Jb, Jc, Jd, Je, Jf, Jg, Jh, Ji, Jj, Jk, Jl, Jm, Jn, Jo, Jp, Jq, Jr, Js, Jt, Nat.reduceAdd]
              repeat (rw [join_e]; try simp (disch := first | omega | with_unfolding_all exact id rfl | with_unfolding_all exact Nat.le_of_ble_eq_true rfl | (simp only [Jd, Je, Jr, Js, Jt, Nat.reduceAdd, allOne, oneCell, Bool.and_self, Jc]; first | done | omega)) only [hF2, hF3, neqb, ↓Qa, ↓Qb, Qd, Qe, Qf, Qg, Qh, Qi, Qj, Qk, Ql, Qm, Qn, Qo, Qp, Qq, Qr, Qs, Qt, Qu, Qv, Qw, Qx, Qy, ptrTo, Qz, QA, QB, QC, QD, QE, QF, QG, QH, QI, QJ, QK, QL, QM, QN, QO, QP, QQ, QR, QS, QT, QU, QV, QW, QX, QY, QZ, Ja, Jb, Jc, Jd, Je, Jf, Jg, Jh, Ji, Jj, Jk, Jl, Jm, Jn, Jo, Jp, Jq, Jr, Js, Jt, Nat.reduceAdd])
              rw [hadd]
              exact tail M eM
            · dsimp only
              rw [hadd]
              exact tail mB (Gt.refl _)
          · have hF2 := decide_eq_false hF
            rw [if_neg (fun h => hF (hsf.1 h))] at hfs1
            rw [hfs1] at tail
            obtain ⟨j, hj1, _, hj2, hj3, hj4⟩ := ff_pos _ _ hF
            have hfv : fitV (N : Int) (ci l) (N : Int) (ci Bs) = ((j : Int), 0) := fitV_at hck hckB (by omega) (by rw [nn_ci, nn_ci, openB_hits]; exact hj3) fun o ho => by
              rw [nn_ci, nn_ci, openB_hits]
              exact hj4 o (Nat.zero_le _) ho
            rw [hfv] at fits
            rw [hj1] at hF2 ⊢
            rw [oInt_lss, hF2, join_e, oIf_f]
            dsimp only
            rw [uc_e, hrS, hlnl, oOpt_e, hrl2, oInt_eql, join_e]
            refine oIf_dec (fun h5 => ?_) (fun h5 => ?_)
            · refine fits _ fun M eM => ?_
              have hF3 : decide (0 ≤ (j : Int)) = true := decide_eq_true (by omega)
              try simp (disch := first | omega | with_unfolding_all exact id rfl | with_unfolding_all exact Nat.le_of_ble_eq_true rfl | (simp only [Jd, Je, Jr, Js, Jt, Nat.reduceAdd, allOne, oneCell, Bool.and_self, Jc]; first | done | omega)) only [hF2, hF3, neqb, ↓Qa, ↓Qb, Qd, Qe, Qf, Qg, Qh, Qi, Qj, Qk, Ql, Qm, Qn, Qo, Qp, Qq, Qr, Qs, Qt, Qu, Qv, Qw, Qx, Qy, ptrTo, Qz, QA, QB, QC, QD, QE, QF, QG, QH, QI, QJ, QK, QL, QM, QN, QO, QP, QQ, QR, QS, QT, QU, QV, QW, QX, QY, QZ, Ja, Jb, Jc, Jd, Je, Jf, Jg, Jh, Ji, Jj, Jk, Jl, Jm, Jn, Jo, Jp, Jq, Jr, Js, Jt, Nat.reduceAdd]
              repeat (rw [join_e]; try simp (disch := first | omega | with_unfolding_all exact id rfl | with_unfolding_all exact Nat.le_of_ble_eq_true rfl | (simp only [Jd, Je, Jr, Js, Jt, Nat.reduceAdd, allOne, oneCell, Bool.and_self, Jc]; first | done | omega)) only [hF2, hF3, neqb, ↓Qa, ↓Qb, Qd, Qe, Qf, Qg, Qh, Qi, Qj, Qk, Ql, Qm, Qn, Qo, Qp, Qq, Qr, Qs, Qt, Qu, Qv, Qw, Qx, Qy, ptrTo, Qz, QA, QB, QC, QD, QE, QF, QG, QH, QI, QJ, QK, QL, QM, QN, QO, QP, QQ, QR, QS, QT, QU, QV, QW, QX, QY, QZ, Ja, Jb, Jc, Jd, Je, Jf, Jg, Jh, Ji, Jj, Jk, Jl, Jm, Jn, Jo, Jp, Jq, Jr, Js, Jt, Nat.reduceAdd])
              rw [hadd]
              exact tail M eM
            · dsimp only
              rw [hadd]
              exact tail mB (Gt.refl _)
    · have hSN : S = 2 ^ 2 ^ N := by omega
      subst hSN
      clear hselfS
      have hrS := hr7.mono eS
      have hqS := hq7.mono eS
      have hrdR : rdn (mS.rd m3.next) 0 2 = some (Vit.hg (N : Int) (.slice pu l.length cu)) := by rw [hrS.rd]; kernel_rfl
      have hrdP : rdn (mS.rd m5.next) 0 2 = some (Vit.hg (N : Int) (.slice q5 (hitl l).length d5)) := by rw [hqS.rd]; kernel_rfl
      have hfin : fitV (N : Int) (ci l) (N : Int) (ci (hitl l)) = (0, 13) := fitV_no hck hck1 fun o ho => by
        rw [nn_ci, nn_ci, openB_hits]
        have h1 : hits (hitl l) o = mayB l o := by
          rw [Bool.eq_iff_iff, show hits (hitl l) o = hits ((List.range 64).filter (hits l)) o from hits_minl (fun x hx => List.mem_range.1 (List.mem_filter.1 hx).1) o, hits_range l o (by omega) hlt64, mayB_iff]
        rw [h1]
        cases mayB l o <;> rfl
      rw [hrdR, oOpt_e, hrdP, oOpt_e]
      refine fits1_sp (n := n) (l := ci l) (l2 := ci (hitl l)) hlf (by omega) (v7.mono eS) (k7.mono eS) fun m8 e8 => ?_
      have n8 := e8.next
      rw [hfin]
      have hq8 := hqS.mono e8
      have fF : decide (((fewF (mayB l) (2 ^ N) (2 ^ 2 ^ N) : Nat) : Int) = ((hitl l).length : Int)) = true := decide_eq_true (by omega)
      try simp (disch := first | omega | with_unfolding_all exact id rfl | with_unfolding_all exact Nat.le_of_ble_eq_true rfl | (simp only [Jd, Je, Jr, Js, Jt, Nat.reduceAdd, allOne, oneCell, Bool.and_self, Jc]; first | done | omega)) only [hq8.rd, hql7, fF, neqb, ↓Qa, ↓Qb, Qd, Qe, Qf, Qg, Qh, Qi, Qj, Qk, Ql, Qm, Qn, Qo, Qp, Qq, Qr, Qs, Qt, Qu, Qv, Qw, Qx, Qy, ptrTo, Qz, QA, QB, QC, QD, QE, QF, QG, QH, QI, QJ, QK, QL, QM, QN, QO, QP, QQ, QR, QS, QT, QU, QV, QW, QX, QY, QZ, Ja, Jb, Jc, Jd, Je, Jf, Jg, Jh, Ji, Jj, Jk, Jl, Jm, Jn, Jo, Jp, Jq, Jr, Js, Jt, Nat.reduceAdd]
      repeat (rw [join_e]; try simp (disch := first | omega | with_unfolding_all exact id rfl | with_unfolding_all exact Nat.le_of_ble_eq_true rfl | (simp only [Jd, Je, Jr, Js, Jt, Nat.reduceAdd, allOne, oneCell, Bool.and_self, Jc]; first | done | omega)) only [hq8.rd, hql7, fF, neqb, ↓Qa, ↓Qb, Qd, Qe, Qf, Qg, Qh, Qi, Qj, Qk, Ql, Qm, Qn, Qo, Qp, Qq, Qr, Qs, Qt, Qu, Qv, Qw, Qx, Qy, ptrTo, Qz, QA, QB, QC, QD, QE, QF, QG, QH, QI, QJ, QK, QL, QM, QN, QO, QP, QQ, QR, QS, QT, QU, QV, QW, QX, QY, QZ, Ja, Jb, Jc, Jd, Je, Jf, Jg, Jh, Ji, Jj, Jk, Jl, Jm, Jn, Jo, Jp, Jq, Jr, Js, Jt, Nat.reduceAdd])
      rw [amakeMap_e, oRes_e]
      have e9 := Mem.gt_push m8 ⟨0, [], some []⟩
      have hmp : (m8.push ⟨0, [], some []⟩).rd m8.next = some ⟨0, [], some (entsI .i64 (entN []))⟩ := Mem.rd_push _ _
      have n9 : (m8.push ⟨0, [], some []⟩).next = m8.next + 1 := Mem.push_next _ _
      generalize m8.push ⟨0, [], some []⟩ = m9 at e9 hmp n9 ⊢
      obtain ⟨bl, hbl2⟩ : ∃ bl, bl = bdT (mayB l) N := ⟨_, rfl⟩
      have hblt : ∀ b ∈ bl, b < 2 ^ N := fun b hb2 => by rw [hbl2] at hb2; exact List.mem_range.1 (List.mem_filter.1 hb2).1
      rw [← hbl2] at hb st3' st4' hbl ⊢
      have hblen : bl.length ≤ 64 := by rw [← hbl2] at st2'; omega
      obtain ⟨ks, hks⟩ : ∃ ks, ks = bl.map fun b => (lack (hitl l) b).getD 0 0 := ⟨_, rfl⟩
      rw [← hks] at st4'
      have hkl : ks.length = bl.length := by rw [hks, List.length_map]
      have E8 : Gt m m8 := (E7.trans eS).trans e8
      have hb8 := (hb.mono eS).mono e8
      have k8 := (k7.mono eS).mono e8
      refine loop_up bl.length (fun i vs mC => vs = [.int .i64 (i : Int)] ∧ Gt m8 mC ∧ mC.rd m8.next = some ⟨0, [], some (entsI .i64 (entN (ks.take i)))⟩) (by omega) ⟨rfl, e9, by rw [List.take_zero]; exact hmp⟩ ?_
      rintro i vs mC hi3 ⟨rfl, eC, hmC⟩ selfC hselfC
      have nC := eC.next
      have hmCl := Mem.rd_lt hmC
      rw [uc_e, oInt_lss]
      refine oIf_dec (fun hc3 => ?_) (fun hc3 => ?_)
      · have hil : i < bl.length := by omega
        have hik : i < ks.length := by omega
        have hbC := hb8.mono eC
        have hqC := hq8.mono eC
        have hbi := hblt _ (List.getElem_mem hil)
        have hone := st3' _ (List.getElem_mem hil)
        have hki : ks[i] = (lack (hitl l) bl[i]).getD 0 0 := by
          have : ks[i]? = some ((lack (hitl l) bl[i]).getD 0 0) := by rw [hks, List.getElem?_map, List.getElem?_eq_getElem hil]; rfl
          rw [List.getElem?_eq_getElem hik] at this
          exact Option.some.inj this
        have hnin : ks[i] ∉ ks.take i := fun hm => by
          obtain ⟨j, hj, he⟩ := List.getElem_of_mem hm
          rw [List.length_take] at hj
          rw [List.getElem_take] at he
          exact (List.pairwise_iff_getElem.1 st4') j i (by omega) hik (by omega) he
        have hrdP2 : rdn (mC.rd m5.next) 0 2 = some (Vit.hg (N : Int) (.slice q5 (hitl l).length d5)) := by rw [hqC.rd]; kernel_rfl
        rw [hbC.ia hil, oOpt_e, hbC.ld hil, oOpt_e, hrdP2, oOpt_e]
        refine lacks1_sp (n := n + 1) (l := ci (hitl l)) hlf (by omega) (k8.mono eC) fun ul mD eD hul => ?_
        have nD := eD.next
        rw [errG_ci hN1 hN6 len2 hlt1 hbi]
        rw [lackX_ci hN1 hN6 len2 hlt1 hbi] at hul
        have h00 : 0 < (lack (hitl l) bl[i]).length := by omega
        have hlu : ln ul = some (.int .i64 ((lack (hitl l) bl[i]).length : Int)) := by have := IL.ln hul; rwa [ci_length] at this
        have hl1 : decide (((lack (hitl l) bl[i]).length : Int) = 1) = true := decide_eq_true (by omega)
        have hia0 := hul.ia h00
        have hld0 := hul.ld h00
        have hk0 : (lack (hitl l) bl[i])[0] = ks[i] := by
          rw [hki, List.getD_eq_getElem?_getD, List.getElem?_eq_getElem h00]; rfl
        rw [hk0] at hld0
        have hmD := (eD.kept m8.next hmCl).trans hmC
        have hlook := lookN hmD hnin
        have hia0' : ia 1 ul (.int .i64 0) = some (ep 1 ul 0) := hia0
        try simp (disch := first | omega | with_unfolding_all exact id rfl | with_unfolding_all exact Nat.le_of_ble_eq_true rfl | (simp only [Jd, Je, Jr, Js, Jt, Nat.reduceAdd, allOne, oneCell, Bool.and_self, Jc]; first | done | omega)) only [hlu, hl1, hia0', hld0, hlook, neqb, ↓Qa, ↓Qb, Qd, Qe, Qf, Qg, Qh, Qi, Qj, Qk, Ql, Qm, Qn, Qo, Qp, Qq, Qr, Qs, Qt, Qu, Qv, Qw, Qx, Qy, ptrTo, Qz, QA, QB, QC, QD, QE, QF, QG, QH, QI, QJ, QK, QL, QM, QN, QO, QP, QQ, QR, QS, QT, QU, QV, QW, QX, QY, QZ, Ja, Jb, Jc, Jd, Je, Jf, Jg, Jh, Ji, Jj, Jk, Jl, Jm, Jn, Jo, Jp, Jq, Jr, Js, Jt, Nat.reduceAdd]
        repeat (rw [join_e]; try simp (disch := first | omega | with_unfolding_all exact id rfl | with_unfolding_all exact Nat.le_of_ble_eq_true rfl | (simp only [Jd, Je, Jr, Js, Jt, Nat.reduceAdd, allOne, oneCell, Bool.and_self, Jc]; first | done | omega)) only [hlu, hl1, hia0', hld0, hlook, neqb, ↓Qa, ↓Qb, Qd, Qe, Qf, Qg, Qh, Qi, Qj, Qk, Ql, Qm, Qn, Qo, Qp, Qq, Qr, Qs, Qt, Qu, Qv, Qw, Qx, Qy, ptrTo, Qz, QA, QB, QC, QD, QE, QF, QG, QH, QI, QJ, QK, QL, QM, QN, QO, QP, QQ, QR, QS, QT, QU, QV, QW, QX, QY, QZ, Ja, Jb, Jc, Jd, Je, Jf, Jg, Jh, Ji, Jj, Jk, Jl, Jm, Jn, Jo, Jp, Jq, Jr, Js, Jt, Nat.reduceAdd])
        rw [updN (by omega) hmD hnin, oRes_e, oInt_add ⟨by omega, by omega⟩]
        refine hselfC hil _ _ ⟨rfl, Mem.put_gt (eC.trans eD) _ (Nat.le_refl _), ?_⟩
        rw [List.take_add_one, List.getElem?_eq_getElem hik]
        exact Mem.rd_put_eq _ _ (by omega)
      · refine works_sp (hT.mono (E8.trans eC)) ?_
        try simp (maxSteps := 4000000) (disch := first | omega | with_unfolding_all exact id rfl | with_unfolding_all exact Nat.le_of_ble_eq_true rfl | (simp only [Jd, Je, Jr, Js, Jt, Nat.reduceAdd, allOne, oneCell, Bool.and_self, Jc]; first | done | omega)) only [↓Qa, ↓Qb, Qd, Qe, Qf, Qg, Qh, Qi, Qj, Qk, Ql, Qm, Qn, Qo, Qp, Qq, Qr, Qs, Qt, Qu, Qv, Qw, Qx, Qy, ptrTo, Qz, QA, QB, QC, QD, QE, QF, QG, QH, QI, QJ, QK, QL, QM, QN, QO, QP, QQ, QR, QS, QT, QU, QV, QW, QX, QY, QZ, Ja, Jb, Jc, Jd, Je, Jf, Jg, Jh, Ji, Jj, Jk, Jl, Jm, Jn, Jo, Jp, Jq, Jr, Js, Jt, Nat.reduceAdd]
        repeat (rw [join_e]; try simp (maxSteps := 4000000) (disch := first | omega | with_unfolding_all exact id rfl | with_unfolding_all exact Nat.le_of_ble_eq_true rfl | (simp only [Jd, Je, Jr, Js, Jt, Nat.reduceAdd, allOne, oneCell, Bool.and_self, Jc]; first | done | omega)) only [↓Qa, ↓Qb, Qd, Qe, Qf, Qg, Qh, Qi, Qj, Qk, Ql, Qm, Qn, Qo, Qp, Qq, Qr, Qs, Qt, Qu, Qv, Qw, Qx, Qy, ptrTo, Qz, QA, QB, QC, QD, QE, QF, QG, QH, QI, QJ, QK, QL, QM, QN, QO, QP, QQ, QR, QS, QT, QU, QV, QW, QX, QY, QZ, Ja, Jb, Jc, Jd, Je, Jf, Jg, Jh, Ji, Jj, Jk, Jl, Jm, Jn, Jo, Jp, Jq, Jr, Js, Jt, Nat.reduceAdd])
        exact hk _ (E8.trans eC)
end
end Go.Vit
