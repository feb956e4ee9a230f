/- Walks: the reference's counts, by multiplicities. -/
import Derived.Test.YtnmmjbclidbdbaaDoorW16
import Derived.Test.YtnmmjbclidbdbaaDoorP5
set_option linter.unusedSimpArgs false
set_option linter.unusedVariables false
set_option maxRecDepth 20000
namespace Go.Vit
open Go Go.Proofs
attribute [local irreducible] runT loopS
theorem aapp_no0 {L b : Nat} {m : Mem} {x : Value} {ds : List Value} (hx : asrc m 1 x = some (0, ds)) : aappend Tryd.prog L m 22 (slTo0 0 b) x = some (slTo0 0 b, m) := by
  unfold aappend slTo0
  rw [ael22]
  simp only [hx, ble_t (Nat.le_refl 0)]
section
variable {lf n L : Nat} {m : Mem} {k : Value → Mem → Option Unit}
theorem choose_sp {a b : Nat} (hlf : 1000000 ≤ lf) (ha : a ≤ 8) (hb : b ≤ a) (hk : k (.int .i64 (bino a b : Int)) m = some ()) : runT (tab lf) (n + 1) 91 [.int .i64 (a : Int), .int .i64 (b : Int)] L m k = some () := by
  rw [r91]; dsimp only [S91, iofNat, inegSucc]
  rw [uc_e, uc_e, un0_e]
  refine loop_up b (fun i vs m' => vs = [.int .i64 (chI a i : Int), .int .i64 (i : Int)] ∧ m' = m) (by omega) ⟨rfl, rfl⟩ ?_
  rintro i vs m' hi ⟨rfl, rfl⟩ self hself
  have h1 := chI_e ha (show i ≤ a by omega)
  rw [uc_e, uc_e, oInt_lss]
  refine oIf_dec (fun hc => ?_) (fun hc => ?_)
  · have hib : i < b := by omega
    have h2 : chI a i * (a - i) ≤ chI a i * 8 := Nat.mul_le_mul_left _ (by omega)
    have h3 : ((chI a (i + 1) : Nat) : Int) = ((chI a i * (a - i) : Nat) : Int) / ((i + 1 : Nat) : Int) := Int.natCast_ediv _ _
    rw [oInt_sub ⟨by omega, by omega⟩, show (a : Int) - (i : Int) = ((a - i : Nat) : Int) by omega, oInt_mul (by rw [← Int.natCast_mul]; exact ⟨by omega, by omega⟩), ← Int.natCast_mul, oInt_add ⟨by omega, by omega⟩, oInt_quo (by omega) (by omega) (by omega), oInt_add ⟨by omega, by omega⟩]
    exact hself hib _ _ ⟨by rw [h3]; rfl, rfl⟩
  · have : i = b := by omega
    subst this
    rw [← h1.1] at hk
    exact hk
theorem endings_sp {N : Nat} {v : Value} {w : List Nat} (hlf : 1000000 ≤ lf) (hN : N ≤ 8) (hwl : w.length < 1000) : ∀ (b : Nat) {n L : Nat} {m : Mem} {q j : Nat} {k : Value → Mem → Option Unit}, b ≤ N → q ≤ 8 → j ≤ 8 → IN m v w →
    k (.int .i64 (endN N (cntE w) b q j : Int)) m = some () → runT (tab lf) (n + b + 2) 83 [.int .i64 (N : Int), v, .int .i64 ((b : Int) - 1), .int .i64 (q : Int), .int .i64 (j : Int)] L m k = some () := by
  intro b
  induction b with
  | zero =>
    intro n L m q j k hb hq hj hv hk
    rw [show n + 0 + 2 = (n + 1) + 1 by omega, r83]; dsimp only [S83, iofNat, inegSucc]
    rw [uc_e, uc_e, uc_e, uc_e, uc_e, un0_e, oInt_lss, decide_eq_true (by omega), oIf_t, oInt_gtr]
    have he : endN N (cntE w) 0 q j = if j = 0 then 1 else 0 := rfl
    rw [he] at hk
    refine oIf_dec (fun hc => ?_) (fun hc => ?_)
    · rw [if_neg (by omega)] at hk; exact hk
    · rw [if_pos (by omega)] at hk; exact hk
  | succ b ih =>
    intro n L m q j k hb hq hj hv hk
    rw [show n + (b + 1) + 2 = (n + b + 2) + 1 by omega, r83]; dsimp only [S83, iofNat, inegSucc]
    rw [uc_e, uc_e, uc_e, uc_e, uc_e, un0_e, show ((b + 1 : Nat) : Int) - 1 = (b : Int) by omega, oInt_lss, decide_eq_false (by omega), oIf_f]
    refine loop_up w.length (fun i vs m' => vs = [.int .i64 (cntE (w.take i) b : Int), .int .i64 (i : Int)] ∧ m' = m) (by omega) ⟨rfl, rfl⟩ ?_
    rintro i vs m' hi ⟨rfl, rfl⟩ self hself
    have hcl : ∀ i, cntE (w.take i) b ≤ w.length := fun i => by
      unfold cntE
      exact Nat.le_trans List.count_le_length (by rw [List.length_take]; omega)
    have hci := hcl i
    rw [uc_e, uc_e, hv.ln, oOpt_e, oInt_lss]
    refine oIf_dec (fun hc => ?_) (fun hc => ?_)
    · have hil : i < w.length := by omega
      rw [hv.ia hil, oOpt_e, hv.ld hil, oOpt_e, oInt_eql, join_e]
      rw [take_snoc hil, cntE_snoc] at hself
      unfold bump at hself
      refine oIf_dec (fun h2 => ?_) (fun h2 => ?_)
      · rw [if_pos (by omega)] at hself
        rw [oInt_add ⟨by omega, by omega⟩]
        dsimp only
        rw [uc_e, oInt_add ⟨by omega, by omega⟩]
        exact hself hil _ _ ⟨rfl, rfl⟩
      · rw [if_neg (by omega)] at hself
        dsimp only
        rw [uc_e, oInt_add ⟨by omega, by omega⟩]
        exact hself hil _ _ ⟨rfl, rfl⟩
    · have hiw : i = w.length := by omega
      clear hself
      subst hiw
      rw [List.take_length] at hci ⊢
      have hle := Nat.le_trans (endN_le (N := N) (b + 1) q j (cntE w)) (Nat.le_trans (Nat.pow_le_pow_left (show b + 1 ≤ 8 by omega) j) (Nat.pow_le_pow_right (by omega) hj))
      rw [endN_s] at hle hk
      obtain ⟨f, hf⟩ : ∃ f : Nat → Nat, f = fun i => if q + cntE w b + i ≤ N - b then bino j i * endN N (cntE w) b (q + cntE w b + i) (j - i) else 0 := ⟨_, rfl⟩
      rw [← hf] at hk hle
      have h88 : (8 : Nat) ^ 8 = 16777216 := by decide
      rw [h88] at hle
      refine loop_up (j + 1) (fun i vs m2 => vs = [.int .i64 (sumC f i : Int), .int .i64 (i : Int)] ∧ m2 = m') (by omega) ⟨rfl, rfl⟩ ?_
      rintro i vs m2 hi2 ⟨rfl, rfl⟩ self hself
      have hsi := Nat.le_trans (sumC_mono f hi2) hle
      rw [uc_e, uc_e, oInt_leq]
      refine oIf_dec (fun h2 => ?_) (fun h2 => ?_)
      · have hij : i ≤ j := by omega
        have hss := Nat.le_trans (sumC_mono f (show i + 1 ≤ j + 1 by omega)) hle
        rw [sumC_s] at hss
        rw [oInt_add ⟨by omega, by omega⟩, oInt_add ⟨by omega, by omega⟩, oInt_sub ⟨by omega, by omega⟩, oInt_leq, join_e]
        refine oIf_dec (fun h3 => ?_) (fun h3 => ?_)
        · have h4 : q + cntE w b + i ≤ N - b := by omega
          have hfi : f i = bino j i * endN N (cntE w) b (q + cntE w b + i) (j - i) := by rw [hf]; exact if_pos h4
          refine choose_sp (n := n + b + 1) hlf hj hij ?_
          rw [oInt_sub ⟨by omega, by omega⟩, oInt_add ⟨by omega, by omega⟩, oInt_add ⟨by omega, by omega⟩, oInt_sub ⟨by omega, by omega⟩, show (q : Int) + (cntE w b : Int) + (i : Int) = ((q + cntE w b + i : Nat) : Int) by omega, show (j : Int) - (i : Int) = ((j - i : Nat) : Int) by omega]
          refine ih (by omega) (by omega) (by omega) hv ?_
          rw [oInt_mul (by rw [← Int.natCast_mul, ← hfi]; exact ⟨by omega, by omega⟩), ← Int.natCast_mul, ← hfi, oInt_add ⟨by omega, by omega⟩]
          dsimp only
          rw [uc_e, oInt_add ⟨by omega, by omega⟩]
          exact hself (by omega) _ _ ⟨by rw [sumC_s]; rfl, rfl⟩
        · have h4 : ¬ q + cntE w b + i ≤ N - b := by omega
          have hfi : f i = 0 := by rw [hf]; exact if_neg h4
          dsimp only
          rw [uc_e, oInt_add ⟨by omega, by omega⟩]
          exact hself (by omega) _ _ ⟨by rw [sumC_s, hfi]; rfl, rfl⟩
      · have hij : i = j + 1 := by omega
        subst hij
        exact hk
theorem rcnt_sp {N j : Nat} {v : Value} {w : List Nat} (hlf : 1000000 ≤ lf) (hN : N ≤ 8) (hwl : w.length < 1000) (hj : j ≤ 8) (hv : IN m v w) (hk : k (.int .i64 (endN N (cntE w) N 0 j : Int)) m = some ()) :
    runT (tab lf) (n + 11) 71 [.int .i64 (N : Int), v, .int .i64 (j : Int)] L m k = some () := by
  rw [r71]; dsimp only [S71, iofNat, inegSucc]
  rw [uc_e, uc_e, uc_e, un0_e, oInt_sub ⟨by omega, by omega⟩, show n + 10 = (n + 8 - N) + N + 2 by omega]
  exact endings_sp (q := 0) hlf hN hwl N (Nat.le_refl _) (by omega) hj hv hk
theorem cnt0 {N j : Nat} (hN : N ≤ 8) : endN N (cntE []) N 0 j = cntW N j 0 := by
  rw [endN_cnt hN j (w := []) (T := 0) (fun x hx => by cases hx) (BitsOf.nil N), if_pos (by simp [parkL, parkA])]
theorem rcount_sp {b c : Int} (hlf : 1000000 ≤ lf) (hk : k (.tuple ⟨[.int .i64 (cX b c), .int .i64 (cE b c)]⟩) m = some ()) :
    runT (tab lf) (n + 12) 34 [.int .i64 b, .int .i64 c] L m k = some () := by
  rw [r34]; dsimp only [S34, iofNat, inegSucc]
  unfold cX cE at hk
  try simp (disch := first | omega | with_unfolding_all exact id rfl | with_unfolding_all exact Nat.le_of_ble_eq_true rfl | (simp only [Jd, Je, Jr, Js, Jt, Nat.reduceAdd, allOne, oneCell, Bool.and_self, Jc]; first | done | omega)) only [↓Qa, ↓Qb, ↓Qc, Qd, Qe, Qf, Qg, Qh, Qi, Qj, Qk, Ql, Qm, Qn, Qo, Qp, Qq, Qr, Qs, Qt, Qu, Qv, Qw, Qx, Qy, ptrTo, Qz, QA, QB, QC, QD, QE, QF, QG, QH, QI, QJ, QK, QL, QM, QN, QO, QP, QQ, QR, QS, QT, QU, QV, QW, QX, QY, QZ, Ja, Jb, Jc, Jd, Je, Jf, Jg, Jh, Ji, Jj, Jk, Jl, Jm, Jn, Jo, Jp, Jq, Jr, Js, Jt, Nat.reduceAdd]
  refine in_sp b 1 8 ?_
  by_cases h1 : inI b 1 8
  · try simp (disch := first | omega | with_unfolding_all exact id rfl | with_unfolding_all exact Nat.le_of_ble_eq_true rfl | (simp only [Jd, Je, Jr, Js, Jt, Nat.reduceAdd, allOne, oneCell, Bool.and_self, Jc]; first | done | omega)) only [decide_eq_true h1, ↓Qa, ↓Qb, Qd, Qe, Qf, Qg, Qh, Qi, Qj, Qk, Ql, Qm, Qn, Qo, Qp, Qq, Qr, Qs, Qt, Qu, Qv, Qw, Qx, Qy, ptrTo, Qz, QA, QB, QC, QD, QE, QF, QG, QH, QI, QJ, QK, QL, QM, QN, QO, QP, QQ, QR, QS, QT, QU, QV, QW, QX, QY, QZ, Ja, Jb, Jc, Jd, Je, Jf, Jg, Jh, Ji, Jj, Jk, Jl, Jm, Jn, Jo, Jp, Jq, Jr, Js, Jt, Nat.reduceAdd]
    repeat (rw [join_e]; try simp (disch := first | omega | with_unfolding_all exact id rfl | with_unfolding_all exact Nat.le_of_ble_eq_true rfl | (simp only [Jd, Je, Jr, Js, Jt, Nat.reduceAdd, allOne, oneCell, Bool.and_self, Jc]; first | done | omega)) only [decide_eq_true h1, ↓Qa, ↓Qb, Qd, Qe, Qf, Qg, Qh, Qi, Qj, Qk, Ql, Qm, Qn, Qo, Qp, Qq, Qr, Qs, Qt, Qu, Qv, Qw, Qx, Qy, ptrTo, Qz, QA, QB, QC, QD, QE, QF, QG, QH, QI, QJ, QK, QL, QM, QN, QO, QP, QQ, QR, QS, QT, QU, QV, QW, QX, QY, QZ, Ja, Jb, Jc, Jd, Je, Jf, Jg, Jh, Ji, Jj, Jk, Jl, Jm, Jn, Jo, Jp, Jq, Jr, Js, Jt, Nat.reduceAdd])
    refine in_sp c 0 b ?_
    by_cases h2 : inI c 0 b
    · have hok : cOk b c := ⟨h1, h2⟩
      simp only [if_pos hok] at hk
      obtain ⟨N, rfl⟩ : ∃ N : Nat, b = N := ⟨b.toNat, by have := h1.1; omega⟩
      obtain ⟨j, rfl⟩ : ∃ j : Nat, c = j := ⟨c.toNat, by have := h2.1; omega⟩
      have hj8 : j ≤ 8 := by have := h1.2; have := h2.2; omega
      have hN8 : N ≤ 8 := by have := h1.2; omega
      rw [Int.toNat_natCast, Int.toNat_natCast, ← cnt0 hN8] at hk
      try simp (disch := first | omega | with_unfolding_all exact id rfl | with_unfolding_all exact Nat.le_of_ble_eq_true rfl | (simp only [Jd, Je, Jr, Js, Jt, Nat.reduceAdd, allOne, oneCell, Bool.and_self, Jc]; first | done | omega)) only [decide_eq_true h2, ↓Qa, ↓Qb, Qd, Qe, Qf, Qg, Qh, Qi, Qj, Qk, Ql, Qm, Qn, Qo, Qp, Qq, Qr, Qs, Qt, Qu, Qv, Qw, Qx, Qy, ptrTo, Qz, QA, QB, QC, QD, QE, QF, QG, QH, QI, QJ, QK, QL, QM, QN, QO, QP, QQ, QR, QS, QT, QU, QV, QW, QX, QY, QZ, Ja, Jb, Jc, Jd, Je, Jf, Jg, Jh, Ji, Jj, Jk, Jl, Jm, Jn, Jo, Jp, Jq, Jr, Js, Jt, Nat.reduceAdd]
      exact rcnt_sp (w := []) hlf hN8 (by decide) hj8 (GN.nil 0 m).inn hk
    · have hok : ¬ cOk b c := fun h => h2 h.2
      simp only [if_neg hok] at hk
      try simp (disch := first | omega | with_unfolding_all exact id rfl | with_unfolding_all exact Nat.le_of_ble_eq_true rfl | (simp only [Jd, Je, Jr, Js, Jt, Nat.reduceAdd, allOne, oneCell, Bool.and_self, Jc]; first | done | omega)) only [decide_eq_false h2, ↓Qa, ↓Qb, Qd, Qe, Qf, Qg, Qh, Qi, Qj, Qk, Ql, Qm, Qn, Qo, Qp, Qq, Qr, Qs, Qt, Qu, Qv, Qw, Qx, Qy, ptrTo, Qz, QA, QB, QC, QD, QE, QF, QG, QH, QI, QJ, QK, QL, QM, QN, QO, QP, QQ, QR, QS, QT, QU, QV, QW, QX, QY, QZ, Ja, Jb, Jc, Jd, Je, Jf, Jg, Jh, Ji, Jj, Jk, Jl, Jm, Jn, Jo, Jp, Jq, Jr, Js, Jt, Nat.reduceAdd]
      exact hk
  · have hok : ¬ cOk b c := fun h => h1 h.1
    simp only [if_neg hok] at hk
    try simp (disch := first | omega | with_unfolding_all exact id rfl | with_unfolding_all exact Nat.le_of_ble_eq_true rfl | (simp only [Jd, Je, Jr, Js, Jt, Nat.reduceAdd, allOne, oneCell, Bool.and_self, Jc]; first | done | omega)) only [decide_eq_false h1, ↓Qa, ↓Qb, Qd, Qe, Qf, Qg, Qh, Qi, Qj, Qk, Ql, Qm, Qn, Qo, Qp, Qq, Qr, Qs, Qt, Qu, Qv, Qw, Qx, Qy, ptrTo, Qz, QA, QB, QC, QD, QE, QF, QG, QH, QI, QJ, QK, QL, QM, QN, QO, QP, QQ, QR, QS, QT, QU, QV, QW, QX, QY, QZ, Ja, Jb, Jc, Jd, Je, Jf, Jg, Jh, Ji, Jj, Jk, Jl, Jm, Jn, Jo, Jp, Jq, Jr, Js, Jt, Nat.reduceAdd]
    repeat (rw [join_e]; try simp (disch := first | omega | with_unfolding_all exact id rfl | with_unfolding_all exact Nat.le_of_ble_eq_true rfl | (simp only [Jd, Je, Jr, Js, Jt, Nat.reduceAdd, allOne, oneCell, Bool.and_self, Jc]; first | done | omega)) only [decide_eq_false h1, ↓Qa, ↓Qb, Qd, Qe, Qf, Qg, Qh, Qi, Qj, Qk, Ql, Qm, Qn, Qo, Qp, Qq, Qr, Qs, Qt, Qu, Qv, Qw, Qx, Qy, ptrTo, Qz, QA, QB, QC, QD, QE, QF, QG, QH, QI, QJ, QK, QL, QM, QN, QO, QP, QQ, QR, QS, QT, QU, QV, QW, QX, QY, QZ, Ja, Jb, Jc, Jd, Je, Jf, Jg, Jh, Ji, Jj, Jk, Jl, Jm, Jn, Jo, Jp, Jq, Jr, Js, Jt, Nat.reduceAdd])
    exact hk
/-- A list, copied, and a number more. -/
theorem app2 {u : Value} {w : List Nat} {x : Nat} (hL : L ≤ m.next) (hu : IN m u w) (hwl : w.length < 1000) (hk : ∀ z m', Gt m m' → IN m' z (w ++ [x]) → k z m' = some ()) :
    (oRes (aappend Tryd.prog L (m.push ⟨1, [], none⟩) 22 (slTo0 0 m.next) u) fun t42 m43 => oRes (bs Tryd.prog m43 22 1 [(0, .int .i64 (x : Int))]) fun t44 m45 => oRes (aappend Tryd.prog L m45 22 t42 t44) k) = some () := by
  have e1 := Mem.gt_push m ⟨1, [], none⟩
  have q1 : (m.push ⟨1, [], none⟩).rd m.next = some ⟨1, [], none⟩ := Mem.rd_push _ _
  have n1 : (m.push ⟨1, [], none⟩).next = m.next + 1 := Mem.push_next _ _
  have hu1 : IL (m.push ⟨1, [], none⟩) u (ci w) := hu.mono e1
  generalize m.push ⟨1, [], none⟩ = m1 at e1 q1 n1 hu1 ⊢
  by_cases h0 : w = []
  · subst h0
    rw [aapp_no0 hu1.1, oRes_e, bs22, oRes_e]
    have e2 := Mem.gt_push m1 ⟨1, [.int .i64 (x : Int)], none⟩
    have q2 : (m1.push ⟨1, [.int .i64 (x : Int)], none⟩).rd m.next = some ⟨1, [], none⟩ := (e2.kept _ (by omega)).trans q1
    have hs : GL m1.next (m1.push ⟨1, [.int .i64 (x : Int)], none⟩) (slTo 1 m1.next) [(x : Int)] := gl_new (l := [(x : Int)]) Nat.zero_lt_one (Nat.le_refl _)
    generalize m1.push ⟨1, [.int .i64 (x : Int)], none⟩ = m2 at e2 q2 hs ⊢
    rw [app_e0 (l := [(x : Int)]) q2 hs.il Nat.zero_lt_one (by show 1 < 1000000; omega), oRes_e]
    exact hk _ _ ((e1.trans e2).trans (Mem.gt_push _ _)) (gl_new (L := 0) (l := [(x : Int)]) Nat.zero_lt_one (Nat.zero_le _)).il
  · have hpos : 0 < w.length := List.length_pos_iff.2 h0
    have hcl := ci_length w
    rw [app_e0 q1 hu1 (by omega) (by omega), oRes_e]
    have e2 := Mem.gt_push m1 ⟨1, (ci w).map (Value.int .i64), none⟩
    have hg : GN m1.next (m1.push ⟨1, (ci w).map (Value.int .i64), none⟩) (slTo (ci w).length m1.next) w := gl_new (by omega) (Nat.le_refl _)
    generalize m1.push ⟨1, (ci w).map (Value.int .i64), none⟩ = m2 at e2 hg ⊢
    rw [bs22, oRes_e]
    obtain ⟨z, m3, h3, h4, h5, h6⟩ := GN.snoc (P := Tryd.prog) (L := L) (m0 := m1) x ael22 (by omega) hg (by omega) (by omega) e2 (Nat.le_refl _)
    rw [h3, oRes_e]
    exact hk _ _ (e1.trans h5) h4.inn
theorem rnumber_sp {N : Int} {v : Value} {l : List Int} (hlf : 1000000 ≤ lf) (hL : L ≤ m.next) (hv : IL m v l) (ho : Opn v) (hl : l.length < 1000)
    (hk : ∀ m', Gt m m' → k (.tuple ⟨[.int .i64 (nmX N l), .int .i64 (nmE N l)]⟩) m' = some ()) :
    runT (tab lf) (n + 20) 38 [.int .i64 N, v] L m k = some () := by
  rw [r38]; dsimp only [S38, iofNat, inegSucc]
  rw [uc_e, uc_e, un0_e]
  refine rcheck_sp hlf hv (by omega) ?_
  rw [oInt_eql]
  rw [join_e]
  by_cases h : chkD N (N - 1) l = 0
  · obtain ⟨a, w, rfl, rfl, ha1, ha8, hwl, hw⟩ := chkD_ok h
    rw [decide_eq_true h, oGT_t]
    refine rserves_sp (n := n + 15) hlf hL ha8 hwl hw hv fun m1 e1 => ?_
    have n1 := e1.next
    have hsv : svX (a : Int) (ci w) = decide (-1 ∉ parkL a w) := by
      unfold svX
      rw [pkX_yes h, h]; simp
    have hk2 : ∀ m', Gt m m' → k (.tuple ⟨[.int .i64 (if (-1 : Int) ∉ parkL a w then (numD a w 0 : Int) else 0), .int .i64 (if (-1 : Int) ∉ parkL a w then 0 else 14)]⟩) m' = some () := fun m' e' => by
      have := hk m' e'
      unfold nmX nmE at this
      rw [if_pos h, if_pos h, hsv, Int.toNat_natCast, nnl_ci] at this
      simpa using this
    clear hk
    rw [h]
    by_cases hs : (-1 : Int) ∉ parkL a w
    · simp only [if_pos hs] at hk2
      rw [decide_eq_true hs]
      try simp (disch := first | omega | with_unfolding_all exact id rfl | with_unfolding_all exact Nat.le_of_ble_eq_true rfl | (simp only [Jd, Je, Jr, Js, Jt, Nat.reduceAdd, allOne, oneCell, Bool.and_self, Jc]; first | done | omega)) only [↓Qa, ↓Qb, Qd, Qe, Qf, Qg, Qh, Qi, Qj, Qk, Ql, Qm, Qn, Qo, Qp, Qq, Qr, Qs, Qt, Qu, Qv, Qw, Qx, Qy, ptrTo, Qz, QA, QB, QC, QD, QE, QF, QG, QH, QI, QJ, QK, QL, QM, QN, QO, QP, QQ, QR, QS, QT, QU, QV, QW, QX, QY, QZ, Ja, Jb, Jc, Jd, Je, Jf, Jg, Jh, Ji, Jj, Jk, Jl, Jm, Jn, Jo, Jp, Jq, Jr, Js, Jt, Nat.reduceAdd]
      repeat (rw [join_e]; try simp (disch := first | omega | with_unfolding_all exact id rfl | with_unfolding_all exact Nat.le_of_ble_eq_true rfl | (simp only [Jd, Je, Jr, Js, Jt, Nat.reduceAdd, allOne, oneCell, Bool.and_self, Jc]; first | done | omega)) only [↓Qa, ↓Qb, Qd, Qe, Qf, Qg, Qh, Qi, Qj, Qk, Ql, Qm, Qn, Qo, Qp, Qq, Qr, Qs, Qt, Qu, Qv, Qw, Qx, Qy, ptrTo, Qz, QA, QB, QC, QD, QE, QF, QG, QH, QI, QJ, QK, QL, QM, QN, QO, QP, QQ, QR, QS, QT, QU, QV, QW, QX, QY, QZ, Ja, Jb, Jc, Jd, Je, Jf, Jg, Jh, Ji, Jj, Jk, Jl, Jm, Jn, Jo, Jp, Jq, Jr, Js, Jt, Nat.reduceAdd])
      have E1 : ∀ {m'}, Gt m1 m' → Gt m m' := fun e => e1.trans e
      have hvw : ∀ {m'}, Gt m m' → IN m' v w := fun e => IL.mono hv e
      have hbd := numD_bd ha8 w 0 hw (by omega)
      have h87 : w.length * (8 * 64 ^ 7) ≤ 8 * (8 * 4398046511104) := Nat.mul_le_mul (by omega) (by decide)
      refine loop_up w.length (fun i vs m' => ∃ T out : Nat, vs = [.int .i64 (out : Int), .int .i64 (i : Int)] ∧ BitsOf a T (parkL a (w.take i)) ∧ Gt m m' ∧ out + numD a (w.drop i) T = numD a w 0) (by omega)
        ⟨0, 0, rfl, BitsOf.nil a, e1, by rw [List.drop_zero, Nat.zero_add]⟩ ?_
      rintro i vs m2 hi ⟨T, out, rfl, hB, e2, hsum⟩ self hself
      have n2 := e2.next
      rw [uc_e, uc_e, (hvw e2).ln, oOpt_e, oInt_lss]
      refine oIf_dec (fun hc => ?_) (fun hc => ?_)
      · have hil : i < w.length := by omega
        have hwi := hw _ (List.getElem_mem hil)
        have hdr : w.drop i = w[i] :: w.drop (i + 1) := List.drop_eq_getElem_cons hil
        have hml : (w.drop (i + 1)).length = w.length - i - 1 := by rw [List.length_drop]; omega
        rw [hdr] at hsum
        have hsum : out + (sumC (gW a T (w.drop (i + 1)).length) w[i] + numD a (w.drop (i + 1)) (stepT a T w[i])) = numD a w 0 := hsum
        rw [hml] at hsum
        have hwt : ∀ x ∈ w.take i, x < a := fun x hx => hw x (List.mem_of_mem_take hx)
        have hsp : (-1 : Int) ∉ parkL a (w.take i) := fun h1 => by
          obtain ⟨r, hr⟩ := parkL_pre a w i
          exact hs (by rw [hr]; exact List.mem_append_left _ h1)
        refine loop_up w[i] (fun x vs m' => vs = [.int .i64 ((out + sumC (gW a T (w.length - i - 1)) x : Nat) : Int), .int .i64 (x : Int)] ∧ Gt m m') (by omega) ⟨rfl, e2⟩ ?_
        rintro x vs m3 hx ⟨rfl, e3⟩ self2 hself2
        have n3 := e3.next
        rw [uc_e, uc_e, (hvw e3).ia hil, oOpt_e, (hvw e3).ld hil, oOpt_e, oInt_lss]
        refine oIf_dec (fun hcx => ?_) (fun hcx => ?_)
        · have hxw : x < w[i] := by omega
          have hb1 := sumC_le (f := gW a T (w.length - i - 1)) (B := 64 ^ 7) x fun b _ => Nat.le_trans (gW_le ha8) (Nat.pow_le_pow_right (by omega) (by omega))
          have hb2 : x * 64 ^ 7 ≤ 8 * 4398046511104 := Nat.mul_le_mul (by omega) (by decide)
          have hb3 : gW a T (w.length - i - 1) x ≤ 4398046511104 := Nat.le_trans (gW_le ha8) (Nat.le_trans (Nat.pow_le_pow_right (by omega) (show w.length - i - 1 ≤ 7 by omega)) (by decide))
          obtain ⟨u, hsl, hou, hu⟩ := Opn.preI (P := Tryd.prog) u22 ts3 ho (hvw e3) (k := i) (by rw [ci_length]; omega) (by rw [ci_length]; omega)
          have htc : (ci w).take i = ci (w.take i) := by unfold ci; rw [List.map_take]
          rw [htc] at hu
          rw [bs220, oRes_e, hsl, oOpt_e]
          refine app2 (w := w.take i) (x := x) (by omega) hu (by rw [List.length_take]; omega) fun z m4 e4 hz => ?_
          have n4 := e4.next
          rw [oOpt_e, oInt_sub ⟨by omega, by omega⟩, oInt_sub ⟨by omega, by omega⟩, show (w.length : Int) - (i : Int) - 1 = ((w.length - i - 1 : Nat) : Int) by omega]
          refine rcnt_sp (n := n + 8) hlf ha8 (by rw [List.length_append, List.length_take]; simp; omega) (by omega) hz ?_
          rw [endN_gW ha8 hwt (by omega) hB hsp, oInt_add ⟨by omega, by omega⟩, oInt_add ⟨by omega, by omega⟩]
          exact hself2 hxw _ _ ⟨by rw [sumC_s, ← Nat.add_assoc]; rfl, e3.trans e4⟩
        · have hxw : x = w[i] := by omega
          subst hxw
          clear hself2
          rw [oInt_add ⟨by omega, by omega⟩]
          have hpt := parkL_take (n := a) hil
          rcases bayOf_cases a (parkL a (w.take i)) w[i] with ⟨h2, h3⟩ | ⟨c, h2, h3, h4, h5, h6⟩
          · exfalso
            rw [h2] at hpt
            obtain ⟨r, hr⟩ := parkL_pre a w (i + 1)
            exact hs (by rw [hr, hpt]; simp)
          · rw [h2] at hpt
            have hst3 : stepT a T w[i] = T ||| 2 ^ c := by unfold stepT; rw [hB.fb, h3]
            rw [hst3] at hsum
            exact hself hil _ _ ⟨T ||| 2 ^ c, _, rfl, by rw [hpt]; exact hB.put (by omega), e3, by omega⟩
      · have hiw : i = w.length := by omega
        subst hiw
        rw [List.drop_length] at hsum
        have hout : out = numD a w 0 := by have h9 : numD a [] T = 0 := rfl; omega
        have := hk2 m2 e2
        rw [← hout] at this
        exact this
    · simp only [if_neg hs] at hk2
      rw [decide_eq_false hs]
      try simp (disch := first | omega | with_unfolding_all exact id rfl | with_unfolding_all exact Nat.le_of_ble_eq_true rfl | (simp only [Jd, Je, Jr, Js, Jt, Nat.reduceAdd, allOne, oneCell, Bool.and_self, Jc]; first | done | omega)) only [↓Qa, ↓Qb, Qd, Qe, Qf, Qg, Qh, Qi, Qj, Qk, Ql, Qm, Qn, Qo, Qp, Qq, Qr, Qs, Qt, Qu, Qv, Qw, Qx, Qy, ptrTo, Qz, QA, QB, QC, QD, QE, QF, QG, QH, QI, QJ, QK, QL, QM, QN, QO, QP, QQ, QR, QS, QT, QU, QV, QW, QX, QY, QZ, Ja, Jb, Jc, Jd, Je, Jf, Jg, Jh, Ji, Jj, Jk, Jl, Jm, Jn, Jo, Jp, Jq, Jr, Js, Jt, Nat.reduceAdd]
      repeat (rw [join_e]; try simp (disch := first | omega | with_unfolding_all exact id rfl | with_unfolding_all exact Nat.le_of_ble_eq_true rfl | (simp only [Jd, Je, Jr, Js, Jt, Nat.reduceAdd, allOne, oneCell, Bool.and_self, Jc]; first | done | omega)) only [↓Qa, ↓Qb, Qd, Qe, Qf, Qg, Qh, Qi, Qj, Qk, Ql, Qm, Qn, Qo, Qp, Qq, Qr, Qs, Qt, Qu, Qv, Qw, Qx, Qy, ptrTo, Qz, QA, QB, QC, QD, QE, QF, QG, QH, QI, QJ, QK, QL, QM, QN, QO, QP, QQ, QR, QS, QT, QU, QV, QW, QX, QY, QZ, Ja, Jb, Jc, Jd, Je, Jf, Jg, Jh, Ji, Jj, Jk, Jl, Jm, Jn, Jo, Jp, Jq, Jr, Js, Jt, Nat.reduceAdd])
      exact hk2 m1 e1
  · have := hk m (Gt.refl _)
    unfold nmX nmE at this
    rw [if_neg h, if_neg h] at this
    rw [decide_eq_false h]
    try simp (disch := first | omega | with_unfolding_all exact id rfl | with_unfolding_all exact Nat.le_of_ble_eq_true rfl | (simp only [Jd, Je, Jr, Js, Jt, Nat.reduceAdd, allOne, oneCell, Bool.and_self, Jc]; first | done | omega)) only [decide_eq_false h, ↓Qa, ↓Qb, Qd, Qe, Qf, Qg, Qh, Qi, Qj, Qk, Ql, Qm, Qn, Qo, Qp, Qq, Qr, Qs, Qt, Qu, Qv, Qw, Qx, Qy, ptrTo, Qz, QA, QB, QC, QD, QE, QF, QG, QH, QI, QJ, QK, QL, QM, QN, QO, QP, QQ, QR, QS, QT, QU, QV, QW, QX, QY, QZ, Ja, Jb, Jc, Jd, Je, Jf, Jg, Jh, Ji, Jj, Jk, Jl, Jm, Jn, Jo, Jp, Jq, Jr, Js, Jt, Nat.reduceAdd]
    repeat (rw [join_e]; try simp (disch := first | omega | with_unfolding_all exact id rfl | with_unfolding_all exact Nat.le_of_ble_eq_true rfl | (simp only [Jd, Je, Jr, Js, Jt, Nat.reduceAdd, allOne, oneCell, Bool.and_self, Jc]; first | done | omega)) only [decide_eq_false h, ↓Qa, ↓Qb, Qd, Qe, Qf, Qg, Qh, Qi, Qj, Qk, Ql, Qm, Qn, Qo, Qp, Qq, Qr, Qs, Qt, Qu, Qv, Qw, Qx, Qy, ptrTo, Qz, QA, QB, QC, QD, QE, QF, QG, QH, QI, QJ, QK, QL, QM, QN, QO, QP, QQ, QR, QS, QT, QU, QV, QW, QX, QY, QZ, Ja, Jb, Jc, Jd, Je, Jf, Jg, Jh, Ji, Jj, Jk, Jl, Jm, Jn, Jo, Jp, Jq, Jr, Js, Jt, Nat.reduceAdd])
    exact this
end
end Go.Vit
