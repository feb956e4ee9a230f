/- Walks: the way from one blend to another one. -/
import Derived.Test.YtgimcgdehgbljaaW3
set_option linter.unusedSimpArgs false
set_option linter.unusedVariables false
set_option maxRecDepth 20000
namespace Go.Vit
open Go Go.Proofs
attribute [local irreducible] runT loopS
theorem in_full {m : Mem} {b n : Nat} {l : List Nat} (h : m.rd b = some ⟨1, (ci l).map (Value.int .i64), none⟩) (hl : l.length = n) : IN m (.slice (some ⟨b, 0, none⟩) n n) l := by
  have h1 : ((ci l).map (Value.int .i64)).length = n := by rw [List.length_map, ci_length, hl]
  have h2 := IL.of (x := none) (o := 0) (n := n) (c := n) h (by omega) (by rw [List.drop_zero, List.take_of_length_le (by omega)])
  exact h2
section
variable {lf n L : Nat} {m : Mem} {k : Value → Mem → Option Unit}
theorem way_sp {N kk : Nat} {v u : Value} {a b : List Nat} (hlf : 1000000 ≤ lf) (h1 : 1 ≤ N) (h10 : N ≤ 10) (hL : L ≤ m.next) (hv : IN m v a) (hu : IN m u b) (ha : Bl N kk a) (hb : Bl N kk b)
    (hk : ∀ w m', Gt m m' → LL m' w ((List.range (awayN a b + 1)).map (itr N b a)) → k (.tuple ⟨[w, .int .i64 0]⟩) m' = some ()) : runT (tab lf) (n + 4) 29 [.int .i64 (N : Int), v, u] L m k = some () := by
  have hkk := ha.le
  have l1 := ha.len
  have l2 := hb.len
  have hdk := (away_le ha hb).1
  rw [r29]; dsimp only [S29, iofNat, inegSucc]
  try simp (disch := first | omega | with_unfolding_all exact id rfl | with_unfolding_all exact Nat.le_of_ble_eq_true rfl | (simp only [Jd, Je, Jr, Js, Jt, Nat.reduceAdd, allOne, oneCell, Bool.and_self, Jc]; first | done | omega)) only [↓Qa, ↓Qb, ↓Qc, Qd, Qe, Qf, Qg, Qh, Qi, Qj, Qk, Ql, Qm, Qn, Qo, Qp, Qq, Qr, Qs, Qt, Qu, Qv, Qw, Qx, Qy, ptrTo, Qz, QA, QB, QC, QD, QE, QF, QG, QH, QI, QJ, QK, QL, QM, QN, QO, QP, QQ, QR, QS, QT, QU, QV, QW, QX, QY, QZ, Ja, Jb, Jc, Jd, Je, Jf, Jg, Jh, Ji, Jj, Jk, Jl, Jm, Jn, Jo, Jp, Jq, Jr, Js, Jt, Nat.reduceAdd]
  refine both_sp hlf hv hu (by rw [ci_length]; omega) (by rw [ci_length]; omega) ?_
  rw [chkB_ok h1 h10 ha, chkB_ok h1 h10 hb, if_pos rfl, if_pos rfl, if_pos (by rw [ci_length, ci_length]; omega)]
  have mk := make22 m (a := a.length) (by omega)
  try simp (disch := first | omega | with_unfolding_all exact id rfl | with_unfolding_all exact Nat.le_of_ble_eq_true rfl | (simp only [Jd, Je, Jr, Js, Jt, Nat.reduceAdd, allOne, oneCell, Bool.and_self, Jc]; first | done | omega)) only [hv.ln, mk, ↓Qa, ↓Qb, ↓Qc, Qd, Qe, Qf, Qg, Qh, Qi, Qj, Qk, Ql, Qm, Qn, Qo, Qp, Qq, Qr, Qs, Qt, Qu, Qv, Qw, Qx, Qy, ptrTo, Qz, QA, QB, QC, QD, QE, QF, QG, QH, QI, QJ, QK, QL, QM, QN, QO, QP, QQ, QR, QS, QT, QU, QV, QW, QX, QY, QZ, Ja, Jb, Jc, Jd, Je, Jf, Jg, Jh, Ji, Jj, Jk, Jl, Jm, Jn, Jo, Jp, Jq, Jr, Js, Jt, Nat.reduceAdd]
  have g1 := Mem.gt_push m ⟨1, azrow [.int .i64 0] a.length, none⟩
  have p1 : (m.push ⟨1, azrow [.int .i64 0] a.length, none⟩).rd m.next = some ⟨1, azrow [.int .i64 0] a.length, none⟩ := Mem.rd_push _ _
  have n1 : (m.push ⟨1, azrow [.int .i64 0] a.length, none⟩).next = m.next + 1 := Mem.push_next _ _
  generalize m.push ⟨1, azrow [.int .i64 0] a.length, none⟩ = m1 at g1 p1 n1 ⊢
  obtain ⟨r, m2, c1, c2, c3, c4⟩ := copy22 (L := L) (x := none) hL p1 (by rw [azrow_len]; simp) (hv.mono g1) rfl
  have g2 : Gt m m2 := ⟨by omega, fun c hc => (c3 c (by omega)).trans (g1.kept c hc)⟩
  rw [c1, oRes_e]
  have hnow := in_full c2 rfl
  refine clone_sp (by omega) hnow (fun h => by cases h) (by omega) fun w m3 e3 hw hwb => ?_
  have n3 := e3.next
  rw [bs37L hw, oRes_e]
  have hlg : LG (m.next + 1) (m3.push ⟨1, [w], none⟩) (slTo 1 m3.next) [a] := LG.one hw (fun c hc => by have := hwb c hc; omega) (by omega)
  have g4 := Mem.gt_push m3 ⟨1, [w], none⟩
  generalize m3.push ⟨1, [w], none⟩ = m4 at g4 hlg ⊢
  have G4 := (g2.trans e3).trans g4
  have p4 := (g4.kept _ (by omega)).trans ((e3.kept _ (by omega)).trans c2)
  refine away_sp hlf (hv.mono G4) (hu.mono G4) (by omega) (by omega) ?_
  refine loop_up (awayN a b) (fun i vs m' => ∃ x, vs = [x, .int .i64 (i : Int)] ∧ Gt m m' ∧ LG (m.next + 1) m' x ((List.range (i + 1)).map (itr N b a)) ∧ m'.rd m.next = some ⟨1, (ci (itr N b a i)).map (Value.int .i64), none⟩) (by omega) ⟨_, rfl, G4, hlg, p4⟩ ?_
  clear hlg p4 hnow hw hwb c2 p1
  rintro i vs m5 hi ⟨x, rfl, e5, hx, p5⟩ self hself
  have n5 := e5.next
  have lt5 := Mem.rd_lt p5
  try simp (disch := first | omega | with_unfolding_all exact id rfl | with_unfolding_all exact Nat.le_of_ble_eq_true rfl | (simp only [Jd, Je, Jr, Js, Jt, Nat.reduceAdd, allOne, oneCell, Bool.and_self, Jc]; first | done | omega)) only [↓Qa, ↓Qb, ↓Qc, Qd, Qe, Qf, Qg, Qh, Qi, Qj, Qk, Ql, Qm, Qn, Qo, Qp, Qq, Qr, Qs, Qt, Qu, Qv, Qw, Qx, Qy, ptrTo, Qz, QA, QB, QC, QD, QE, QF, QG, QH, QI, QJ, QK, QL, QM, QN, QO, QP, QQ, QR, QS, QT, QU, QV, QW, QX, QY, QZ, Ja, Jb, Jc, Jd, Je, Jf, Jg, Jh, Ji, Jj, Jk, Jl, Jm, Jn, Jo, Jp, Jq, Jr, Js, Jt, Nat.reduceAdd]
  refine oIf_dec (fun h => ?_) (fun h => ?_)
  · have hid : i < awayN a b := by omega
    obtain ⟨hA, hAw⟩ := itr_ok ha hb i (by omega)
    obtain ⟨o, j, hs⟩ := itr_step ha hb hid
    have hstep : itr N b a (i + 1) = exch N (itr N b a i) o j := hs.eq
    generalize hAA : itr N b a i = A at hA hAw hs hstep p5
    have hAl := hA.len
    rw [show a.length = kk from l1] at *
    have hnow := in_full p5 hAl
    have hu5 := hu.mono e5
    have mo : misI A b = (o : Int) := by unfold misI; rw [hs.l1]; rfl
    have mj : misI b A = (j : Int) := by unfold misI; rw [hs.l2]; rfl
    refine missing_sp hlf hnow hu5 (by omega) (by omega) ?_
    rw [mo]
    refine index_sp hlf hnow (by rw [ci_length]; omega) (fun q hq hqo _ => ?_) (fun hno => absurd (mem_ci.2 hs.oa) hno)
    rw [ci_length] at hq
    have hqo' : A[q] = o := by
      have : ((A[q] : Nat) : Int) = (o : Int) := by rw [← hqo]; simp [ci]
      omega
    refine missing_sp hlf hu5 hnow (by omega) (by omega) ?_
    rw [mj, ia_e (sz := 1) (show q < kk by omega), oOpt_e, show 0 + q * 1 = q by omega, st_int p5 (by rw [List.length_map, ci_length]; omega) hL, oRes_e]
    have hset : ((ci A).map (Value.int .i64)).set q (.int .i64 (j : Int)) = (ci (A.set q j)).map (Value.int .i64) := by
      unfold ci
      rw [List.map_set, List.map_set]
    rw [hset]
    have p6 : (m5.put m.next (some ⟨1, (ci (A.set q j)).map (Value.int .i64), none⟩)).rd m.next = some ⟨1, (ci (A.set q j)).map (Value.int .i64), none⟩ := Mem.rd_put_eq _ _ (Mem.rd_lt p5)
    have k6 : ∀ c, c ≠ m.next → (m5.put m.next (some ⟨1, (ci (A.set q j)).map (Value.int .i64), none⟩)).rd c = m5.rd c := fun c hc => rd_other hc
    have n6 : (m5.put m.next (some ⟨1, (ci (A.set q j)).map (Value.int .i64), none⟩)).next = m5.next := rfl
    generalize m5.put m.next (some ⟨1, (ci (A.set q j)).map (Value.int .i64), none⟩) = m6 at p6 k6 n6 ⊢
    have e6 : Gt m m6 := ⟨by omega, fun c hc => (k6 c (by omega)).trans (e5.kept c hc)⟩
    have hsl : (A.set q j).length = kk := by rw [List.length_set, hAl]
    have hgn : GN m.next m6 (.slice (some ⟨m.next, 0, none⟩) kk kk) (A.set q j) := by
      refine .inr ⟨m.next, Nat.le_refl _, ?_, p6, ?_, ?_⟩
      · rw [ci_length, hsl]
      · rw [List.length_map, Nat.mul_one]
      · rw [ci_length, hsl]; omega
    rw [r55]
    refine sort_sp hgn hL e6 (Nat.le_refl _) (by rw [ci_length]; omega) fun m7 e7 hg7 n7 k7 => ?_
    have hnd := asc_nodup hA.asc
    have hsm : isortI (ci (A.set q j)) = ci (itr N b a (i + 1)) := by
      rw [isort_nodup (n := N) (fun x hx => ?_) (set_nodup hnd hq hs.ia), hstep]
      · unfold exch
        congr 1
        refine List.filter_congr fun x hx => ?_
        rw [Bool.eq_iff_iff, List.contains_iff_mem, set_mem hnd hq hqo' hs.ia]
        simp
      · rcases (set_mem hnd hq hqo' hs.ia).1 hx with rfl | ⟨_, h⟩
        · exact hs.lt.2
        · exact hA.lt x h
    rw [hsm] at hg7
    have hA' := hs.bl
    have hAl' := hA'.len
    generalize hAe : itr N b a (i + 1) = A' at hg7 hA' hAl' hs hstep
    have p7 : m7.rd m.next = some ⟨1, (ci A').map (Value.int .i64), none⟩ := by
      rcases hg7 with ⟨h, _⟩ | ⟨b', _, h, hr, _⟩
      · cases h
      · injection h with h _ _
        cases h
        exact hr
    have mk := make22 m7 (a := kk) (by omega)
    rw [ln_e, oOpt_e, mk, oRes_e]
    have g8 := Mem.gt_push m7 ⟨1, azrow [.int .i64 0] kk, none⟩
    have p8 : (m7.push ⟨1, azrow [.int .i64 0] kk, none⟩).rd m7.next = some ⟨1, azrow [.int .i64 0] kk, none⟩ := Mem.rd_push _ _
    have n8 : (m7.push ⟨1, azrow [.int .i64 0] kk, none⟩).next = m7.next + 1 := Mem.push_next _ _
    generalize m7.push ⟨1, azrow [.int .i64 0] kk, none⟩ = m8 at g8 p8 n8 ⊢
    obtain ⟨r', m9, d1, d2, d3, d4⟩ := copy22 (L := L) (x := none) (show L ≤ m7.next by omega) p8 (by rw [azrow_len]; simp) ((in_full p7 hAl').mono g8) hAl'
    rw [d1, oRes_e]
    have hnew := in_full d2 hAl'
    rw [bs37L hnew, oRes_e]
    have hx9 := hx.keep (m' := m9) (fun c h1 h2 => ((d3 c (by omega)).trans (g8.kept c (by omega))).trans ((k7 c (fun h => by cases h; omega)).trans (k6 c (by omega)))) (by omega)
    have e9 : Gt m m9 := ⟨by omega, fun c hc => (d3 c (by omega)).trans ((g8.kept c (by omega)).trans (e7.kept c hc))⟩
    obtain ⟨y, m10, s1, s2, s3, s4, s5, s6⟩ := LG.snoc (P := Try.prog) (t := 37) (L := L) (m0 := m) ael37 (by omega) hx9 hnew (fun c hc => by cases hc; omega) (fun c hc hu => by cases hc; have := hx.fr _ hu; omega) (by rw [List.length_map, List.length_range]; omega) (by omega) e9 (by omega)
    rw [s1, oRes_e, oInt_add ⟨by omega, by omega⟩]
    refine hself hid _ _ ⟨y, rfl, s3, ?_, ?_⟩
    · rw [List.range_succ, List.map_append, List.map_cons, List.map_nil, hAe]
      exact s2
    · rw [hAe, s6 _ (by omega) (fun h => by have := hx.fr _ h; omega), d3 _ (by omega), g8.kept _ (by omega), p7]
  · have hid : i = awayN a b := by omega
    rw [hid] at hx
    exact hk _ _ e5 hx.ll
end
end Go.Vit
