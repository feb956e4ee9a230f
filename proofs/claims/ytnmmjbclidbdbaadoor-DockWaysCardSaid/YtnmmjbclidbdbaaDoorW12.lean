/- Walks: slices.Delete and slices.Clone. -/
import Derived.Test.YtnmmjbclidbdbaaDoorW9
set_option linter.unusedSimpArgs false
set_option linter.unusedVariables false
set_option maxRecDepth 20000
namespace Go.Vit
open Go Go.Proofs
attribute [local irreducible] runT loopS
/-- s[i:j:k] in its bounds is some slice. -/
theorem sl_3 {P : Program} {t e : TypeId} {s : Nat} (ht : P.underlying t = some (.slice e)) (hs : tsize P e = some s) {b o n c i j k : Nat} (h1 : i ≤ j) (h2 : j ≤ k) (h3 : k ≤ c) :
    ∃ v, sl P t (.slice (some ⟨b, o, none⟩) n c) (some (.int .i64 (i : Int))) (some (.int .i64 (j : Int))) (some (.int .i64 (k : Int))) = some v := by
  unfold sl aslice
  rw [ht]
  simp only [hs, Option.map_some]
  have g0 : abound (tri (some (.int .i64 (i : Int))) (some (.int .i64 (j : Int))) (some (.int .i64 (k : Int)))) (some (.tmp 0)) 0 = some i := by
    show anat (.int .i64 (Int.ofNat i)) = _
    simp only [anat, natK_eq]
  have g1 : abound (tri (some (.int .i64 (i : Int))) (some (.int .i64 (j : Int))) (some (.int .i64 (k : Int)))) (some (.tmp 1)) n = some j := by
    show anat (.int .i64 (Int.ofNat j)) = _
    simp only [anat, natK_eq]
  have g2 : abound (tri (some (.int .i64 (i : Int))) (some (.int .i64 (j : Int))) (some (.int .i64 (k : Int)))) (some (.tmp 2)) c = some k := by
    show anat (.int .i64 (Int.ofNat k)) = _
    simp only [anat, natK_eq]
  have g3 : abounds (tri (some (.int .i64 (i : Int))) (some (.int .i64 (j : Int))) (some (.int .i64 (k : Int)))) n c (some (.tmp 0)) (some (.tmp 1)) (some (.tmp 2)) = some (i, j, k) := by
    unfold abounds
    simp only [g0, g1, g2, ble_t h1, ble_t h2, ble_t h3, Bool.and_self]
  simp only [g3]
  cases Nat.beq k i <;> exact ⟨_, rfl⟩
/-- s[k:] to the end of a full block is empty. -/
theorem sl_end {P : Program} {t e : TypeId} {s : Nat} (ht : P.underlying t = some (.slice e)) (hs : tsize P e = some s) {b o c : Nat} (h0 : 0 < c) :
    sl P t (.slice (some ⟨b, o, none⟩) c c) (some (.int .i64 (c : Int))) none none = some (.slice (some ⟨b, o, some 1⟩) 0 0) := by
  unfold sl aslice
  rw [ht]
  simp only [hs, Option.map_some, Option.map_none]
  have h1 : abound (tri (some (.int .i64 (c : Int))) none none) (some (.tmp 0)) 0 = some c := by
    show anat (.int .i64 (Int.ofNat c)) = _
    simp only [anat, natK_eq]
  have h2 : abounds (tri (some (.int .i64 (c : Int))) none none) c c (some (.tmp 0)) none none = some (c, c, c) := by
    unfold abounds
    simp only [abound_none, h1, ble_t (Nat.le_refl c), Bool.and_self]
  have h3 : Nat.beq c c = true := Nat.beq_refl c
  simp only [h2, beq_f (show c ≠ 0 by omega), h3]
/-- s[i:j] of an open slice. -/
theorem sl_mid {P : Program} {t e : TypeId} {s : Nat} (ht : P.underlying t = some (.slice e)) (hs : tsize P e = some s) {b o n c i j : Nat} (h1 : i ≤ j) (h2 : j ≤ c) (h3 : i < c) :
    ∃ c', sl P t (.slice (some ⟨b, o, none⟩) n c) (some (.int .i64 (i : Int))) (some (.int .i64 (j : Int))) none = some (.slice (some ⟨b, o + i * s, none⟩) (j - i) c') := by
  unfold sl aslice
  rw [ht]
  simp only [hs, Option.map_some, Option.map_none]
  have g0 : abound (tri (some (.int .i64 (i : Int))) (some (.int .i64 (j : Int))) none) (some (.tmp 0)) 0 = some i := by
    show anat (.int .i64 (Int.ofNat i)) = _
    simp only [anat, natK_eq]
  have g1 : abound (tri (some (.int .i64 (i : Int))) (some (.int .i64 (j : Int))) none) (some (.tmp 1)) n = some j := by
    show anat (.int .i64 (Int.ofNat j)) = _
    simp only [anat, natK_eq]
  have g3 : abounds (tri (some (.int .i64 (i : Int))) (some (.int .i64 (j : Int))) none) n c (some (.tmp 0)) (some (.tmp 1)) none = some (i, j, c) := by
    unfold abounds
    simp only [abound_none, g0, g1, ble_t h1, ble_t h2, ble_t (Nat.le_refl c), Bool.and_self]
  simp only [g3]
  by_cases hi : i = 0
  · subst hi
    exact ⟨c, by simp⟩
  · simp only [beq_f hi, beq_f (show c ≠ i by omega)]
    exact ⟨c - i, rfl⟩
theorem azero3 : azero Tryd.prog 3 = some [.int .i64 0] := by kernel_rfl
theorem rd_other {m : Mem} {b c : Nat} {k : Option Blk} (h : c ≠ b) : (m.put b k).rd c = m.rd c := Mem.rd_put _ _ _ _ (Ne.symm h)
theorem awr_e {L : Nat} {m : Mem} {b o s : Nat} {cs vs : List Value} (hL : L ≤ b) (h : m.rd b = some ⟨s, cs, none⟩) (hn : o + vs.length ≤ cs.length) (ho : allOne vs = true) :
    awr L m b o vs = some (m.put b (some ⟨s, cs.take o ++ (vs ++ cs.drop (o + vs.length)), none⟩)) := by
  unfold awr
  simp only [ble_t hL, h, show Nat.add o vs.length = o + vs.length from rfl, ble_t hn, ho, Bool.and_self]
theorem aapp_in {P : Program} {t : TypeId} {y L : Nat} {m : Mem} {b o n c s j : Nat} {x : Value} {cs ds : List Value} (ht : aelem P t = some (1, y)) (hx : asrc m 1 x = some (j + 1, ds)) (hd : ds.length = j + 1) (hn : n + (j + 1) ≤ c) (hL : L ≤ b) (h : m.rd b = some ⟨s, cs, none⟩) (hc : o + c ≤ cs.length) (ho : allOne ds = true) :
    aappend P L m t (.slice (some ⟨b, o, none⟩) n c) x = some (.slice (some ⟨b, o, none⟩) (n + (j + 1)) c, m.put b (some ⟨s, cs.take (o + n) ++ (ds ++ cs.drop (o + n + ds.length)), none⟩)) := by
  unfold aappend
  rw [ht]
  have h1 : Nat.add o (Nat.mul n 1) = o + n := by show o + n * 1 = o + n; omega
  simp only [hx, ble_t (show n ≤ c by omega), natK_eq, show Nat.add n (Nat.succ j) = n + (j + 1) from rfl, ble_t hn, h1]
  rw [awr_e hL h (by omega) ho]
theorem aapp_no {P : Program} {t : TypeId} {y L : Nat} {m : Mem} {b o n c : Nat} {x : Value} {ds : List Value} (ht : aelem P t = some (1, y)) (hx : asrc m 1 x = some (0, ds)) (hn : n ≤ c) :
    aappend P L m t (.slice (some ⟨b, o, none⟩) n c) x = some (.slice (some ⟨b, o, none⟩) n c, m) := by
  unfold aappend
  rw [ht]
  simp only [hx, ble_t hn]
theorem aclear1 {L : Nat} {m : Mem} {b o s c : Nat} {x : Option Nat} {cs : List Value} (hL : L ≤ b) (h : m.rd b = some ⟨s, cs, none⟩) (hn : o + 1 ≤ cs.length) :
    aclear Tryd.prog L m 22 (.slice (some ⟨b, o, x⟩) 1 c) = some (Go.undef, m.put b (some ⟨s, cs.take o ++ ([.int .i64 0] ++ cs.drop (o + 1)), none⟩)) := by
  unfold aclear
  rw [u22]
  simp only [azero3]
  rw [show azrow [.int .i64 0] (Nat.succ 0) = [.int .i64 0] from rfl, awr_e hL h hn rfl]
  rfl
theorem erase_take {α : Type} (l : List α) (q : Nat) : l.eraseIdx q = l.take q ++ l.drop (q + 1) := List.eraseIdx_eq_take_drop_succ l q
theorem bs220 (m : Mem) : bs Tryd.prog m 22 0 [] = some (slTo0 0 m.next, m.push ⟨1, [], none⟩) := (show _ = anew m 1 [] (slTo0 0) by kernel_rfl).trans (anew_eq ..)
theorem app_e0 {L : Nat} {m : Mem} {b : Nat} {v : Value} {l : List Int} (hb : m.rd b = some ⟨1, [], none⟩) (hv : IL m v l) (h0 : 0 < l.length) (hl : l.length < 1000000) :
    aappend Tryd.prog L m 22 (slTo0 0 b) v = some (slTo l.length m.next, m.push ⟨1, l.map (Value.int .i64), none⟩) := by
  obtain ⟨j, hl0⟩ : ∃ j, l.length = j + 1 := ⟨l.length - 1, by omega⟩
  have h1 : Sl 1 m v l.length (l.map (Value.int .i64)) := hv
  have hr := roomy_of (n := l.length) (y := 8) (by omega) (by omega)
  unfold aappend slTo0
  rw [ael22]
  rw [hl0] at h1 hr ⊢
  simp only [h1.1, natK_eq]
  have hrd : rdc m b 0 (Nat.mul 0 1) = some [] := rdc_e (s := 1) hb (by decide)
  have hn0 : Nat.add 0 (Nat.succ j) = j + 1 := Nat.zero_add _
  simp only [hn0, hr, hrd, hb, Nat.ble_eq_true_of_le (Nat.le_refl 0), List.nil_append, anew_eq]
  rfl
theorem gl_new {m : Mem} {l : List Int} (h0 : 0 < l.length) {L : Nat} (hL : L ≤ m.next) : GL L (m.push ⟨1, l.map (Value.int .i64), none⟩) (slTo l.length m.next) l :=
  .inr ⟨m.next, hL, rfl, Mem.rd_push m _, by simp, h0⟩
theorem abin_snil (p : Option Addr) (n c : Nat) : abin Tryd.prog .eql 22 (.slice p n c) (.slice none 0 0) = some (.bool p.isNone) := by
  cases p with
  | none => kernel_rfl
  | some a => kernel_rfl
section
variable {lf n L : Nat} {m : Mem} {k : Value → Mem → Option Unit}
theorem delete_sp {b r N q : Nat} {cs : List Value} {l : List Nat} (hlf : 1000000 ≤ lf) (hL : L ≤ b) (hb : m.rd b = some ⟨1, cs, none⟩) (hc : cs.length = N) (hN : N ≤ 64) (hr : r ≤ N) (hl : l.length = r) (hcs : cs.take r = (ci l).map (Value.int .i64)) (hq : q < r)
    (hk : ∀ m' cs', (∀ c, c ≠ b → m'.rd c = m.rd c) → m'.next = m.next → m'.rd b = some ⟨1, cs', none⟩ → cs'.length = N → cs'.take (r - 1) = (ci (l.eraseIdx q)).map (Value.int .i64) → k (.slice (some ⟨b, 0, none⟩) (r - 1) N) m' = some ()) :
    runT (tab lf) (n + 1) 55 [.slice (some ⟨b, 0, none⟩) r N, .int .i64 (q : Int), .int .i64 ((q : Int) + 1)] L m k = some () := by
  rw [r55]
  dsimp only [S55, iofNat, inegSucc]
  have hq1 : ((q : Int) + 1) = ((q + 1 : Nat) : Int) := by omega
  rw [hq1]
  obtain ⟨v3, h3⟩ := sl_3 u22 ts3 (b := b) (o := 0) (n := r) (c := N) (i := q) (j := q + 1) (k := r) (by omega) (by omega) hr
  have hne : ¬ ((q : Int) = ((q + 1 : Nat) : Int)) := by omega
  have hbl := Mem.rd_lt hb
  try simp (maxSteps := 4000000) (disch := first | omega | with_unfolding_all exact id rfl | with_unfolding_all exact Nat.le_of_ble_eq_true rfl | (simp only [Jd, Je, Jr, Js, Jt, Nat.reduceAdd, allOne, oneCell, Bool.and_self, Jc]; first | done | omega)) only [ln_e, h3, hne, sl_hi u22 ts3 (b := b) (o := 0) (n := r) (c := N) (k := q) (by omega), ↓Qa, ↓Qb, Qd, Qe, Qf, Qg, Qh, Qi, Qj, Qk, Ql, Qm, Qn, Qo, Qp, Qq, Qr, Qs, Qt, Qu, Qv, Qw, Qx, Qy, ptrTo, Qz, QA, QB, QC, QD, QE, QF, QG, QH, QI, QJ, QK, QL, QM, QN, QO, QP, QQ, QR, QS, QT, QU, QV, QW, QX, QY, QZ, Ja, Jb, Jc, Jd, Je, Jf, Jg, Jh, Ji, Jj, Jk, Jl, Jm, Jn, Jo, Jp, Jq, Jr, Js, Jt, Nat.reduceAdd]
  have hcsq : cs.take q = (ci (l.take q)).map (Value.int .i64) := by
    have := congrArg (List.take q) hcs
    rw [List.take_take, Nat.min_eq_left (by omega)] at this
    rw [this]; simp [ci]
  by_cases hlast : q + 1 = r
  · have hx : ∃ x, sl Tryd.prog 22 (.slice (some ⟨b, 0, none⟩) r N) (some (.int .i64 ((q + 1 : Nat) : Int))) none none = some x ∧ asrc m 1 x = some (0, []) := by
      by_cases hqN : q + 1 = N
      · have hrN : r = N := by omega
        subst hqN
        subst hrN
        exact ⟨_, sl_end u22 ts3 (by omega), rfl⟩
      · refine ⟨_, sl_lo u22 ts3 (b := b) (o := 0) (n := r) (c := N) (k := q + 1) (by omega) (by omega) (by omega) hr, ?_⟩
        rw [show r - (q + 1) = 0 by omega]; rfl
    obtain ⟨x, hx1, hx2⟩ := hx
    obtain ⟨c', hm⟩ := sl_mid u22 ts3 (b := b) (o := 0) (n := q) (c := N) (i := q) (j := r) (by omega) hr (by omega)
    rw [hx1, oOpt_e, aapp_no ael22 hx2 (by omega), oRes_e, ln_e, oOpt_e, hm, oOpt_e, show r - q = 1 by omega, aclear1 hL hb (by omega), oRes_e]
    have h9 : r - 1 = q := by omega
    rw [h9] at hk
    have hlen : (cs.take (0 + q * 1)).length = q := by rw [List.length_take]; omega
    refine hk _ _ (fun c hcb => rd_other hcb) rfl (Mem.rd_put_eq _ _ hbl) ?_ ?_
    · rw [List.length_append, hlen, List.length_append, List.length_drop]; simp; omega
    · rw [List.take_append_of_le_length (by omega), List.take_of_length_le (by omega), show 0 + q * 1 = q by omega, hcsq, erase_take, List.drop_eq_nil_of_le (by omega), List.append_nil]
  · have h5 := sl_lo u22 ts3 (b := b) (o := 0) (n := r) (c := N) (k := q + 1) (by omega) (by omega) (by omega) hr
    have h6 : asrc m 1 (.slice (some ⟨b, 0 + (q + 1) * 1, none⟩) (r - (q + 1)) (N - (q + 1))) = some ((r - (q + 1) - 1) + 1, (ci (l.drop (q + 1))).map (Value.int .i64)) := by
      have h7 : (cs.drop (q + 1)).take (r - (q + 1)) = (ci (l.drop (q + 1))).map (Value.int .i64) := by
        have := congrArg (List.drop (q + 1)) hcs
        rw [List.drop_take] at this
        rw [this]; simp [ci]
      have h8 := (IL.of (x := none) (o := q + 1) (n := r - (q + 1)) (c := N - (q + 1)) hb (by omega) h7).1
      rw [show 0 + (q + 1) * 1 = q + 1 by omega, h8, ci_length, List.length_drop, hl]
      congr 2
      omega
    have h8 : ((ci (l.drop (q + 1))).map (Value.int .i64)).length = r - (q + 1) := by rw [List.length_map, ci_length, List.length_drop, hl]
    rw [h5, oOpt_e, aapp_in ael22 h6 (by omega) (by omega) hL hb (by omega) (allOne_map _), oRes_e, ln_e, oOpt_e, show q + (r - (q + 1) - 1 + 1) = r - 1 by omega]
    obtain ⟨c', hm⟩ := sl_mid u22 ts3 (b := b) (o := 0) (n := r - 1) (c := N) (i := r - 1) (j := r) (by omega) hr (by omega)
    have h9 : (0 + q) + ((ci (l.drop (q + 1))).map (Value.int .i64)).length = r - 1 := by rw [h8]; omega
    rw [h9]
    have h10 : (cs.take (0 + q)).length = q := by rw [List.length_take]; omega
    have h11 : (cs.take (0 + q) ++ ((ci (l.drop (q + 1))).map (Value.int .i64) ++ cs.drop (r - 1))).length = N := by
      rw [List.length_append, h10, List.length_append, h8, List.length_drop]; omega
    have h12 : (cs.take (0 + q) ++ ((ci (l.drop (q + 1))).map (Value.int .i64) ++ cs.drop (r - 1))).take (r - 1) = (ci (l.eraseIdx q)).map (Value.int .i64) := by
      rw [← List.append_assoc, List.take_append_of_le_length (by rw [List.length_append, h10, h8]; omega), List.take_of_length_le (by rw [List.length_append, h10, h8]; omega), Nat.zero_add, hcsq, erase_take]
      simp [ci]
    generalize cs.take (0 + q) ++ ((ci (l.drop (q + 1))).map (Value.int .i64) ++ cs.drop (r - 1)) = cs2 at h11 h12 ⊢
    have hb2 : (m.put b (some ⟨1, cs2, none⟩)).rd b = some ⟨1, cs2, none⟩ := Mem.rd_put_eq _ _ hbl
    have hbl2 := Mem.rd_lt hb2
    rw [hm, oOpt_e, show r - (r - 1) = 1 by omega, show 0 + (r - 1) * 1 = r - 1 by omega, aclear1 hL hb2 (by omega), oRes_e]
    have h13 : (cs2.take (r - 1)).length = r - 1 := by rw [List.length_take]; omega
    refine hk _ _ (fun c hcb => (rd_other hcb).trans (rd_other hcb)) rfl (Mem.rd_put_eq _ _ hbl2) ?_ ?_
    · rw [List.length_append, h13, List.length_append, List.length_drop]; simp; omega
    · rw [List.take_append_of_le_length (by omega), List.take_of_length_le (by omega), h12]
theorem clone_sp {L1 : Nat} {v : Value} {l : List Nat} (hL : L ≤ m.next) (hvg : GN L1 m v l) (hl : l.length < 1000000)
    (hk : ∀ u m', Gt m m' → GN m.next m' u l → k u m' = some ()) : runT (tab lf) (n + 1) 50 [v] L m k = some () := by
  rw [r50]
  dsimp only [S50, iofNat, inegSucc]
  rcases hvg.isNil with ⟨rfl, rfl⟩ | ⟨q, nn, c, rfl, hne⟩
  · try simp (disch := first | omega | with_unfolding_all exact id rfl | with_unfolding_all exact Nat.le_of_ble_eq_true rfl | (simp only [Jd, Je, Jr, Js, Jt, Nat.reduceAdd, allOne, oneCell, Bool.and_self, Jc]; first | done | omega)) only [abin_snil, Option.isNone_none, ↓Qa, ↓Qb, ↓Qc, Qd, Qe, Qf, Qg, Qh, Qi, Qj, Qk, Ql, Qm, Qn, Qo, Qp, Qq, Qr, Qs, Qt, Qu, Qv, Qw, Qx, Qy, ptrTo, Qz, QA, QB, QC, QD, QE, QF, QG, QH, QI, QJ, QK, QL, QM, QN, QO, QP, QQ, QR, QS, QT, QU, QV, QW, QX, QY, QZ, Ja, Jb, Jc, Jd, Je, Jf, Jg, Jh, Ji, Jj, Jk, Jl, Jm, Jn, Jo, Jp, Jq, Jr, Js, Jt, Nat.reduceAdd]
    exact hk _ m (Gt.refl _) (GN.nil _ _)
  · have hv : IN m (.slice (some q) nn c) l := hvg.inn
    obtain ⟨q', c', he⟩ := hv.ex
    have hnn : nn = l.length := by injection he
    subst hnn
    try simp (disch := first | omega | with_unfolding_all exact id rfl | with_unfolding_all exact Nat.le_of_ble_eq_true rfl | (simp only [Jd, Je, Jr, Js, Jt, Nat.reduceAdd, allOne, oneCell, Bool.and_self, Jc]; first | done | omega)) only [abin_snil, Option.isNone_some, bs220, ↓Qa, ↓Qb, ↓Qc, Qd, Qe, Qf, Qg, Qh, Qi, Qj, Qk, Ql, Qm, Qn, Qo, Qp, Qq, Qr, Qs, Qt, Qu, Qv, Qw, Qx, Qy, ptrTo, Qz, QA, QB, QC, QD, QE, QF, QG, QH, QI, QJ, QK, QL, QM, QN, QO, QP, QQ, QR, QS, QT, QU, QV, QW, QX, QY, QZ, Ja, Jb, Jc, Jd, Je, Jf, Jg, Jh, Ji, Jj, Jk, Jl, Jm, Jn, Jo, Jp, Jq, Jr, Js, Jt, Nat.reduceAdd]
    have g1 := Mem.gt_push m ⟨1, [], none⟩
    have hx : IN (m.push ⟨1, [], none⟩) (.slice (some q) l.length c) l := hv.mono g1
    have hx' : IL (m.push ⟨1, [], none⟩) (.slice (some q) l.length c) (ci l) := hx
    have hpos : 0 < l.length := List.length_pos_iff.2 hne
    have hcl : (ci l).length = l.length := ci_length l
    rw [app_e0 (L := L) (Mem.rd_push m ⟨1, [], none⟩) hx' (by omega) (by omega), oRes_e]
    have hgn : GL m.next ((m.push ⟨1, [], none⟩).push ⟨1, (ci l).map (Value.int .i64), none⟩) (slTo (ci l).length (m.push ⟨1, [], none⟩).next) (ci l) := gl_new (by omega) (by rw [Mem.push_next]; omega)
    exact hk _ _ (g1.trans (Mem.gt_push _ _)) hgn
end
end Go.Vit
