/- Joined: W2 W3 W4 W5 W6 W7. -/
import Derived.Test.YtgimcgdehgbljaaPA
import Derived.Test.YtgimcgdehgbljaaCoreD
set_option linter.unusedSimpArgs false
set_option linter.unusedVariables false
set_option maxRecDepth 20000
/- Walks: slices.Delete, chosen leaves, the other leaves. -/
namespace Go.Vit
open Go Go.Proofs
attribute [local irreducible] runT loopS
/-- s[i:j:k] in its bounds is some slice. -/
theorem sl_3 {P : Program} {t e : TypeId} {s : Nat} (ht : P.underlying t = some (.slice e)) (hs : tsize P e = some s) {b o n c i j k : Nat} (h1 : i ≤ j) (h2 : j ≤ k) (h3 : k ≤ c) :
    ∃ v, sl P t (.slice (some ⟨b, o, none⟩) n c) (some (.int .i64 (i : Int))) (some (.int .i64 (j : Int))) (some (.int .i64 (k : Int))) = some v := by
  unfold sl aslice
  rw [ht]
  simp only [hs, Option.map_some]
  have g0 : abound (tri (some (.int .i64 (i : Int))) (some (.int .i64 (j : Int))) (some (.int .i64 (k : Int)))) (some (.tmp 0)) 0 = some i := by
    show anat (.int .i64 (Int.ofNat i)) = _
    simp only [anat, natK_eq]
  have g1 : abound (tri (some (.int .i64 (i : Int))) (some (.int .i64 (j : Int))) (some (.int .i64 (k : Int)))) (some (.tmp 1)) n = some j := by
    show anat (.int .i64 (Int.ofNat j)) = _
    simp only [anat, natK_eq]
  have g2 : abound (tri (some (.int .i64 (i : Int))) (some (.int .i64 (j : Int))) (some (.int .i64 (k : Int)))) (some (.tmp 2)) c = some k := by
    show anat (.int .i64 (Int.ofNat k)) = _
    simp only [anat, natK_eq]
  have g3 : abounds (tri (some (.int .i64 (i : Int))) (some (.int .i64 (j : Int))) (some (.int .i64 (k : Int)))) n c (some (.tmp 0)) (some (.tmp 1)) (some (.tmp 2)) = some (i, j, k) := by
    unfold abounds
    simp only [g0, g1, g2, ble_t h1, ble_t h2, ble_t h3, Bool.and_self]
  simp only [g3]
  cases Nat.beq k i <;> exact ⟨_, rfl⟩
/-- s[k:] to the end of a full block is empty. -/
theorem sl_end {P : Program} {t e : TypeId} {s : Nat} (ht : P.underlying t = some (.slice e)) (hs : tsize P e = some s) {b o c : Nat} (h0 : 0 < c) :
    sl P t (.slice (some ⟨b, o, none⟩) c c) (some (.int .i64 (c : Int))) none none = some (.slice (some ⟨b, o, some 1⟩) 0 0) := by
  unfold sl aslice
  rw [ht]
  simp only [hs, Option.map_some, Option.map_none]
  have h1 : abound (tri (some (.int .i64 (c : Int))) none none) (some (.tmp 0)) 0 = some c := by
    show anat (.int .i64 (Int.ofNat c)) = _
    simp only [anat, natK_eq]
  have h2 : abounds (tri (some (.int .i64 (c : Int))) none none) c c (some (.tmp 0)) none none = some (c, c, c) := by
    unfold abounds
    simp only [abound_none, h1, ble_t (Nat.le_refl c), Bool.and_self]
  have h3 : Nat.beq c c = true := Nat.beq_refl c
  simp only [h2, beq_f (show c ≠ 0 by omega), h3]
/-- s[i:j] of an open slice. -/
theorem sl_mid {P : Program} {t e : TypeId} {s : Nat} (ht : P.underlying t = some (.slice e)) (hs : tsize P e = some s) {b o n c i j : Nat} (h1 : i ≤ j) (h2 : j ≤ c) (h3 : i < c) :
    ∃ c', sl P t (.slice (some ⟨b, o, none⟩) n c) (some (.int .i64 (i : Int))) (some (.int .i64 (j : Int))) none = some (.slice (some ⟨b, o + i * s, none⟩) (j - i) c') := by
  unfold sl aslice
  rw [ht]
  simp only [hs, Option.map_some, Option.map_none]
  have g0 : abound (tri (some (.int .i64 (i : Int))) (some (.int .i64 (j : Int))) none) (some (.tmp 0)) 0 = some i := by
    show anat (.int .i64 (Int.ofNat i)) = _
    simp only [anat, natK_eq]
  have g1 : abound (tri (some (.int .i64 (i : Int))) (some (.int .i64 (j : Int))) none) (some (.tmp 1)) n = some j := by
    show anat (.int .i64 (Int.ofNat j)) = _
    simp only [anat, natK_eq]
  have g3 : abounds (tri (some (.int .i64 (i : Int))) (some (.int .i64 (j : Int))) none) n c (some (.tmp 0)) (some (.tmp 1)) none = some (i, j, c) := by
    unfold abounds
    simp only [abound_none, g0, g1, ble_t h1, ble_t h2, ble_t (Nat.le_refl c), Bool.and_self]
  simp only [g3]
  by_cases hi : i = 0
  · subst hi
    exact ⟨c, by simp⟩
  · simp only [beq_f hi, beq_f (show c ≠ i by omega)]
    exact ⟨c - i, rfl⟩
theorem azero3 : azero Try.prog 3 = some [.int .i64 0] := by kernel_rfl
theorem rd_other {m : Mem} {b c : Nat} {k : Option Blk} (h : c ≠ b) : (m.put b k).rd c = m.rd c := Mem.rd_put _ _ _ _ (Ne.symm h)
theorem awr_e {L : Nat} {m : Mem} {b o s : Nat} {cs vs : List Value} (hL : L ≤ b) (h : m.rd b = some ⟨s, cs, none⟩) (hn : o + vs.length ≤ cs.length) (ho : allOne vs = true) :
    awr L m b o vs = some (m.put b (some ⟨s, cs.take o ++ (vs ++ cs.drop (o + vs.length)), none⟩)) := by
  unfold awr
  simp only [ble_t hL, h, show Nat.add o vs.length = o + vs.length from rfl, ble_t hn, ho, Bool.and_self]
theorem aapp_in {P : Program} {t : TypeId} {y L : Nat} {m : Mem} {b o n c s j : Nat} {x : Value} {cs ds : List Value} (ht : aelem P t = some (1, y)) (hx : asrc m 1 x = some (j + 1, ds)) (hd : ds.length = j + 1) (hn : n + (j + 1) ≤ c) (hL : L ≤ b) (h : m.rd b = some ⟨s, cs, none⟩) (hc : o + c ≤ cs.length) (ho : allOne ds = true) :
    aappend P L m t (.slice (some ⟨b, o, none⟩) n c) x = some (.slice (some ⟨b, o, none⟩) (n + (j + 1)) c, m.put b (some ⟨s, cs.take (o + n) ++ (ds ++ cs.drop (o + n + ds.length)), none⟩)) := by
  unfold aappend
  rw [ht]
  have h1 : Nat.add o (Nat.mul n 1) = o + n := by show o + n * 1 = o + n; omega
  simp only [hx, ble_t (show n ≤ c by omega), natK_eq, show Nat.add n (Nat.succ j) = n + (j + 1) from rfl, ble_t hn, h1]
  rw [awr_e hL h (by omega) ho]
theorem aapp_no {P : Program} {t : TypeId} {y L : Nat} {m : Mem} {b o n c : Nat} {x : Value} {ds : List Value} (ht : aelem P t = some (1, y)) (hx : asrc m 1 x = some (0, ds)) (hn : n ≤ c) :
    aappend P L m t (.slice (some ⟨b, o, none⟩) n c) x = some (.slice (some ⟨b, o, none⟩) n c, m) := by
  unfold aappend
  rw [ht]
  simp only [hx, ble_t hn]
theorem aclear1 {L : Nat} {m : Mem} {b o s c : Nat} {x : Option Nat} {cs : List Value} (hL : L ≤ b) (h : m.rd b = some ⟨s, cs, none⟩) (hn : o + 1 ≤ cs.length) :
    aclear Try.prog L m 22 (.slice (some ⟨b, o, x⟩) 1 c) = some (Go.undef, m.put b (some ⟨s, cs.take o ++ ([.int .i64 0] ++ cs.drop (o + 1)), none⟩)) := by
  unfold aclear
  rw [u22]
  simp only [azero3]
  rw [show azrow [.int .i64 0] (Nat.succ 0) = [.int .i64 0] from rfl, awr_e hL h hn rfl]
  rfl
theorem erase_take {α : Type} (l : List α) (q : Nat) : l.eraseIdx q = l.take q ++ l.drop (q + 1) := List.eraseIdx_eq_take_drop_succ l q
theorem isort_nodup {l : List Nat} {n : Nat} (h : ∀ x ∈ l, x < n) (hn : l.Nodup) : isortI (ci l) = ci ((List.range n).filter fun x => l.contains x) := by
  refine List.Perm.eq_of_pairwise (le := fun a b => a ≤ b) (fun a b _ _ h1 h2 => Int.le_antisymm h1 h2) (isortI_sorted _) ?_ ((isortI_perm _).trans ?_)
  · unfold ci
    rw [List.pairwise_map]
    exact (filter_asc (fun x => l.contains x) (range_asc n)).imp fun h => by omega
  · unfold ci
    refine List.Perm.map _ ?_
    refine (List.perm_ext_iff_of_nodup hn (List.Pairwise.filter _ List.nodup_range)).2 fun x => ?_
    rw [List.mem_filter, List.mem_range, List.contains_iff_mem]
    exact ⟨fun hx => ⟨h x hx, hx⟩, fun hx => hx.2⟩
theorem iaA_e {N b o i : Nat} (hi : i < N) : iaA N 1 (.pointer (some ⟨b, o, none⟩)) (.int .i64 (i : Int)) = some (.pointer (some ⟨b, o + i * 1, none⟩)) := by
  have hb : Nat.blt i N = true := by simpa using hi
  show iaA N 1 _ (.int .i64 (Int.ofNat i)) = _
  simp only [iaA, hb, natK_eq]
  rfl
theorem GN.snoc3 {P : Program} {t : TypeId} {y L L0 : Nat} {m0 m : Mem} {v : Value} {l : List Nat} (x : Nat) (ht : aelem P t = some (1, y)) (hy : y ≤ 134217728) (h : GN L0 m v l) (hl : l.length < 1048576) (hL : L ≤ L0) (e : Gt m0 m) (hm : m0.next ≤ L0) :
    ∃ u m', aappend P L (m.push ⟨1, [.int .i64 (x : Int)], none⟩) t v (slTo 1 m.next) = some (u, m') ∧ GN m.next m' u (l ++ [x]) ∧ Gt m0 m' ∧ m.next ≤ m'.next ∧ (∀ c, c < m.next → bid v ≠ some c → m'.rd c = m.rd c) := by
  have h1 : Sl 1 (m.push ⟨1, [.int .i64 (x : Int)], none⟩) (slTo 1 m.next) 1 [.int .i64 (x : Int)] := Gs.sl (L := m.next) (.inr ⟨m.next, Nat.le_refl _, rfl, Mem.rd_push _ _, rfl, by omega⟩)
  have hlc : (ci l).length = l.length := ci_length l
  have gp := Mem.gt_push m ⟨1, [.int .i64 (x : Int)], none⟩
  obtain ⟨u, m', h2, h3, h4, h5, h8⟩ := Gs.append2 (P := P) (L := L) (m0 := m0) ht (Gs.mono h gp) h1 (by omega) rfl (roomy_of (by omega) hy) rfl hL (e.trans gp) hm
  have h6 := gp.next
  have h7 : Gs 1 m.next m' u ((ci l).length + 1) ((ci l).map (Value.int .i64) ++ [.int .i64 (x : Int)]) := Gs.le h3 h6
  have h7' : GN m.next m' u (l ++ [x]) := by
    have hh : ci (l ++ [x]) = ci l ++ [(x : Int)] := by simp [ci]
    unfold GN GL
    rw [hh]
    simpa using h7
  exact ⟨u, m', h2, h7', h4, by omega, fun c hc hb => (h8 c (by omega) hb).trans (gp.kept c hc)⟩
section
variable {lf n L : Nat} {m : Mem} {k : Value → Mem → Option Unit}
theorem delete_sp {b r N q : Nat} {cs : List Value} {l : List Nat} (hlf : 1000000 ≤ lf) (hL : L ≤ b) (hb : m.rd b = some ⟨1, cs, none⟩) (hc : cs.length = N) (hN : N ≤ 64) (hr : r ≤ N) (hl : l.length = r) (hcs : cs.take r = (ci l).map (Value.int .i64)) (hq : q < r)
    (hk : ∀ m' cs', (∀ c, c ≠ b → m'.rd c = m.rd c) → m'.next = m.next → m'.rd b = some ⟨1, cs', none⟩ → cs'.length = N → cs'.take (r - 1) = (ci (l.eraseIdx q)).map (Value.int .i64) → k (.slice (some ⟨b, 0, none⟩) (r - 1) N) m' = some ()) :
    runT (tab lf) (n + 1) 53 [.slice (some ⟨b, 0, none⟩) r N, .int .i64 (q : Int), .int .i64 ((q : Int) + 1)] L m k = some () := by
  rw [r53]
  dsimp only [S53, iofNat, inegSucc]
  have hq1 : ((q : Int) + 1) = ((q + 1 : Nat) : Int) := by omega
  rw [hq1]
  obtain ⟨v3, h3⟩ := sl_3 u22 ts3 (b := b) (o := 0) (n := r) (c := N) (i := q) (j := q + 1) (k := r) (by omega) (by omega) hr
  have hne : ¬ ((q : Int) = ((q + 1 : Nat) : Int)) := by omega
  have hbl := Mem.rd_lt hb
  try simp (maxSteps := 4000000) (disch := first | omega | with_unfolding_all exact id rfl | with_unfolding_all exact Nat.le_of_ble_eq_true rfl | (simp only [Jd, Je, Jr, Js, Jt, Nat.reduceAdd, allOne, oneCell, Bool.and_self, Jc]; first | done | omega)) only [ln_e, h3, hne, sl_hi u22 ts3 (b := b) (o := 0) (n := r) (c := N) (k := q) (by omega), ↓Qa, ↓Qb, Qd, Qe, Qf, Qg, Qh, Qi, Qj, Qk, Ql, Qm, Qn, Qo, Qp, Qq, Qr, Qs, Qt, Qu, Qv, Qw, Qx, Qy, ptrTo, Qz, QA, QB, QC, QD, QE, QF, QG, QH, QI, QJ, QK, QL, QM, QN, QO, QP, QQ, QR, QS, QT, QU, QV, QW, QX, QY, QZ, Ja, Jb, Jc, Jd, Je, Jf, Jg, Jh, Ji, Jj, Jk, Jl, Jm, Jn, Jo, Jp, Jq, Jr, Js, Jt, Nat.reduceAdd]
  have hcsq : cs.take q = (ci (l.take q)).map (Value.int .i64) := by
    have := congrArg (List.take q) hcs
    rw [List.take_take, Nat.min_eq_left (by omega)] at this
    rw [this]; simp [ci]
  by_cases hlast : q + 1 = r
  · have hx : ∃ x, sl Try.prog 22 (.slice (some ⟨b, 0, none⟩) r N) (some (.int .i64 ((q + 1 : Nat) : Int))) none none = some x ∧ asrc m 1 x = some (0, []) := by
      by_cases hqN : q + 1 = N
      · have hrN : r = N := by omega
        subst hqN
        subst hrN
        exact ⟨_, sl_end u22 ts3 (by omega), rfl⟩
      · refine ⟨_, sl_lo u22 ts3 (b := b) (o := 0) (n := r) (c := N) (k := q + 1) (by omega) (by omega) (by omega) hr, ?_⟩
        rw [show r - (q + 1) = 0 by omega]; rfl
    obtain ⟨x, hx1, hx2⟩ := hx
    obtain ⟨c', hm⟩ := sl_mid u22 ts3 (b := b) (o := 0) (n := q) (c := N) (i := q) (j := r) (by omega) hr (by omega)
    rw [hx1, oOpt_e, aapp_no ael22 hx2 (by omega), oRes_e, ln_e, oOpt_e, hm, oOpt_e, show r - q = 1 by omega, aclear1 hL hb (by omega), oRes_e]
    have h9 : r - 1 = q := by omega
    rw [h9] at hk
    have hlen : (cs.take (0 + q * 1)).length = q := by rw [List.length_take]; omega
    refine hk _ _ (fun c hcb => rd_other hcb) rfl (Mem.rd_put_eq _ _ hbl) ?_ ?_
    · rw [List.length_append, hlen, List.length_append, List.length_drop]; simp; omega
    · rw [List.take_append_of_le_length (by omega), List.take_of_length_le (by omega), show 0 + q * 1 = q by omega, hcsq, erase_take, List.drop_eq_nil_of_le (by omega), List.append_nil]
  · have h5 := sl_lo u22 ts3 (b := b) (o := 0) (n := r) (c := N) (k := q + 1) (by omega) (by omega) (by omega) hr
    have h6 : asrc m 1 (.slice (some ⟨b, 0 + (q + 1) * 1, none⟩) (r - (q + 1)) (N - (q + 1))) = some ((r - (q + 1) - 1) + 1, (ci (l.drop (q + 1))).map (Value.int .i64)) := by
      have h7 : (cs.drop (q + 1)).take (r - (q + 1)) = (ci (l.drop (q + 1))).map (Value.int .i64) := by
        have := congrArg (List.drop (q + 1)) hcs
        rw [List.drop_take] at this
        rw [this]; simp [ci]
      have h8 := (IL.of (x := none) (o := q + 1) (n := r - (q + 1)) (c := N - (q + 1)) hb (by omega) h7).1
      rw [show 0 + (q + 1) * 1 = q + 1 by omega, h8, ci_length, List.length_drop, hl]
      congr 2
      omega
    have h8 : ((ci (l.drop (q + 1))).map (Value.int .i64)).length = r - (q + 1) := by rw [List.length_map, ci_length, List.length_drop, hl]
    rw [h5, oOpt_e, aapp_in ael22 h6 (by omega) (by omega) hL hb (by omega) (allOne_map _), oRes_e, ln_e, oOpt_e, show q + (r - (q + 1) - 1 + 1) = r - 1 by omega]
    obtain ⟨c', hm⟩ := sl_mid u22 ts3 (b := b) (o := 0) (n := r - 1) (c := N) (i := r - 1) (j := r) (by omega) hr (by omega)
    have h9 : (0 + q) + ((ci (l.drop (q + 1))).map (Value.int .i64)).length = r - 1 := by rw [h8]; omega
    rw [h9]
    have h10 : (cs.take (0 + q)).length = q := by rw [List.length_take]; omega
    have h11 : (cs.take (0 + q) ++ ((ci (l.drop (q + 1))).map (Value.int .i64) ++ cs.drop (r - 1))).length = N := by
      rw [List.length_append, h10, List.length_append, h8, List.length_drop]; omega
    have h12 : (cs.take (0 + q) ++ ((ci (l.drop (q + 1))).map (Value.int .i64) ++ cs.drop (r - 1))).take (r - 1) = (ci (l.eraseIdx q)).map (Value.int .i64) := by
      rw [← List.append_assoc, List.take_append_of_le_length (by rw [List.length_append, h10, h8]; omega), List.take_of_length_le (by rw [List.length_append, h10, h8]; omega), Nat.zero_add, hcsq, erase_take]
      simp [ci]
    generalize cs.take (0 + q) ++ ((ci (l.drop (q + 1))).map (Value.int .i64) ++ cs.drop (r - 1)) = cs2 at h11 h12 ⊢
    have hb2 : (m.put b (some ⟨1, cs2, none⟩)).rd b = some ⟨1, cs2, none⟩ := Mem.rd_put_eq _ _ hbl
    have hbl2 := Mem.rd_lt hb2
    rw [hm, oOpt_e, show r - (r - 1) = 1 by omega, show 0 + (r - 1) * 1 = r - 1 by omega, aclear1 hL hb2 (by omega), oRes_e]
    have h13 : (cs2.take (r - 1)).length = r - 1 := by rw [List.length_take]; omega
    refine hk _ _ (fun c hcb => (rd_other hcb).trans (rd_other hcb)) rfl (Mem.rd_put_eq _ _ hbl2) ?_ ?_
    · rw [List.length_append, h13, List.length_append, List.length_drop]; simp; omega
    · rw [List.take_append_of_le_length (by omega), List.take_of_length_le (by omega), h12]
theorem chosen_sp {N kk : Nat} {ol : List Nat} (hlf : 1000000 ≤ lf) (hL : L ≤ m.next) (hol : ol.length = 10) (hog : ∀ g ∈ ol, g < 256) (hN1 : 1 ≤ N) (hN : N ≤ 10) (hkk : kk ≤ N)
    (hk : ∀ u m' l, Gt m m' → IN m' u l → Bl N kk l → k u m' = some ()) : runT (tab lf) (n + 2) 49 [.agg ⟨ol.map fun (g : Nat) => .int .u8 (g : Int)⟩, .int .i64 (N : Int), .int .i64 (kk : Int)] L m k = some () := by
  rw [r49]
  dsimp only [S49, iofNat, inegSucc]
  have g1 := Mem.gt_push m ⟨1, ol.map fun (g : Nat) => .int .u8 (g : Int), none⟩
  have ho1 : At (m.push ⟨1, ol.map fun (g : Nat) => .int .u8 (g : Int), none⟩) m.next _ := At.push m (ol.map fun (g : Nat) => .int .u8 (g : Int))
  have hx1 : (m.push ⟨1, ol.map fun (g : Nat) => .int .u8 (g : Int), none⟩).next = m.next + 1 := Mem.push_next _ _
  rw [uc_e, uc_e, uc_e, un0_e, abox_e, cells_agg, oRes_e]
  generalize m.push ⟨1, ol.map fun (g : Nat) => .int .u8 (g : Int), none⟩ = m1 at g1 ho1 hx1 ⊢
  simp only [ptrTo]
  refine loop_up N (fun i vs m' => ∃ u, vs = [u, .int .i64 (i : Int)] ∧ Gt m1 m' ∧ GN m1.next m' u (List.range i)) (by omega) ⟨_, rfl, Gt.refl _, GN.nil _ _⟩ ?_
  rintro i vs m5 hi ⟨w, rfl, e5, hw⟩ self hself
  have n5 := e5.next
  try simp (maxSteps := 4000000) (disch := first | omega | with_unfolding_all exact id rfl | with_unfolding_all exact Nat.le_of_ble_eq_true rfl | (simp only [Jd, Je, Jr, Js, Jt, Nat.reduceAdd, allOne, oneCell, Bool.and_self, Jc]; first | done | omega)) only [↓Qa, ↓Qb, Qd, Qe, Qf, Qg, Qh, Qi, Qj, Qk, Ql, Qm, Qn, Qo, Qp, Qq, Qr, Qs, Qt, Qu, Qv, Qw, Qx, Qy, ptrTo, Qz, QA, QB, QC, QD, QE, QF, QG, QH, QI, QJ, QK, QL, QM, QN, QO, QP, QQ, QR, QS, QT, QU, QV, QW, QX, QY, QZ, Ja, Jb, Jc, Jd, Je, Jf, Jg, Jh, Ji, Jj, Jk, Jl, Jm, Jn, Jo, Jp, Jq, Jr, Js, Jt, Nat.reduceAdd]
  refine oIf_dec (fun h3 => ?_) (fun h3 => ?_)
  · have h4 : i < N := by omega
    obtain ⟨w2, m6, h8, h9, h10, h11⟩ := GN.snoc (P := Try.prog) (t := 22) (L := L) (m0 := m1) i ael22 (by omega) hw (by rw [List.length_range]; omega) (by omega) e5 (Nat.le_refl _)
    rw [bs22, oRes_e, h8, oRes_e, oInt_add ⟨by omega, by omega⟩]
    refine hself h4 _ _ ⟨w2, rfl, h10, ?_⟩
    rw [List.range_succ]
    exact h9.le n5
  · have h4 : i = N := by omega
    subst h4
    clear hself h3
    obtain ⟨b, cs, hbb, rfl, hb5, hcs5, hcl5⟩ : ∃ b cs, m1.next ≤ b ∧ w = .slice (some ⟨b, 0, none⟩) i i ∧ m5.rd b = some ⟨1, cs, none⟩ ∧ cs = (ci (List.range i)).map (Value.int .i64) ∧ cs.length = i := by
      rcases hw with ⟨_, h2, _⟩ | ⟨b, h1, h2, h3, h4, _⟩
      · rw [ci_length, List.length_range] at h2; omega
      · rw [ci_length, List.length_range] at h2 h4
        exact ⟨b, _, h1, h2, h3, rfl, by omega⟩
    refine loop_up kk (fun h vs m' => ∃ w to left cs, vs = [w, .slice (some ⟨b, 0, none⟩) (i - h) i, .int .i64 (h : Int)] ∧ Gt m1 m' ∧ GN m1.next m' w to ∧ m'.rd b = some ⟨1, cs, none⟩ ∧ cs.length = i ∧ left.length = i - h ∧ cs.take (i - h) = (ci left).map (Value.int .i64) ∧ (to ++ left).Perm (List.range i) ∧ bid w ≠ some b) (by omega)
      ⟨.slice none 0 0, [], List.range i, cs, rfl, e5, GN.nil _ _, hb5, hcl5, by rw [List.length_range]; rfl, by rw [Nat.sub_zero, List.take_of_length_le (by omega), hcs5], List.Perm.refl _, by intro h; cases h⟩ ?_
    clear hcs5 hcl5 cs hb5
    rintro h vs m7 hh ⟨w, to, left, cs, rfl, e7, hw7, hb7, hcl7, hll7, hct7, hpm, hbw⟩ self hself
    have hto := hpm.length_eq
    rw [List.length_append, List.length_range] at hto
    have hbm := Mem.rd_lt hb7
    have ho7 := ho1.mono e7
    have n7 := e7.next
    try simp (maxSteps := 4000000) (disch := first | omega | with_unfolding_all exact id rfl | with_unfolding_all exact Nat.le_of_ble_eq_true rfl | (simp only [Jd, Je, Jr, Js, Jt, Nat.reduceAdd, allOne, oneCell, Bool.and_self, Jc]; first | done | omega)) only [↓Qa, ↓Qb, Qd, Qe, Qf, Qg, Qh, Qi, Qj, Qk, Ql, Qm, Qn, Qo, Qp, Qq, Qr, Qs, Qt, Qu, Qv, Qw, Qx, Qy, ptrTo, Qz, QA, QB, QC, QD, QE, QF, QG, QH, QI, QJ, QK, QL, QM, QN, QO, QP, QQ, QR, QS, QT, QU, QV, QW, QX, QY, QZ, Ja, Jb, Jc, Jd, Je, Jf, Jg, Jh, Ji, Jj, Jk, Jl, Jm, Jn, Jo, Jp, Jq, Jr, Js, Jt, Nat.reduceAdd]
    refine oIf_dec (fun h3 => ?_) (fun h3 => ?_)
    · have h4 : h < kk := by omega
      have h5 : h < ol.length := by omega
      have h6 := hog _ (List.getElem_mem h5)
      have hcell : (ol.map fun (g : Nat) => Value.int .u8 (g : Int))[0 + h * 1]? = some (.int .u8 (ol[h] : Int)) := by
        rw [show 0 + h * 1 = h by omega, List.getElem?_map, List.getElem?_eq_getElem h5]; rfl
      rw [iaA_e (by omega), oOpt_e, ld1_u, ho7.rd, rdo_e, hcell, oOpt_e, oCv_nat (by omega), ln_e, oOpt_e, oInt_remN (by omega)]
      have hq : ol[h] % (i - h) < i - h := Nat.mod_lt _ (by omega)
      generalize ol[h] % (i - h) = q at hq ⊢
      have hql : q < left.length := by omega
      have hcq : cs[0 + q * 1]? = some (.int .i64 ((left[q] : Nat) : Int)) := by
        have := congrArg (fun x => x[q]?) hct7
        simp only [List.getElem?_take, if_pos hq] at this
        rw [show 0 + q * 1 = q by omega, this]
        simp [ci, hql]
      rw [ia_e (sz := 1) hq, oOpt_e, ld1_u, hb7, rdo_e, hcq, oOpt_e]
      obtain ⟨u2, m8, h8, h9, e8, h10, hkeep⟩ := GN.snoc3 (P := Try.prog) (t := 22) (L := L) (m0 := m1) left[q] ael22 (by omega) hw7 (by omega) (by omega) e7 (Nat.le_refl _)
      have hb8 : m8.rd b = some ⟨1, cs, none⟩ := (hkeep _ hbm hbw).trans hb7
      rw [bs22, oRes_e, h8, oRes_e, oInt_add ⟨by omega, by omega⟩]
      refine delete_sp (l := left) hlf (by omega) hb8 hcl7 (by omega) (by omega) hll7 hct7 hq fun m10 cs2 hk10 hn10 hb10 hcl10 hct10 => ?_
      rw [oInt_add ⟨by omega, by omega⟩]
      refine hself h4 _ _ ⟨u2, to ++ [left[q]], left.eraseIdx q, cs2, rfl, ⟨by have := e8.next; omega, fun c hc => ?_⟩, ?_, hb10, hcl10, ?_, ?_, ?_, ?_⟩
      · rw [hk10 c (by omega), e8.kept c hc]
      · rcases h9 with ⟨a1, a2, a3⟩ | ⟨b2, a1, a2, a3, a4⟩
        · exact .inl ⟨a1, a2, a3⟩
        · refine .inr ⟨b2, by omega, a2, ?_, a4⟩
          rw [hk10 _ (by omega), a3]
      · rw [List.length_eraseIdx, if_pos hql]; omega
      · rw [show i - (h + 1) = i - h - 1 by omega]; exact hct10
      · refine List.Perm.trans ?_ hpm
        rw [List.append_assoc]
        refine List.Perm.append_left _ ?_
        rw [erase_take]
        refine (List.perm_middle.symm : (left[q] :: (left.take q ++ left.drop (q + 1))).Perm _).trans ?_
        rw [← List.drop_eq_getElem_cons hql, List.take_append_drop]
      · intro hb; have := h9.fr b hb; omega
    · have h4 : h = kk := by omega
      subst h4
      clear hself h3 hb7 hct7 hbm hbw
      have hnd : (to ++ left).Nodup := hpm.nodup_iff.2 List.nodup_range
      have hton : to.Nodup := (List.nodup_append.1 hnd).1
      have htol : ∀ x ∈ to, x < i := fun x hx => List.mem_range.1 (hpm.mem_iff.1 (List.mem_append_left _ hx))
      have htlen : to.length = h := by omega
      rw [r55]
      refine sort_sp hw7 (L := L) (by omega) e7 (Nat.le_refl _) (by rw [ci_length]; omega) fun m8 e8 hu8 _ _ => ?_
      have hi1 := isort_nodup htol hton
      have hlen := congrArg List.length hi1
      rw [isortI_length, ci_length, ci_length] at hlen
      rw [hi1] at hu8
      refine hk _ _ _ (g1.trans e8) hu8.il ⟨filter_asc _ (range_asc i), fun x hx => List.mem_range.1 (List.mem_filter.1 hx).1, by omega⟩
theorem others_sp {N : Nat} {l : List Nat} {v : Value} {b : Nat} (hlf : 1000000 ≤ lf) (hN : N ≤ 10) (hL : L ≤ m.next) (hv : IN m v l) (hl : l.length < 1000000) (hb : At m b [.int .i64 (N : Int)])
    (hk : ∀ u m', Gt m m' → IN m' u (oth N l) → k u m' = some ()) : runT (tab lf) (n + 3) 51 [v, .pointer (some ⟨b, 0, none⟩)] L m k = some () := by
  rw [r51]
  dsimp only [S51, iofNat, inegSucc]
  try simp (disch := first | omega | with_unfolding_all exact id rfl | with_unfolding_all exact Nat.le_of_ble_eq_true rfl | (simp only [Jd, Je, Jr, Js, Jt, Nat.reduceAdd, allOne, oneCell, Bool.and_self, Jc]; first | done | omega)) only [hb.rd, ↓Qa, ↓Qb, ↓Qc, Qd, Qe, Qf, Qg, Qh, Qi, Qj, Qk, Ql, Qm, Qn, Qo, Qp, Qq, Qr, Qs, Qt, Qu, Qv, Qw, Qx, Qy, ptrTo, Qz, QA, QB, QC, QD, QE, QF, QG, QH, QI, QJ, QK, QL, QM, QN, QO, QP, QQ, QR, QS, QT, QU, QV, QW, QX, QY, QZ, Ja, Jb, Jc, Jd, Je, Jf, Jg, Jh, Ji, Jj, Jk, Jl, Jm, Jn, Jo, Jp, Jq, Jr, Js, Jt, Nat.reduceAdd]
  have hstep : ∀ i, i < N → oth (i + 1) l = if i ∈ l then oth i l else oth i l ++ [i] := fun i _ => by
    unfold oth
    rw [List.range_succ, List.filter_append]
    by_cases h : i ∈ l <;> simp [h]
  have hlen : ∀ i, (oth i l).length ≤ i := fun i => by
    have := List.length_filter_le (fun x => !decide (x ∈ l)) (List.range i)
    rw [List.length_range] at this
    exact this
  refine loop_up N (fun i vs m' => ∃ u, vs = [u, .int .i64 (i : Int)] ∧ Gt m m' ∧ GN m.next m' u (oth i l)) (by omega) ⟨_, rfl, Gt.refl _, GN.nil _ _⟩ ?_
  rintro i vs m5 hi ⟨w, rfl, e5, hw⟩ self hself
  have n5 := e5.next
  try simp (disch := first | omega | with_unfolding_all exact id rfl | with_unfolding_all exact Nat.le_of_ble_eq_true rfl | (simp only [Jd, Je, Jr, Js, Jt, Nat.reduceAdd, allOne, oneCell, Bool.and_self, Jc]; first | done | omega)) only [↓Qa, ↓Qb, Qd, Qe, Qf, Qg, Qh, Qi, Qj, Qk, Ql, Qm, Qn, Qo, Qp, Qq, Qr, Qs, Qt, Qu, Qv, Qw, Qx, Qy, ptrTo, Qz, QA, QB, QC, QD, QE, QF, QG, QH, QI, QJ, QK, QL, QM, QN, QO, QP, QQ, QR, QS, QT, QU, QV, QW, QX, QY, QZ, Ja, Jb, Jc, Jd, Je, Jf, Jg, Jh, Ji, Jj, Jk, Jl, Jm, Jn, Jo, Jp, Jq, Jr, Js, Jt, Nat.reduceAdd]
  refine oIf_dec (fun h3 => ?_) (fun h3 => ?_)
  · have h4 : i < N := by omega
    have := hstep i h4
    refine contains_sp hlf (hv.mono e5) hl ?_
    by_cases h : i ∈ l
    · rw [if_pos h] at this
      try simp (disch := first | omega | with_unfolding_all exact id rfl | with_unfolding_all exact Nat.le_of_ble_eq_true rfl | (simp only [Jd, Je, Jr, Js, Jt, Nat.reduceAdd, allOne, oneCell, Bool.and_self, Jc]; first | done | omega)) only [decide_eq_true h, ↓Qa, ↓Qb, Qd, Qe, Qf, Qg, Qh, Qi, Qj, Qk, Ql, Qm, Qn, Qo, Qp, Qq, Qr, Qs, Qt, Qu, Qv, Qw, Qx, Qy, ptrTo, Qz, QA, QB, QC, QD, QE, QF, QG, QH, QI, QJ, QK, QL, QM, QN, QO, QP, QQ, QR, QS, QT, QU, QV, QW, QX, QY, QZ, Ja, Jb, Jc, Jd, Je, Jf, Jg, Jh, Ji, Jj, Jk, Jl, Jm, Jn, Jo, Jp, Jq, Jr, Js, Jt, Nat.reduceAdd]
      repeat (rw [join_e]; try simp (disch := first | omega | with_unfolding_all exact id rfl | with_unfolding_all exact Nat.le_of_ble_eq_true rfl | (simp only [Jd, Je, Jr, Js, Jt, Nat.reduceAdd, allOne, oneCell, Bool.and_self, Jc]; first | done | omega)) only [↓Qa, ↓Qb, Qd, Qe, Qf, Qg, Qh, Qi, Qj, Qk, Ql, Qm, Qn, Qo, Qp, Qq, Qr, Qs, Qt, Qu, Qv, Qw, Qx, Qy, ptrTo, Qz, QA, QB, QC, QD, QE, QF, QG, QH, QI, QJ, QK, QL, QM, QN, QO, QP, QQ, QR, QS, QT, QU, QV, QW, QX, QY, QZ, Ja, Jb, Jc, Jd, Je, Jf, Jg, Jh, Ji, Jj, Jk, Jl, Jm, Jn, Jo, Jp, Jq, Jr, Js, Jt, Nat.reduceAdd])
      rw [oInt_add ⟨by omega, by omega⟩]
      refine hself h4 _ _ ⟨w, rfl, e5, by rw [this]; exact hw⟩
    · rw [if_neg h] at this
      obtain ⟨w2, m6, h8, h9, h10, h11⟩ := GN.snoc (P := Try.prog) (t := 22) (L := L) (m0 := m) i ael22 (by omega) hw (by have := hlen i; omega) (by omega) e5 (Nat.le_refl _)
      try simp (disch := first | omega | with_unfolding_all exact id rfl | with_unfolding_all exact Nat.le_of_ble_eq_true rfl | (simp only [Jd, Je, Jr, Js, Jt, Nat.reduceAdd, allOne, oneCell, Bool.and_self, Jc]; first | done | omega)) only [decide_eq_false h, bs22, h8, ↓Qa, ↓Qb, Qd, Qe, Qf, Qg, Qh, Qi, Qj, Qk, Ql, Qm, Qn, Qo, Qp, Qq, Qr, Qs, Qt, Qu, Qv, Qw, Qx, Qy, ptrTo, Qz, QA, QB, QC, QD, QE, QF, QG, QH, QI, QJ, QK, QL, QM, QN, QO, QP, QQ, QR, QS, QT, QU, QV, QW, QX, QY, QZ, Ja, Jb, Jc, Jd, Je, Jf, Jg, Jh, Ji, Jj, Jk, Jl, Jm, Jn, Jo, Jp, Jq, Jr, Js, Jt, Nat.reduceAdd]
      repeat (rw [join_e]; try simp (disch := first | omega | with_unfolding_all exact id rfl | with_unfolding_all exact Nat.le_of_ble_eq_true rfl | (simp only [Jd, Je, Jr, Js, Jt, Nat.reduceAdd, allOne, oneCell, Bool.and_self, Jc]; first | done | omega)) only [↓Qa, ↓Qb, Qd, Qe, Qf, Qg, Qh, Qi, Qj, Qk, Ql, Qm, Qn, Qo, Qp, Qq, Qr, Qs, Qt, Qu, Qv, Qw, Qx, Qy, ptrTo, Qz, QA, QB, QC, QD, QE, QF, QG, QH, QI, QJ, QK, QL, QM, QN, QO, QP, QQ, QR, QS, QT, QU, QV, QW, QX, QY, QZ, Ja, Jb, Jc, Jd, Je, Jf, Jg, Jh, Ji, Jj, Jk, Jl, Jm, Jn, Jo, Jp, Jq, Jr, Js, Jt, Nat.reduceAdd])
      rw [oInt_add ⟨by omega, by omega⟩]
      refine hself h4 _ _ ⟨w2, rfl, h10, by rw [this]; exact h9.le n5⟩
  · have h4 : i = N := by omega
    subst h4
    exact hk _ _ e5 hw.inn
end
end Go.Vit

/- Walks: Clone, missing, valid, apart, out1, Way. -/
namespace Go.Vit
open Go Go.Proofs
attribute [local irreducible] runT loopS
theorem bs220 (m : Mem) : bs Try.prog m 22 0 [] = some (slTo 0 m.next, m.push ⟨1, [], none⟩) := (show _ = anew m 1 [] (slTo 0) by kernel_rfl).trans (anew_eq ..)
theorem az3 : azero Try.prog 3 = some [.int .i64 0] := by kernel_rfl
theorem tby3 : tbytes Try.prog 3 = some 8 := by kernel_rfl
theorem ael37 : aelem Try.prog 37 = some (1, 24) := by kernel_rfl
theorem bs37 (m : Mem) (p : Option Addr) (n c : Nat) : bs Try.prog m 37 1 [(0, .slice p n c)] = some (slTo 1 m.next, m.push ⟨1, [.slice p n c], none⟩) :=
  (show _ = anew m 1 [.slice p n c] (slTo 1) by kernel_rfl).trans (anew_eq ..)
theorem bs37L {m : Mem} {v : Value} {l : List Nat} {m2 : Mem} (hv : IN m2 v l) : bs Try.prog m 37 1 [(0, v)] = some (slTo 1 m.next, m.push ⟨1, [v], none⟩) := by
  obtain ⟨p, c, rfl⟩ := hv.ex
  exact bs37 ..
theorem abin_snil (p : Option Addr) (n c : Nat) : abin Try.prog .eql 22 (.slice p n c) (.slice none 0 0) = some (.bool p.isNone) := by
  cases p with
  | none => kernel_rfl
  | some a => kernel_rfl
theorem make22 (m : Mem) {a : Nat} (ha : a ≤ 1000) : amakeSlice Try.prog m 22 (.int .i64 (a : Int)) (.int .i64 (a : Int)) = some (.slice (some ⟨m.next, 0, none⟩) a a, m.push ⟨1, azrow [.int .i64 0] a, none⟩) := by
  unfold amakeSlice
  have h1 : anat (.int .i64 (a : Int)) = some a := by
    show anat (.int .i64 (Int.ofNat a)) = _
    simp only [anat, natK_eq]
  simp only [u22, az3, ts3, tby3, h1]
  have h2 : Nat.mul 8 a = 8 * a := rfl
  rw [h2, ble_t (Nat.le_refl a), ble_t (show a ≤ 1048576 by omega), ble_t (show 8 * a ≤ 281474976710656 by omega)]
  simp only [List.length_singleton, Nat.beq_refl, Bool.and_self, anew_eq]
theorem copy22 {L : Nat} {m : Mem} {b n : Nat} {x : Option Nat} {cs : List Value} {v : Value} {l : List Nat} (hL : L ≤ b) (hb : m.rd b = some ⟨1, cs, none⟩) (hc : cs.length = n) (hv : IN m v l) (hl : l.length = n) :
    ∃ r m', acopy Try.prog L m 22 (.slice (some ⟨b, 0, x⟩) n n) v = some (r, m') ∧ m'.rd b = some ⟨1, (ci l).map (Value.int .i64), none⟩ ∧ (∀ c, c ≠ b → m'.rd c = m.rd c) ∧ m'.next = m.next := by
  have h1 : Sl 1 m v l.length ((ci l).map (Value.int .i64)) := by
    have := hv; unfold IN IL at this; rwa [ci_length] at this
  have h2 : ((ci l).map (Value.int .i64)).length = n := by rw [List.length_map, ci_length, hl]
  unfold acopy
  simp only [u22, ts3, h1.1, hl, natK_eq, nmin_eq, Nat.min_self]
  cases n with
  | zero =>
    refine ⟨_, m, rfl, ?_, fun _ _ => rfl, rfl⟩
    rw [hb, List.length_eq_zero_iff.1 hc, List.length_eq_zero_iff.1 h2]
  | succ j =>
    have h3 : ((ci l).map (Value.int .i64)).take (Nat.mul (Nat.succ j) 1) = (ci l).map (Value.int .i64) := by
      rw [show Nat.mul (Nat.succ j) 1 = j + 1 from Nat.mul_one _, List.take_of_length_le (by omega)]
    have h4 := awr_e (L := L) (o := 0) (vs := (ci l).map (Value.int .i64)) hL hb (by omega) (allOne_map _)
    simp only [h3, h4]
    refine ⟨_, _, rfl, ?_, fun c hcb => rd_other hcb, rfl⟩
    rw [Mem.rd_put_eq _ _ (Mem.rd_lt hb), List.take_zero, List.nil_append, List.drop_eq_nil_of_le (by omega), List.append_nil]
def hdI : List Nat → Int
  | [] => -1
  | x :: _ => (x : Int)
def misI (a b : List Nat) : Int := hdI (less a b)
section
variable {lf n L : Nat} {m : Mem} {k : Value → Mem → Option Unit}
theorem clone_sp {v : Value} {l : List Nat} (hL : L ≤ m.next) (hv : IN m v l) (hnil : v = .slice none 0 0 → l = []) (hl : l.length < 1000000)
    (hk : ∀ u m', Gt m m' → IN m' u l → (∀ c, bid u = some c → m.next ≤ c ∧ c < m'.next) → k u m' = some ()) : runT (tab lf) (n + 1) 73 [v] L m k = some () := by
  rw [r73]
  dsimp only [S73, iofNat, inegSucc]
  obtain ⟨q, c, rfl⟩ := hv.ex
  cases q with
  | none =>
    try simp (disch := first | omega | with_unfolding_all exact id rfl | with_unfolding_all exact Nat.le_of_ble_eq_true rfl | (simp only [Jd, Je, Jr, Js, Jt, Nat.reduceAdd, allOne, oneCell, Bool.and_self, Jc]; first | done | omega)) only [abin_snil, Option.isNone_none, ↓Qa, ↓Qb, ↓Qc, Qd, Qe, Qf, Qg, Qh, Qi, Qj, Qk, Ql, Qm, Qn, Qo, Qp, Qq, Qr, Qs, Qt, Qu, Qv, Qw, Qx, Qy, ptrTo, Qz, QA, QB, QC, QD, QE, QF, QG, QH, QI, QJ, QK, QL, QM, QN, QO, QP, QQ, QR, QS, QT, QU, QV, QW, QX, QY, QZ, Ja, Jb, Jc, Jd, Je, Jf, Jg, Jh, Ji, Jj, Jk, Jl, Jm, Jn, Jo, Jp, Jq, Jr, Js, Jt, Nat.reduceAdd]
    have h0 : l = [] := by
      rcases hv with ⟨h1, h2 | ⟨b, o, x, c', h2⟩⟩
      · exact hnil h2
      · cases h2
    subst h0
    exact hk _ m (Gt.refl _) (GN.nil 0 _).inn (fun c hc => by cases hc)
  | some q =>
    try simp (disch := first | omega | with_unfolding_all exact id rfl | with_unfolding_all exact Nat.le_of_ble_eq_true rfl | (simp only [Jd, Je, Jr, Js, Jt, Nat.reduceAdd, allOne, oneCell, Bool.and_self, Jc]; first | done | omega)) only [abin_snil, Option.isNone_some, bs220, ↓Qa, ↓Qb, ↓Qc, Qd, Qe, Qf, Qg, Qh, Qi, Qj, Qk, Ql, Qm, Qn, Qo, Qp, Qq, Qr, Qs, Qt, Qu, Qv, Qw, Qx, Qy, ptrTo, Qz, QA, QB, QC, QD, QE, QF, QG, QH, QI, QJ, QK, QL, QM, QN, QO, QP, QQ, QR, QS, QT, QU, QV, QW, QX, QY, QZ, Ja, Jb, Jc, Jd, Je, Jf, Jg, Jh, Ji, Jj, Jk, Jl, Jm, Jn, Jo, Jp, Jq, Jr, Js, Jt, Nat.reduceAdd]
    have g1 := Mem.gt_push m ⟨1, [], none⟩
    have hx : IN (m.push ⟨1, [], none⟩) (.slice (some q) l.length c) l := hv.mono g1
    have h1 : Sl 1 (m.push ⟨1, [], none⟩) (.slice (some q) l.length c) l.length ((ci l).map (Value.int .i64)) := by
      have := hx; unfold IN IL at this; rwa [ci_length] at this
    cases hl0 : l.length with
    | zero =>
      have h0 : l = [] := List.length_eq_zero_iff.1 hl0
      subst h0
      have hap : aappend Try.prog L (m.push ⟨1, [], none⟩) 22 (slTo 0 m.next) (.slice (some q) 0 c) = some (slTo 0 m.next, m.push ⟨1, [], none⟩) := by
        unfold aappend slTo
        rw [ael22]
        have := h1.1
        simp only [List.length_nil] at this
        simp only [this, natK_eq]
      rw [hap, oRes_e]
      refine hk _ _ g1 ⟨rfl, .inr ⟨_, _, _, _, rfl⟩⟩ (fun c hc => ?_)
      cases hc
      exact ⟨Nat.le_refl _, by rw [Mem.push_next]; omega⟩
    | succ j =>
      have hap : aappend Try.prog L (m.push ⟨1, [], none⟩) 22 (slTo 0 m.next) (.slice (some q) (j + 1) c) = some (slTo l.length ((m.push ⟨1, [], none⟩).put m.next none).next, ((m.push ⟨1, [], none⟩).put m.next none).push ⟨1, (ci l).map (Value.int .i64), none⟩) := by
        have hr := roomy_of (n := l.length) (y := 8) (by omega) (by omega)
        unfold aappend slTo
        rw [ael22]
        rw [hl0] at h1 hr ⊢
        simp only [h1.1, natK_eq]
        have hrd : rdc (m.push ⟨1, [], none⟩) m.next 0 (Nat.mul 0 1) = some [] := rdc_e (s := 1) (Mem.rd_push m ⟨1, [], none⟩) (by decide)
        have hn0 : Nat.add 0 (Nat.succ j) = j + 1 := Nat.zero_add _
        simp only [hn0, hr, hrd, ble_t (show L ≤ m.next from hL), Mem.rd_push, Nat.ble_eq_true_of_le (Nat.le_refl 0), List.nil_append, anew_eq, allOne_map]
        rfl
      rw [hap, oRes_e]
      have hnx : ((m.push ⟨1, [], none⟩).put m.next none).next = m.next + 1 := by rw [Mem.put_next', Mem.push_next]
      have hgn : GN m.next (((m.push ⟨1, [], none⟩).put m.next none).push ⟨1, (ci l).map (Value.int .i64), none⟩) (slTo l.length ((m.push ⟨1, [], none⟩).put m.next none).next) l := by
        refine .inr ⟨_, ?_, ?_, Mem.rd_push _ _, ?_, ?_⟩
        · rw [hnx]; omega
        · rw [ci_length]; rfl
        · simp [ci]
        · rw [ci_length]; omega
      exact hk _ _ ((Mem.put_gt g1 none (Nat.le_refl _)).trans (Mem.gt_push _ _)) hgn.inn (Gs.bid_lt hgn)
theorem missing_sp {v u : Value} {a b : List Nat} (hlf : 1000000 ≤ lf) (hv : IN m v a) (hu : IN m u b) (hl : a.length < 1000000) (hl2 : b.length < 1000000)
    (hk : k (.int .i64 (misI a b)) m = some ()) : runT (tab lf) (n + 3) 68 [v, u] L m k = some () := by
  rw [r68]; dsimp only [S68, iofNat, inegSucc]
  try simp (disch := first | omega | with_unfolding_all exact id rfl | with_unfolding_all exact Nat.le_of_ble_eq_true rfl | (simp only [Jd, Je, Jr, Js, Jt, Nat.reduceAdd, allOne, oneCell, Bool.and_self, Jc]; first | done | omega)) only [hv.ln, ↓Qa, ↓Qb, ↓Qc, Qd, Qe, Qf, Qg, Qh, Qi, Qj, Qk, Ql, Qm, Qn, Qo, Qp, Qq, Qr, Qs, Qt, Qu, Qv, Qw, Qx, Qy, ptrTo, Qz, QA, QB, QC, QD, QE, QF, QG, QH, QI, QJ, QK, QL, QM, QN, QO, QP, QQ, QR, QS, QT, QU, QV, QW, QX, QY, QZ, Ja, Jb, Jc, Jd, Je, Jf, Jg, Jh, Ji, Jj, Jk, Jl, Jm, Jn, Jo, Jp, Jq, Jr, Js, Jt, Nat.reduceAdd]
  refine loop_up a.length (fun i vs m' => vs = [.int .i64 (i : Int)] ∧ m' = m ∧ less a b = less (a.drop i) b) (by omega) ⟨rfl, rfl, rfl⟩ ?_
  rintro i vs m' hi ⟨rfl, rfl, hI⟩ self hself
  try simp (disch := first | omega | with_unfolding_all exact id rfl | with_unfolding_all exact Nat.le_of_ble_eq_true rfl | (simp only [Jd, Je, Jr, Js, Jt, Nat.reduceAdd, allOne, oneCell, Bool.and_self, Jc]; first | done | omega)) only [↓Qa, ↓Qb, ↓Qc, Qd, Qe, Qf, Qg, Qh, Qi, Qj, Qk, Ql, Qm, Qn, Qo, Qp, Qq, Qr, Qs, Qt, Qu, Qv, Qw, Qx, Qy, ptrTo, Qz, QA, QB, QC, QD, QE, QF, QG, QH, QI, QJ, QK, QL, QM, QN, QO, QP, QQ, QR, QS, QT, QU, QV, QW, QX, QY, QZ, Ja, Jb, Jc, Jd, Je, Jf, Jg, Jh, Ji, Jj, Jk, Jl, Jm, Jn, Jo, Jp, Jq, Jr, Js, Jt, Nat.reduceAdd]
  refine oIf_dec (fun h => ?_) (fun h => ?_)
  · have hil : i < a.length := by omega
    rw [hv.ia hil, oOpt_e, hv.ld hil, oOpt_e]
    refine contains_sp hlf hu hl2 ?_
    rw [List.drop_eq_getElem_cons hil] at hI
    by_cases hb : a[i] ∈ b
    · try simp (disch := first | omega | with_unfolding_all exact id rfl | with_unfolding_all exact Nat.le_of_ble_eq_true rfl | (simp only [Jd, Je, Jr, Js, Jt, Nat.reduceAdd, allOne, oneCell, Bool.and_self, Jc]; first | done | omega)) only [decide_eq_true hb, ↓Qa, ↓Qb, ↓Qc, Qd, Qe, Qf, Qg, Qh, Qi, Qj, Qk, Ql, Qm, Qn, Qo, Qp, Qq, Qr, Qs, Qt, Qu, Qv, Qw, Qx, Qy, ptrTo, Qz, QA, QB, QC, QD, QE, QF, QG, QH, QI, QJ, QK, QL, QM, QN, QO, QP, QQ, QR, QS, QT, QU, QV, QW, QX, QY, QZ, Ja, Jb, Jc, Jd, Je, Jf, Jg, Jh, Ji, Jj, Jk, Jl, Jm, Jn, Jo, Jp, Jq, Jr, Js, Jt, Nat.reduceAdd]
      rw [oInt_add ⟨by omega, by omega⟩]
      refine hself hil _ _ ⟨rfl, rfl, ?_⟩
      rw [hI]; unfold less
      rw [List.filter_cons_of_neg (by simp [hb])]
    · try simp (disch := first | omega | with_unfolding_all exact id rfl | with_unfolding_all exact Nat.le_of_ble_eq_true rfl | (simp only [Jd, Je, Jr, Js, Jt, Nat.reduceAdd, allOne, oneCell, Bool.and_self, Jc]; first | done | omega)) only [decide_eq_false hb, ↓Qa, ↓Qb, ↓Qc, Qd, Qe, Qf, Qg, Qh, Qi, Qj, Qk, Ql, Qm, Qn, Qo, Qp, Qq, Qr, Qs, Qt, Qu, Qv, Qw, Qx, Qy, ptrTo, Qz, QA, QB, QC, QD, QE, QF, QG, QH, QI, QJ, QK, QL, QM, QN, QO, QP, QQ, QR, QS, QT, QU, QV, QW, QX, QY, QZ, Ja, Jb, Jc, Jd, Je, Jf, Jg, Jh, Ji, Jj, Jk, Jl, Jm, Jn, Jo, Jp, Jq, Jr, Js, Jt, Nat.reduceAdd]
      have : misI a b = (a[i] : Int) := by
        unfold misI
        rw [hI]; unfold less
        rw [List.filter_cons_of_pos (by simp [hb])]
        rfl
      rw [this] at hk
      exact hk
  · have : i = a.length := by omega
    subst this
    rw [List.drop_eq_nil_of_le (Nat.le_refl _)] at hI
    have : misI a b = -1 := by unfold misI; rw [hI]; rfl
    rw [this] at hk
    exact hk
theorem apart_sp {v u : Value} {a b : List Nat} (hlf : 1000000 ≤ lf) (hv : IN m v a) (hu : IN m u b) (hl : a.length < 1000000) (hl2 : b.length < 1000000)
    (hk : k (.int .i64 (awayN a b : Int)) m = some ()) : runT (tab lf) (n + 3) 47 [v, u] L m k = some () := by
  rw [r47]
  have h := away_sp (L := L) (n := n) hlf hv hu hl hl2 hk
  rw [r71] at h
  exact h
theorem out1_sp {v : Value} {l : List Nat} (hv : IN m v l) (hk : k (.int .i64 (hdI l)) m = some ()) : runT (tab lf) (n + 1) 50 [v] L m k = some () := by
  rw [r50]; dsimp only [S50, iofNat, inegSucc]
  try simp (disch := first | omega | with_unfolding_all exact id rfl | with_unfolding_all exact Nat.le_of_ble_eq_true rfl | (simp only [Jd, Je, Jr, Js, Jt, Nat.reduceAdd, allOne, oneCell, Bool.and_self, Jc]; first | done | omega)) only [hv.ln, ↓Qa, ↓Qb, ↓Qc, Qd, Qe, Qf, Qg, Qh, Qi, Qj, Qk, Ql, Qm, Qn, Qo, Qp, Qq, Qr, Qs, Qt, Qu, Qv, Qw, Qx, Qy, ptrTo, Qz, QA, QB, QC, QD, QE, QF, QG, QH, QI, QJ, QK, QL, QM, QN, QO, QP, QQ, QR, QS, QT, QU, QV, QW, QX, QY, QZ, Ja, Jb, Jc, Jd, Je, Jf, Jg, Jh, Ji, Jj, Jk, Jl, Jm, Jn, Jo, Jp, Jq, Jr, Js, Jt, Nat.reduceAdd]
  cases l with
  | nil =>
    try simp (disch := first | omega | with_unfolding_all exact id rfl | with_unfolding_all exact Nat.le_of_ble_eq_true rfl | (simp only [Jd, Je, Jr, Js, Jt, Nat.reduceAdd, allOne, oneCell, Bool.and_self, Jc]; first | done | omega)) only [↓Qa, ↓Qb, ↓Qc, Qd, Qe, Qf, Qg, Qh, Qi, Qj, Qk, Ql, Qm, Qn, Qo, Qp, Qq, Qr, Qs, Qt, Qu, Qv, Qw, Qx, Qy, ptrTo, Qz, QA, QB, QC, QD, QE, QF, QG, QH, QI, QJ, QK, QL, QM, QN, QO, QP, QQ, QR, QS, QT, QU, QV, QW, QX, QY, QZ, Ja, Jb, Jc, Jd, Je, Jf, Jg, Jh, Ji, Jj, Jk, Jl, Jm, Jn, Jo, Jp, Jq, Jr, Js, Jt, Nat.reduceAdd]
    exact hk
  | cons x l =>
    have h0 : ¬ (((l.length + 1 : Nat) : Int) = 0) := by omega
    have h1 : ia 1 v (.int .i64 0) = some (ep 1 v 0) := hv.ia (i := 0) (by simp)
    have h2 := hv.ld (i := 0) (by simp)
    try simp (disch := first | omega | with_unfolding_all exact id rfl | with_unfolding_all exact Nat.le_of_ble_eq_true rfl | (simp only [Jd, Je, Jr, Js, Jt, Nat.reduceAdd, allOne, oneCell, Bool.and_self, Jc]; first | done | omega)) only [decide_eq_false h0, h1, h2, ↓Qa, ↓Qb, ↓Qc, Qd, Qe, Qf, Qg, Qh, Qi, Qj, Qk, Ql, Qm, Qn, Qo, Qp, Qq, Qr, Qs, Qt, Qu, Qv, Qw, Qx, Qy, ptrTo, Qz, QA, QB, QC, QD, QE, QF, QG, QH, QI, QJ, QK, QL, QM, QN, QO, QP, QQ, QR, QS, QT, QU, QV, QW, QX, QY, QZ, Ja, Jb, Jc, Jd, Je, Jf, Jg, Jh, Ji, Jj, Jk, Jl, Jm, Jn, Jo, Jp, Jq, Jr, Js, Jt, Nat.reduceAdd]
    exact hk
theorem valid_sp {v : Value} {l : List Nat} {N kk : Nat} (hlf : 1000000 ≤ lf) (hv : IN m v l) (hb : Bl N kk l) (hN : N ≤ 10) (hk : k (.bool true) m = some ()) : runT (tab lf) (n + 1) 46 [v, .int .i64 (N : Int), .int .i64 (kk : Int)] L m k = some () := by
  have hkk := hb.le
  have hlen := hb.len
  rw [r46]; dsimp only [S46, iofNat, inegSucc]
  try simp (disch := first | omega | with_unfolding_all exact id rfl | with_unfolding_all exact Nat.le_of_ble_eq_true rfl | (simp only [Jd, Je, Jr, Js, Jt, Nat.reduceAdd, allOne, oneCell, Bool.and_self, Jc]; first | done | omega)) only [hv.ln, ↓Qa, ↓Qb, Qd, Qe, Qf, Qg, Qh, Qi, Qj, Qk, Ql, Qm, Qn, Qo, Qp, Qq, Qr, Qs, Qt, Qu, Qv, Qw, Qx, Qy, ptrTo, Qz, QA, QB, QC, QD, QE, QF, QG, QH, QI, QJ, QK, QL, QM, QN, QO, QP, QQ, QR, QS, QT, QU, QV, QW, QX, QY, QZ, Ja, Jb, Jc, Jd, Je, Jf, Jg, Jh, Ji, Jj, Jk, Jl, Jm, Jn, Jo, Jp, Jq, Jr, Js, Jt, Nat.reduceAdd]
  refine loop_up l.length (fun i vs m' => vs = [.int .i64 (i : Int)] ∧ m' = m) (by omega) ⟨rfl, rfl⟩ ?_
  rintro i vs m' hi ⟨rfl, rfl⟩ self hself
  try simp (disch := first | omega | with_unfolding_all exact id rfl | with_unfolding_all exact Nat.le_of_ble_eq_true rfl | (simp only [Jd, Je, Jr, Js, Jt, Nat.reduceAdd, allOne, oneCell, Bool.and_self, Jc]; first | done | omega)) only [↓Qa, ↓Qb, Qd, Qe, Qf, Qg, Qh, Qi, Qj, Qk, Ql, Qm, Qn, Qo, Qp, Qq, Qr, Qs, Qt, Qu, Qv, Qw, Qx, Qy, ptrTo, Qz, QA, QB, QC, QD, QE, QF, QG, QH, QI, QJ, QK, QL, QM, QN, QO, QP, QQ, QR, QS, QT, QU, QV, QW, QX, QY, QZ, Ja, Jb, Jc, Jd, Je, Jf, Jg, Jh, Ji, Jj, Jk, Jl, Jm, Jn, Jo, Jp, Jq, Jr, Js, Jt, Nat.reduceAdd]
  refine oIf_dec (fun h => ?_) (fun h => ?_)
  · have hil : i < l.length := by omega
    have hx := hb.lt _ (List.getElem_mem hil)
    have f1 : decide ((l[i] : Int) < 0) = false := decide_eq_false (by omega)
    have f2 : decide ((N : Int) ≤ (l[i] : Int)) = false := decide_eq_false (by omega)
    try simp (disch := first | omega | with_unfolding_all exact id rfl | with_unfolding_all exact Nat.le_of_ble_eq_true rfl | (simp only [Jd, Je, Jr, Js, Jt, Nat.reduceAdd, allOne, oneCell, Bool.and_self, Jc]; first | done | omega)) only [hv.ia hil, hv.ld hil, f1, f2, ↓Qa, ↓Qb, Qd, Qe, Qf, Qg, Qh, Qi, Qj, Qk, Ql, Qm, Qn, Qo, Qp, Qq, Qr, Qs, Qt, Qu, Qv, Qw, Qx, Qy, ptrTo, Qz, QA, QB, QC, QD, QE, QF, QG, QH, QI, QJ, QK, QL, QM, QN, QO, QP, QQ, QR, QS, QT, QU, QV, QW, QX, QY, QZ, Ja, Jb, Jc, Jd, Je, Jf, Jg, Jh, Ji, Jj, Jk, Jl, Jm, Jn, Jo, Jp, Jq, Jr, Js, Jt, Nat.reduceAdd]
    rw [join_e]
    try simp (disch := first | omega | with_unfolding_all exact id rfl | with_unfolding_all exact Nat.le_of_ble_eq_true rfl | (simp only [Jd, Je, Jr, Js, Jt, Nat.reduceAdd, allOne, oneCell, Bool.and_self, Jc]; first | done | omega)) only [f1, f2, ↓Qa, ↓Qb, Qd, Qe, Qf, Qg, Qh, Qi, Qj, Qk, Ql, Qm, Qn, Qo, Qp, Qq, Qr, Qs, Qt, Qu, Qv, Qw, Qx, Qy, ptrTo, Qz, QA, QB, QC, QD, QE, QF, QG, QH, QI, QJ, QK, QL, QM, QN, QO, QP, QQ, QR, QS, QT, QU, QV, QW, QX, QY, QZ, Ja, Jb, Jc, Jd, Je, Jf, Jg, Jh, Ji, Jj, Jk, Jl, Jm, Jn, Jo, Jp, Jq, Jr, Js, Jt, Nat.reduceAdd]
    rw [join_e]
    by_cases h0 : i = 0
    · subst h0
      have f3 : decide ((0 : Int) < ((0 : Nat) : Int)) = false := by decide
      try simp (disch := first | omega | with_unfolding_all exact id rfl | with_unfolding_all exact Nat.le_of_ble_eq_true rfl | (simp only [Jd, Je, Jr, Js, Jt, Nat.reduceAdd, allOne, oneCell, Bool.and_self, Jc]; first | done | omega)) only [f3, ↓Qa, ↓Qb, Qd, Qe, Qf, Qg, Qh, Qi, Qj, Qk, Ql, Qm, Qn, Qo, Qp, Qq, Qr, Qs, Qt, Qu, Qv, Qw, Qx, Qy, ptrTo, Qz, QA, QB, QC, QD, QE, QF, QG, QH, QI, QJ, QK, QL, QM, QN, QO, QP, QQ, QR, QS, QT, QU, QV, QW, QX, QY, QZ, Ja, Jb, Jc, Jd, Je, Jf, Jg, Jh, Ji, Jj, Jk, Jl, Jm, Jn, Jo, Jp, Jq, Jr, Js, Jt, Nat.reduceAdd]
      repeat (rw [join_e]; try simp (disch := first | omega | with_unfolding_all exact id rfl | with_unfolding_all exact Nat.le_of_ble_eq_true rfl | (simp only [Jd, Je, Jr, Js, Jt, Nat.reduceAdd, allOne, oneCell, Bool.and_self, Jc]; first | done | omega)) only [f3, ↓Qa, ↓Qb, Qd, Qe, Qf, Qg, Qh, Qi, Qj, Qk, Ql, Qm, Qn, Qo, Qp, Qq, Qr, Qs, Qt, Qu, Qv, Qw, Qx, Qy, ptrTo, Qz, QA, QB, QC, QD, QE, QF, QG, QH, QI, QJ, QK, QL, QM, QN, QO, QP, QQ, QR, QS, QT, QU, QV, QW, QX, QY, QZ, Ja, Jb, Jc, Jd, Je, Jf, Jg, Jh, Ji, Jj, Jk, Jl, Jm, Jn, Jo, Jp, Jq, Jr, Js, Jt, Nat.reduceAdd])
      exact hself hil _ _ ⟨rfl, rfl⟩
    · have f3 : decide ((0 : Int) < (i : Int)) = true := decide_eq_true (by omega)
      have hi1 : i - 1 < l.length := by omega
      have hlt : l[i - 1] < l[i] := List.pairwise_iff_getElem.1 hb.asc (i - 1) i hi1 hil (by omega)
      have f4 : decide ((l[i] : Int) ≤ (l[i - 1] : Int)) = false := decide_eq_false (by omega)
      have f5 : ∀ K : Value → Option Unit, oInt .sub .i64 (.int .i64 (i : Int)) (.int .i64 1) K = K (.int .i64 ((i - 1 : Nat) : Int)) := fun K => by rw [oInt_sub ⟨by omega, by omega⟩, show (i : Int) - 1 = ((i - 1 : Nat) : Int) by omega]
      have f6 : ∀ K : Value → Option Unit, oInt .add .i64 (.int .i64 (i : Int)) (.int .i64 1) K = K (.int .i64 ((i + 1 : Nat) : Int)) := fun K => by rw [oInt_add ⟨by omega, by omega⟩]; rfl
      try simp (disch := first | omega | with_unfolding_all exact id rfl | with_unfolding_all exact Nat.le_of_ble_eq_true rfl | (simp only [Jd, Je, Jr, Js, Jt, Nat.reduceAdd, allOne, oneCell, Bool.and_self, Jc]; first | done | omega)) only [f3, f5, hv.ia hi1, hv.ld hi1, f4, f6, ↓Qa, ↓Qb, Qd, Qe, Qf, Qg, Qh, Qi, Qj, Qk, Ql, Qm, Qn, Qo, Qp, Qq, Qr, Qs, Qt, Qu, Qv, Qw, Qx, Qy, ptrTo, Qz, QA, QB, QC, QD, QE, QF, QG, QH, QI, QJ, QK, QL, QM, QN, QO, QP, QQ, QR, QS, QT, QU, QV, QW, QX, QY, QZ, Ja, Jb, Jc, Jd, Je, Jf, Jg, Jh, Ji, Jj, Jk, Jl, Jm, Jn, Jo, Jp, Jq, Jr, Js, Jt, Nat.reduceAdd]
      repeat (rw [join_e]; try simp (disch := first | omega | with_unfolding_all exact id rfl | with_unfolding_all exact Nat.le_of_ble_eq_true rfl | (simp only [Jd, Je, Jr, Js, Jt, Nat.reduceAdd, allOne, oneCell, Bool.and_self, Jc]; first | done | omega)) only [f3, f5, hv.ia hi1, hv.ld hi1, f4, f6, ↓Qa, ↓Qb, Qd, Qe, Qf, Qg, Qh, Qi, Qj, Qk, Ql, Qm, Qn, Qo, Qp, Qq, Qr, Qs, Qt, Qu, Qv, Qw, Qx, Qy, ptrTo, Qz, QA, QB, QC, QD, QE, QF, QG, QH, QI, QJ, QK, QL, QM, QN, QO, QP, QQ, QR, QS, QT, QU, QV, QW, QX, QY, QZ, Ja, Jb, Jc, Jd, Je, Jf, Jg, Jh, Ji, Jj, Jk, Jl, Jm, Jn, Jo, Jp, Jq, Jr, Js, Jt, Nat.reduceAdd])
      exact hself hil _ _ ⟨rfl, rfl⟩
  · try simp (disch := first | omega | with_unfolding_all exact id rfl | with_unfolding_all exact Nat.le_of_ble_eq_true rfl | (simp only [Jd, Je, Jr, Js, Jt, Nat.reduceAdd, allOne, oneCell, Bool.and_self, Jc]; first | done | omega)) only [hlen, ↓Qa, ↓Qb, Qd, Qe, Qf, Qg, Qh, Qi, Qj, Qk, Ql, Qm, Qn, Qo, Qp, Qq, Qr, Qs, Qt, Qu, Qv, Qw, Qx, Qy, ptrTo, Qz, QA, QB, QC, QD, QE, QF, QG, QH, QI, QJ, QK, QL, QM, QN, QO, QP, QQ, QR, QS, QT, QU, QV, QW, QX, QY, QZ, Ja, Jb, Jc, Jd, Je, Jf, Jg, Jh, Ji, Jj, Jk, Jl, Jm, Jn, Jo, Jp, Jq, Jr, Js, Jt, Nat.reduceAdd]
    exact hk
end
end Go.Vit

/- Walks: the way from one blend to another one. -/
namespace Go.Vit
open Go Go.Proofs
attribute [local irreducible] runT loopS
theorem in_full {m : Mem} {b n : Nat} {l : List Nat} (h : m.rd b = some ⟨1, (ci l).map (Value.int .i64), none⟩) (hl : l.length = n) : IN m (.slice (some ⟨b, 0, none⟩) n n) l := by
  have h1 : ((ci l).map (Value.int .i64)).length = n := by rw [List.length_map, ci_length, hl]
  have h2 := IL.of (x := none) (o := 0) (n := n) (c := n) h (by omega) (by rw [List.drop_zero, List.take_of_length_le (by omega)])
  exact h2
section
variable {lf n L : Nat} {m : Mem} {k : Value → Mem → Option Unit}
theorem way_sp {N kk : Nat} {v u : Value} {a b : List Nat} (hlf : 1000000 ≤ lf) (h1 : 1 ≤ N) (h10 : N ≤ 10) (hL : L ≤ m.next) (hv : IN m v a) (hu : IN m u b) (ha : Bl N kk a) (hb : Bl N kk b)
    (hk : ∀ w m', Gt m m' → LL m' w ((List.range (awayN a b + 1)).map (itr N b a)) → k (.tuple ⟨[w, .int .i64 0]⟩) m' = some ()) : runT (tab lf) (n + 4) 29 [.int .i64 (N : Int), v, u] L m k = some () := by
  have hkk := ha.le
  have l1 := ha.len
  have l2 := hb.len
  have hdk := (away_le ha hb).1
  rw [r29]; dsimp only [S29, iofNat, inegSucc]
  try simp (disch := first | omega | with_unfolding_all exact id rfl | with_unfolding_all exact Nat.le_of_ble_eq_true rfl | (simp only [Jd, Je, Jr, Js, Jt, Nat.reduceAdd, allOne, oneCell, Bool.and_self, Jc]; first | done | omega)) only [↓Qa, ↓Qb, ↓Qc, Qd, Qe, Qf, Qg, Qh, Qi, Qj, Qk, Ql, Qm, Qn, Qo, Qp, Qq, Qr, Qs, Qt, Qu, Qv, Qw, Qx, Qy, ptrTo, Qz, QA, QB, QC, QD, QE, QF, QG, QH, QI, QJ, QK, QL, QM, QN, QO, QP, QQ, QR, QS, QT, QU, QV, QW, QX, QY, QZ, Ja, Jb, Jc, Jd, Je, Jf, Jg, Jh, Ji, Jj, Jk, Jl, Jm, Jn, Jo, Jp, Jq, Jr, Js, Jt, Nat.reduceAdd]
  refine both_sp hlf hv hu (by rw [ci_length]; omega) (by rw [ci_length]; omega) ?_
  rw [chkB_ok h1 h10 ha, chkB_ok h1 h10 hb, if_pos rfl, if_pos rfl, if_pos (by rw [ci_length, ci_length]; omega)]
  have mk := make22 m (a := a.length) (by omega)
  try simp (disch := first | omega | with_unfolding_all exact id rfl | with_unfolding_all exact Nat.le_of_ble_eq_true rfl | (simp only [Jd, Je, Jr, Js, Jt, Nat.reduceAdd, allOne, oneCell, Bool.and_self, Jc]; first | done | omega)) only [hv.ln, mk, ↓Qa, ↓Qb, ↓Qc, Qd, Qe, Qf, Qg, Qh, Qi, Qj, Qk, Ql, Qm, Qn, Qo, Qp, Qq, Qr, Qs, Qt, Qu, Qv, Qw, Qx, Qy, ptrTo, Qz, QA, QB, QC, QD, QE, QF, QG, QH, QI, QJ, QK, QL, QM, QN, QO, QP, QQ, QR, QS, QT, QU, QV, QW, QX, QY, QZ, Ja, Jb, Jc, Jd, Je, Jf, Jg, Jh, Ji, Jj, Jk, Jl, Jm, Jn, Jo, Jp, Jq, Jr, Js, Jt, Nat.reduceAdd]
  have g1 := Mem.gt_push m ⟨1, azrow [.int .i64 0] a.length, none⟩
  have p1 : (m.push ⟨1, azrow [.int .i64 0] a.length, none⟩).rd m.next = some ⟨1, azrow [.int .i64 0] a.length, none⟩ := Mem.rd_push _ _
  have n1 : (m.push ⟨1, azrow [.int .i64 0] a.length, none⟩).next = m.next + 1 := Mem.push_next _ _
  generalize m.push ⟨1, azrow [.int .i64 0] a.length, none⟩ = m1 at g1 p1 n1 ⊢
  obtain ⟨r, m2, c1, c2, c3, c4⟩ := copy22 (L := L) (x := none) hL p1 (by rw [azrow_len]; simp) (hv.mono g1) rfl
  have g2 : Gt m m2 := ⟨by omega, fun c hc => (c3 c (by omega)).trans (g1.kept c hc)⟩
  rw [c1, oRes_e]
  have hnow := in_full c2 rfl
  refine clone_sp (by omega) hnow (fun h => by cases h) (by omega) fun w m3 e3 hw hwb => ?_
  have n3 := e3.next
  rw [bs37L hw, oRes_e]
  have hlg : LG (m.next + 1) (m3.push ⟨1, [w], none⟩) (slTo 1 m3.next) [a] := LG.one hw (fun c hc => by have := hwb c hc; omega) (by omega)
  have g4 := Mem.gt_push m3 ⟨1, [w], none⟩
  generalize m3.push ⟨1, [w], none⟩ = m4 at g4 hlg ⊢
  have G4 := (g2.trans e3).trans g4
  have p4 := (g4.kept _ (by omega)).trans ((e3.kept _ (by omega)).trans c2)
  refine away_sp hlf (hv.mono G4) (hu.mono G4) (by omega) (by omega) ?_
  refine loop_up (awayN a b) (fun i vs m' => ∃ x, vs = [x, .int .i64 (i : Int)] ∧ Gt m m' ∧ LG (m.next + 1) m' x ((List.range (i + 1)).map (itr N b a)) ∧ m'.rd m.next = some ⟨1, (ci (itr N b a i)).map (Value.int .i64), none⟩) (by omega) ⟨_, rfl, G4, hlg, p4⟩ ?_
  clear hlg p4 hnow hw hwb c2 p1
  rintro i vs m5 hi ⟨x, rfl, e5, hx, p5⟩ self hself
  have n5 := e5.next
  have lt5 := Mem.rd_lt p5
  try simp (disch := first | omega | with_unfolding_all exact id rfl | with_unfolding_all exact Nat.le_of_ble_eq_true rfl | (simp only [Jd, Je, Jr, Js, Jt, Nat.reduceAdd, allOne, oneCell, Bool.and_self, Jc]; first | done | omega)) only [↓Qa, ↓Qb, ↓Qc, Qd, Qe, Qf, Qg, Qh, Qi, Qj, Qk, Ql, Qm, Qn, Qo, Qp, Qq, Qr, Qs, Qt, Qu, Qv, Qw, Qx, Qy, ptrTo, Qz, QA, QB, QC, QD, QE, QF, QG, QH, QI, QJ, QK, QL, QM, QN, QO, QP, QQ, QR, QS, QT, QU, QV, QW, QX, QY, QZ, Ja, Jb, Jc, Jd, Je, Jf, Jg, Jh, Ji, Jj, Jk, Jl, Jm, Jn, Jo, Jp, Jq, Jr, Js, Jt, Nat.reduceAdd]
  refine oIf_dec (fun h => ?_) (fun h => ?_)
  · have hid : i < awayN a b := by omega
    obtain ⟨hA, hAw⟩ := itr_ok ha hb i (by omega)
    obtain ⟨o, j, hs⟩ := itr_step ha hb hid
    have hstep : itr N b a (i + 1) = exch N (itr N b a i) o j := hs.eq
    generalize hAA : itr N b a i = A at hA hAw hs hstep p5
    have hAl := hA.len
    rw [show a.length = kk from l1] at *
    have hnow := in_full p5 hAl
    have hu5 := hu.mono e5
    have mo : misI A b = (o : Int) := by unfold misI; rw [hs.l1]; rfl
    have mj : misI b A = (j : Int) := by unfold misI; rw [hs.l2]; rfl
    refine missing_sp hlf hnow hu5 (by omega) (by omega) ?_
    rw [mo]
    refine index_sp hlf hnow (by rw [ci_length]; omega) (fun q hq hqo _ => ?_) (fun hno => absurd (mem_ci.2 hs.oa) hno)
    rw [ci_length] at hq
    have hqo' : A[q] = o := by
      have : ((A[q] : Nat) : Int) = (o : Int) := by rw [← hqo]; simp [ci]
      omega
    refine missing_sp hlf hu5 hnow (by omega) (by omega) ?_
    rw [mj, ia_e (sz := 1) (show q < kk by omega), oOpt_e, show 0 + q * 1 = q by omega, st_int p5 (by rw [List.length_map, ci_length]; omega) hL, oRes_e]
    have hset : ((ci A).map (Value.int .i64)).set q (.int .i64 (j : Int)) = (ci (A.set q j)).map (Value.int .i64) := by
      unfold ci
      rw [List.map_set, List.map_set]
    rw [hset]
    have p6 : (m5.put m.next (some ⟨1, (ci (A.set q j)).map (Value.int .i64), none⟩)).rd m.next = some ⟨1, (ci (A.set q j)).map (Value.int .i64), none⟩ := Mem.rd_put_eq _ _ (Mem.rd_lt p5)
    have k6 : ∀ c, c ≠ m.next → (m5.put m.next (some ⟨1, (ci (A.set q j)).map (Value.int .i64), none⟩)).rd c = m5.rd c := fun c hc => rd_other hc
    have n6 : (m5.put m.next (some ⟨1, (ci (A.set q j)).map (Value.int .i64), none⟩)).next = m5.next := rfl
    generalize m5.put m.next (some ⟨1, (ci (A.set q j)).map (Value.int .i64), none⟩) = m6 at p6 k6 n6 ⊢
    have e6 : Gt m m6 := ⟨by omega, fun c hc => (k6 c (by omega)).trans (e5.kept c hc)⟩
    have hsl : (A.set q j).length = kk := by rw [List.length_set, hAl]
    have hgn : GN m.next m6 (.slice (some ⟨m.next, 0, none⟩) kk kk) (A.set q j) := by
      refine .inr ⟨m.next, Nat.le_refl _, ?_, p6, ?_, ?_⟩
      · rw [ci_length, hsl]
      · rw [List.length_map, Nat.mul_one]
      · rw [ci_length, hsl]; omega
    rw [r55]
    refine sort_sp hgn hL e6 (Nat.le_refl _) (by rw [ci_length]; omega) fun m7 e7 hg7 n7 k7 => ?_
    have hnd := asc_nodup hA.asc
    have hsm : isortI (ci (A.set q j)) = ci (itr N b a (i + 1)) := by
      rw [isort_nodup (n := N) (fun x hx => ?_) (set_nodup hnd hq hs.ia), hstep]
      · unfold exch
        congr 1
        refine List.filter_congr fun x hx => ?_
        rw [Bool.eq_iff_iff, List.contains_iff_mem, set_mem hnd hq hqo' hs.ia]
        simp
      · rcases (set_mem hnd hq hqo' hs.ia).1 hx with rfl | ⟨_, h⟩
        · exact hs.lt.2
        · exact hA.lt x h
    rw [hsm] at hg7
    have hA' := hs.bl
    have hAl' := hA'.len
    generalize hAe : itr N b a (i + 1) = A' at hg7 hA' hAl' hs hstep
    have p7 : m7.rd m.next = some ⟨1, (ci A').map (Value.int .i64), none⟩ := by
      rcases hg7 with ⟨h, _⟩ | ⟨b', _, h, hr, _⟩
      · cases h
      · injection h with h _ _
        cases h
        exact hr
    have mk := make22 m7 (a := kk) (by omega)
    rw [ln_e, oOpt_e, mk, oRes_e]
    have g8 := Mem.gt_push m7 ⟨1, azrow [.int .i64 0] kk, none⟩
    have p8 : (m7.push ⟨1, azrow [.int .i64 0] kk, none⟩).rd m7.next = some ⟨1, azrow [.int .i64 0] kk, none⟩ := Mem.rd_push _ _
    have n8 : (m7.push ⟨1, azrow [.int .i64 0] kk, none⟩).next = m7.next + 1 := Mem.push_next _ _
    generalize m7.push ⟨1, azrow [.int .i64 0] kk, none⟩ = m8 at g8 p8 n8 ⊢
    obtain ⟨r', m9, d1, d2, d3, d4⟩ := copy22 (L := L) (x := none) (show L ≤ m7.next by omega) p8 (by rw [azrow_len]; simp) ((in_full p7 hAl').mono g8) hAl'
    rw [d1, oRes_e]
    have hnew := in_full d2 hAl'
    rw [bs37L hnew, oRes_e]
    have hx9 := hx.keep (m' := m9) (fun c h1 h2 => ((d3 c (by omega)).trans (g8.kept c (by omega))).trans ((k7 c (fun h => by cases h; omega)).trans (k6 c (by omega)))) (by omega)
    have e9 : Gt m m9 := ⟨by omega, fun c hc => (d3 c (by omega)).trans ((g8.kept c (by omega)).trans (e7.kept c hc))⟩
    obtain ⟨y, m10, s1, s2, s3, s4, s5, s6⟩ := LG.snoc (P := Try.prog) (t := 37) (L := L) (m0 := m) ael37 (by omega) hx9 hnew (fun c hc => by cases hc; omega) (fun c hc hu => by cases hc; have := hx.fr _ hu; omega) (by rw [List.length_map, List.length_range]; omega) (by omega) e9 (by omega)
    rw [s1, oRes_e, oInt_add ⟨by omega, by omega⟩]
    refine hself hid _ _ ⟨y, rfl, s3, ?_, ?_⟩
    · rw [List.range_succ, List.map_append, List.map_cons, List.map_nil, hAe]
      exact s2
    · rw [hAe, s6 _ (by omega) (fun h => by have := hx.fr _ h; omega), d3 _ (by omega), g8.kept _ (by omega), p7]
  · have hid : i = awayN a b := by omega
    rw [hid] at hx
    exact hk _ _ e5 hx.ll
end
end Go.Vit

/- Walks: the reference's checks, leaves that must go out, and exchanges. -/
namespace Go.Vit
open Go Go.Proofs
attribute [local irreducible] runT loopS
section
variable {lf n L : Nat} {m : Mem} {k : Value → Mem → Option Unit}
theorem in_sp (a b c : Int) (hk : k (.bool (decide (b ≤ a ∧ a ≤ c))) m = some ()) : runT (tab lf) (n + 1) 67 [.int .i64 a, .int .i64 b, .int .i64 c] L m k = some () := by
  rw [r67]
  dsimp only [S67, iofNat, inegSucc]
  try simp (disch := first | omega | with_unfolding_all exact id rfl | with_unfolding_all exact Nat.le_of_ble_eq_true rfl | (simp only [Jd, Je, Jr, Js, Jt, Nat.reduceAdd, allOne, oneCell, Bool.and_self, Jc]; first | done | omega)) only [↓Qa, ↓Qb, ↓Qc, Qd, Qe, Qf, Qg, Qh, Qi, Qj, Qk, Ql, Qm, Qn, Qo, Qp, Qq, Qr, Qs, Qt, Qu, Qv, Qw, Qx, Qy, ptrTo, Qz, QA, QB, QC, QD, QE, QF, QG, QH, QI, QJ, QK, QL, QM, QN, QO, QP, QQ, QR, QS, QT, QU, QV, QW, QX, QY, QZ, Ja, Jb, Jc, Jd, Je, Jf, Jg, Jh, Ji, Jj, Jk, Jl, Jm, Jn, Jo, Jp, Jq, Jr, Js, Jt, Nat.reduceAdd]
  refine oGT_dec (fun h => ?_) (fun h => ?_)
  · simp only [h, true_and, ↓Qa, ↓Qb, ↓Qc, Qd, Qe, Qf, Qg, Qh, Qi, Qj, Qk, Ql, Qm, Qn, Qo, Qp, Qq, Qr, Qs, Qt, Qu, Qv, Qw, Qx, Qy, ptrTo, Qz, QA, QB, QC, QD, QE, QF, QG, QH, QI, QJ, QK, QL, QM, QN, QO, QP, QQ, QR, QS, QT, QU, QV, QW, QX, QY, QZ, Ja, Jb, Jc, Jd, Je, Jf, Jg, Jh, Ji, Jj, Jk, Jl, Jm, Jn, Jo, Jp, Jq, Jr, Js, Jt, Nat.reduceAdd] at hk ⊢; exact hk
  · simp only [h, false_and, ↓Qa, ↓Qb, ↓Qc, Qd, Qe, Qf, Qg, Qh, Qi, Qj, Qk, Ql, Qm, Qn, Qo, Qp, Qq, Qr, Qs, Qt, Qu, Qv, Qw, Qx, Qy, ptrTo, Qz, QA, QB, QC, QD, QE, QF, QG, QH, QI, QJ, QK, QL, QM, QN, QO, QP, QQ, QR, QS, QT, QU, QV, QW, QX, QY, QZ, Ja, Jb, Jc, Jd, Je, Jf, Jg, Jh, Ji, Jj, Jk, Jl, Jm, Jn, Jo, Jp, Jq, Jr, Js, Jt, Nat.reduceAdd] at hk ⊢; exact hk
theorem check26_sp {N : Int} {v : Value} {l : List Int} (hlf : 1000000 ≤ lf) (hv : IL m v l) (hl : l.length < 1000000) (hk : k (.int .i64 (chkB N l)) m = some ()) : runT (tab lf) (n + 2) 26 [.int .i64 N, v] L m k = some () := by
  rw [r26]; dsimp only [S26, iofNat, inegSucc]
  try simp (disch := first | omega | with_unfolding_all exact id rfl | with_unfolding_all exact Nat.le_of_ble_eq_true rfl | (simp only [Jd, Je, Jr, Js, Jt, Nat.reduceAdd, allOne, oneCell, Bool.and_self, Jc]; first | done | omega)) only [↓Qa, ↓Qb, ↓Qc, Qd, Qe, Qf, Qg, Qh, Qi, Qj, Qk, Ql, Qm, Qn, Qo, Qp, Qq, Qr, Qs, Qt, Qu, Qv, Qw, Qx, Qy, ptrTo, Qz, QA, QB, QC, QD, QE, QF, QG, QH, QI, QJ, QK, QL, QM, QN, QO, QP, QQ, QR, QS, QT, QU, QV, QW, QX, QY, QZ, Ja, Jb, Jc, Jd, Je, Jf, Jg, Jh, Ji, Jj, Jk, Jl, Jm, Jn, Jo, Jp, Jq, Jr, Js, Jt, Nat.reduceAdd]
  refine in_sp _ _ _ ?_
  by_cases hN : 1 ≤ N ∧ N ≤ 10
  · unfold chkB at hk
    rw [if_pos hN] at hk
    try simp (disch := first | omega | with_unfolding_all exact id rfl | with_unfolding_all exact Nat.le_of_ble_eq_true rfl | (simp only [Jd, Je, Jr, Js, Jt, Nat.reduceAdd, allOne, oneCell, Bool.and_self, Jc]; first | done | omega)) only [decide_eq_true hN, hv.ln, ↓Qa, ↓Qb, ↓Qc, Qd, Qe, Qf, Qg, Qh, Qi, Qj, Qk, Ql, Qm, Qn, Qo, Qp, Qq, Qr, Qs, Qt, Qu, Qv, Qw, Qx, Qy, ptrTo, Qz, QA, QB, QC, QD, QE, QF, QG, QH, QI, QJ, QK, QL, QM, QN, QO, QP, QQ, QR, QS, QT, QU, QV, QW, QX, QY, QZ, Ja, Jb, Jc, Jd, Je, Jf, Jg, Jh, Ji, Jj, Jk, Jl, Jm, Jn, Jo, Jp, Jq, Jr, Js, Jt, Nat.reduceAdd]
    refine loop_up l.length (fun i vs m' => vs = [.int .i64 (i : Int)] ∧ m' = m ∧ chkL N (-1) l = chkL N (lastOf l i) (l.drop i)) (by omega) ⟨rfl, rfl, rfl⟩ ?_
    rintro i vs m' hi ⟨rfl, rfl, hI⟩ self hself
    try simp (disch := first | omega | with_unfolding_all exact id rfl | with_unfolding_all exact Nat.le_of_ble_eq_true rfl | (simp only [Jd, Je, Jr, Js, Jt, Nat.reduceAdd, allOne, oneCell, Bool.and_self, Jc]; first | done | omega)) only [hv.ln, ↓Qa, ↓Qb, Qd, Qe, Qf, Qg, Qh, Qi, Qj, Qk, Ql, Qm, Qn, Qo, Qp, Qq, Qr, Qs, Qt, Qu, Qv, Qw, Qx, Qy, ptrTo, Qz, QA, QB, QC, QD, QE, QF, QG, QH, QI, QJ, QK, QL, QM, QN, QO, QP, QQ, QR, QS, QT, QU, QV, QW, QX, QY, QZ, Ja, Jb, Jc, Jd, Je, Jf, Jg, Jh, Ji, Jj, Jk, Jl, Jm, Jn, Jo, Jp, Jq, Jr, Js, Jt, Nat.reduceAdd]
    refine oIf_dec (fun h => ?_) (fun h => ?_)
    · have hil : i < l.length := by omega
      rw [List.drop_eq_getElem_cons hil] at hI
      have hI2 : chkL N (-1) l = if 0 ≤ l[i] ∧ l[i] ≤ N - 1 then (if l[i] ≤ lastOf l i then 7 else chkL N l[i] (l.drop (i + 1))) else 2 := hI
      have hlo : lastOf l (i + 1) = l[i] := by
        unfold lastOf
        rw [dif_pos ⟨by omega, by omega⟩]
        rfl
      have f6 : ∀ K : Value → Option Unit, oInt .add .i64 (.int .i64 (i : Int)) (.int .i64 1) K = K (.int .i64 ((i + 1 : Nat) : Int)) := fun K => by rw [oInt_add ⟨by omega, by omega⟩]; rfl
      rw [hv.ia hil, oOpt_e, hv.ld hil, oOpt_e, oInt_sub ⟨by omega, by omega⟩]
      refine in_sp _ _ _ ?_
      by_cases h1 : 0 ≤ l[i] ∧ l[i] ≤ N - 1
      · rw [if_pos h1] at hI2
        try simp (disch := first | omega | with_unfolding_all exact id rfl | with_unfolding_all exact Nat.le_of_ble_eq_true rfl | (simp only [Jd, Je, Jr, Js, Jt, Nat.reduceAdd, allOne, oneCell, Bool.and_self, Jc]; first | done | omega)) only [decide_eq_true h1, ↓Qa, ↓Qb, Qd, Qe, Qf, Qg, Qh, Qi, Qj, Qk, Ql, Qm, Qn, Qo, Qp, Qq, Qr, Qs, Qt, Qu, Qv, Qw, Qx, Qy, ptrTo, Qz, QA, QB, QC, QD, QE, QF, QG, QH, QI, QJ, QK, QL, QM, QN, QO, QP, QQ, QR, QS, QT, QU, QV, QW, QX, QY, QZ, Ja, Jb, Jc, Jd, Je, Jf, Jg, Jh, Ji, Jj, Jk, Jl, Jm, Jn, Jo, Jp, Jq, Jr, Js, Jt, Nat.reduceAdd]
        by_cases h0 : i = 0
        · subst h0
          have f3 : decide ((0 : Int) < ((0 : Nat) : Int)) = false := by decide
          have h2 : ¬ l[0] ≤ lastOf l 0 := by
            have : lastOf l 0 = -1 := rfl
            omega
          rw [if_neg h2] at hI2
          try simp (disch := first | omega | with_unfolding_all exact id rfl | with_unfolding_all exact Nat.le_of_ble_eq_true rfl | (simp only [Jd, Je, Jr, Js, Jt, Nat.reduceAdd, allOne, oneCell, Bool.and_self, Jc]; first | done | omega)) only [f3, ↓Qa, ↓Qb, Qd, Qe, Qf, Qg, Qh, Qi, Qj, Qk, Ql, Qm, Qn, Qo, Qp, Qq, Qr, Qs, Qt, Qu, Qv, Qw, Qx, Qy, ptrTo, Qz, QA, QB, QC, QD, QE, QF, QG, QH, QI, QJ, QK, QL, QM, QN, QO, QP, QQ, QR, QS, QT, QU, QV, QW, QX, QY, QZ, Ja, Jb, Jc, Jd, Je, Jf, Jg, Jh, Ji, Jj, Jk, Jl, Jm, Jn, Jo, Jp, Jq, Jr, Js, Jt, Nat.reduceAdd]
          repeat (rw [join_e]; try simp (disch := first | omega | with_unfolding_all exact id rfl | with_unfolding_all exact Nat.le_of_ble_eq_true rfl | (simp only [Jd, Je, Jr, Js, Jt, Nat.reduceAdd, allOne, oneCell, Bool.and_self, Jc]; first | done | omega)) only [f3, f6, ↓Qa, ↓Qb, Qd, Qe, Qf, Qg, Qh, Qi, Qj, Qk, Ql, Qm, Qn, Qo, Qp, Qq, Qr, Qs, Qt, Qu, Qv, Qw, Qx, Qy, ptrTo, Qz, QA, QB, QC, QD, QE, QF, QG, QH, QI, QJ, QK, QL, QM, QN, QO, QP, QQ, QR, QS, QT, QU, QV, QW, QX, QY, QZ, Ja, Jb, Jc, Jd, Je, Jf, Jg, Jh, Ji, Jj, Jk, Jl, Jm, Jn, Jo, Jp, Jq, Jr, Js, Jt, Nat.reduceAdd])
          try simp (disch := first | omega | with_unfolding_all exact id rfl | with_unfolding_all exact Nat.le_of_ble_eq_true rfl | (simp only [Jd, Je, Jr, Js, Jt, Nat.reduceAdd, allOne, oneCell, Bool.and_self, Jc]; first | done | omega)) only [f3, f6, ↓Qa, ↓Qb, Qd, Qe, Qf, Qg, Qh, Qi, Qj, Qk, Ql, Qm, Qn, Qo, Qp, Qq, Qr, Qs, Qt, Qu, Qv, Qw, Qx, Qy, ptrTo, Qz, QA, QB, QC, QD, QE, QF, QG, QH, QI, QJ, QK, QL, QM, QN, QO, QP, QQ, QR, QS, QT, QU, QV, QW, QX, QY, QZ, Ja, Jb, Jc, Jd, Je, Jf, Jg, Jh, Ji, Jj, Jk, Jl, Jm, Jn, Jo, Jp, Jq, Jr, Js, Jt, Nat.reduceAdd]
          exact hself hil _ _ ⟨rfl, rfl, by rw [hlo]; exact hI2⟩
        · have f3 : decide ((0 : Int) < (i : Int)) = true := decide_eq_true (by omega)
          have hi1 : i - 1 < l.length := by omega
          have f5 : ∀ K : Value → Option Unit, oInt .sub .i64 (.int .i64 (i : Int)) (.int .i64 1) K = K (.int .i64 ((i - 1 : Nat) : Int)) := fun K => by rw [oInt_sub ⟨by omega, by omega⟩, show (i : Int) - 1 = ((i - 1 : Nat) : Int) by omega]
          have hlast : lastOf l i = l[i - 1] := by
            unfold lastOf
            rw [dif_pos ⟨by omega, by omega⟩]
          rw [hlast] at hI2
          try simp (disch := first | omega | with_unfolding_all exact id rfl | with_unfolding_all exact Nat.le_of_ble_eq_true rfl | (simp only [Jd, Je, Jr, Js, Jt, Nat.reduceAdd, allOne, oneCell, Bool.and_self, Jc]; first | done | omega)) only [f3, hv.ia hil, hv.ld hil, f5, hv.ia hi1, hv.ld hi1, ↓Qa, ↓Qb, Qd, Qe, Qf, Qg, Qh, Qi, Qj, Qk, Ql, Qm, Qn, Qo, Qp, Qq, Qr, Qs, Qt, Qu, Qv, Qw, Qx, Qy, ptrTo, Qz, QA, QB, QC, QD, QE, QF, QG, QH, QI, QJ, QK, QL, QM, QN, QO, QP, QQ, QR, QS, QT, QU, QV, QW, QX, QY, QZ, Ja, Jb, Jc, Jd, Je, Jf, Jg, Jh, Ji, Jj, Jk, Jl, Jm, Jn, Jo, Jp, Jq, Jr, Js, Jt, Nat.reduceAdd]
          by_cases h2 : l[i] ≤ l[i - 1]
          · rw [if_pos h2] at hI2
            rw [hI2] at hk
            have f4 : decide (l[i] ≤ l[i - 1]) = true := decide_eq_true h2
            repeat (rw [join_e]; try simp (disch := first | omega | with_unfolding_all exact id rfl | with_unfolding_all exact Nat.le_of_ble_eq_true rfl | (simp only [Jd, Je, Jr, Js, Jt, Nat.reduceAdd, allOne, oneCell, Bool.and_self, Jc]; first | done | omega)) only [f3, hv.ia hil, hv.ld hil, f5, hv.ia hi1, hv.ld hi1, f4, ↓Qa, ↓Qb, Qd, Qe, Qf, Qg, Qh, Qi, Qj, Qk, Ql, Qm, Qn, Qo, Qp, Qq, Qr, Qs, Qt, Qu, Qv, Qw, Qx, Qy, ptrTo, Qz, QA, QB, QC, QD, QE, QF, QG, QH, QI, QJ, QK, QL, QM, QN, QO, QP, QQ, QR, QS, QT, QU, QV, QW, QX, QY, QZ, Ja, Jb, Jc, Jd, Je, Jf, Jg, Jh, Ji, Jj, Jk, Jl, Jm, Jn, Jo, Jp, Jq, Jr, Js, Jt, Nat.reduceAdd])
            try simp (disch := first | omega | with_unfolding_all exact id rfl | with_unfolding_all exact Nat.le_of_ble_eq_true rfl | (simp only [Jd, Je, Jr, Js, Jt, Nat.reduceAdd, allOne, oneCell, Bool.and_self, Jc]; first | done | omega)) only [f3, hv.ia hil, hv.ld hil, f5, hv.ia hi1, hv.ld hi1, f4, ↓Qa, ↓Qb, Qd, Qe, Qf, Qg, Qh, Qi, Qj, Qk, Ql, Qm, Qn, Qo, Qp, Qq, Qr, Qs, Qt, Qu, Qv, Qw, Qx, Qy, ptrTo, Qz, QA, QB, QC, QD, QE, QF, QG, QH, QI, QJ, QK, QL, QM, QN, QO, QP, QQ, QR, QS, QT, QU, QV, QW, QX, QY, QZ, Ja, Jb, Jc, Jd, Je, Jf, Jg, Jh, Ji, Jj, Jk, Jl, Jm, Jn, Jo, Jp, Jq, Jr, Js, Jt, Nat.reduceAdd]
            exact hk
          · rw [if_neg h2] at hI2
            have f4 : decide (l[i] ≤ l[i - 1]) = false := decide_eq_false h2
            repeat (rw [join_e]; try simp (disch := first | omega | with_unfolding_all exact id rfl | with_unfolding_all exact Nat.le_of_ble_eq_true rfl | (simp only [Jd, Je, Jr, Js, Jt, Nat.reduceAdd, allOne, oneCell, Bool.and_self, Jc]; first | done | omega)) only [f3, hv.ia hil, hv.ld hil, f5, hv.ia hi1, hv.ld hi1, f4, f6, ↓Qa, ↓Qb, Qd, Qe, Qf, Qg, Qh, Qi, Qj, Qk, Ql, Qm, Qn, Qo, Qp, Qq, Qr, Qs, Qt, Qu, Qv, Qw, Qx, Qy, ptrTo, Qz, QA, QB, QC, QD, QE, QF, QG, QH, QI, QJ, QK, QL, QM, QN, QO, QP, QQ, QR, QS, QT, QU, QV, QW, QX, QY, QZ, Ja, Jb, Jc, Jd, Je, Jf, Jg, Jh, Ji, Jj, Jk, Jl, Jm, Jn, Jo, Jp, Jq, Jr, Js, Jt, Nat.reduceAdd])
            try simp (disch := first | omega | with_unfolding_all exact id rfl | with_unfolding_all exact Nat.le_of_ble_eq_true rfl | (simp only [Jd, Je, Jr, Js, Jt, Nat.reduceAdd, allOne, oneCell, Bool.and_self, Jc]; first | done | omega)) only [f3, hv.ia hil, hv.ld hil, f5, hv.ia hi1, hv.ld hi1, f4, f6, ↓Qa, ↓Qb, Qd, Qe, Qf, Qg, Qh, Qi, Qj, Qk, Ql, Qm, Qn, Qo, Qp, Qq, Qr, Qs, Qt, Qu, Qv, Qw, Qx, Qy, ptrTo, Qz, QA, QB, QC, QD, QE, QF, QG, QH, QI, QJ, QK, QL, QM, QN, QO, QP, QQ, QR, QS, QT, QU, QV, QW, QX, QY, QZ, Ja, Jb, Jc, Jd, Je, Jf, Jg, Jh, Ji, Jj, Jk, Jl, Jm, Jn, Jo, Jp, Jq, Jr, Js, Jt, Nat.reduceAdd]
            exact hself hil _ _ ⟨rfl, rfl, by rw [hlo]; exact hI2⟩
      · rw [if_neg h1] at hI2
        rw [hI2] at hk
        try simp (disch := first | omega | with_unfolding_all exact id rfl | with_unfolding_all exact Nat.le_of_ble_eq_true rfl | (simp only [Jd, Je, Jr, Js, Jt, Nat.reduceAdd, allOne, oneCell, Bool.and_self, Jc]; first | done | omega)) only [decide_eq_false h1, ↓Qa, ↓Qb, Qd, Qe, Qf, Qg, Qh, Qi, Qj, Qk, Ql, Qm, Qn, Qo, Qp, Qq, Qr, Qs, Qt, Qu, Qv, Qw, Qx, Qy, ptrTo, Qz, QA, QB, QC, QD, QE, QF, QG, QH, QI, QJ, QK, QL, QM, QN, QO, QP, QQ, QR, QS, QT, QU, QV, QW, QX, QY, QZ, Ja, Jb, Jc, Jd, Je, Jf, Jg, Jh, Ji, Jj, Jk, Jl, Jm, Jn, Jo, Jp, Jq, Jr, Js, Jt, Nat.reduceAdd]
        exact hk
    · rw [List.drop_eq_nil_of_le (by omega)] at hI
      rw [hI] at hk
      exact hk
  · unfold chkB at hk
    rw [if_neg hN] at hk
    try simp (disch := first | omega | with_unfolding_all exact id rfl | with_unfolding_all exact Nat.le_of_ble_eq_true rfl | (simp only [Jd, Je, Jr, Js, Jt, Nat.reduceAdd, allOne, oneCell, Bool.and_self, Jc]; first | done | omega)) only [decide_eq_false hN, ↓Qa, ↓Qb, ↓Qc, Qd, Qe, Qf, Qg, Qh, Qi, Qj, Qk, Ql, Qm, Qn, Qo, Qp, Qq, Qr, Qs, Qt, Qu, Qv, Qw, Qx, Qy, ptrTo, Qz, QA, QB, QC, QD, QE, QF, QG, QH, QI, QJ, QK, QL, QM, QN, QO, QP, QQ, QR, QS, QT, QU, QV, QW, QX, QY, QZ, Ja, Jb, Jc, Jd, Je, Jf, Jg, Jh, Ji, Jj, Jk, Jl, Jm, Jn, Jo, Jp, Jq, Jr, Js, Jt, Nat.reduceAdd]
    exact hk
theorem both72_sp {N : Int} {v u : Value} {a b : List Int} (hlf : 1000000 ≤ lf) (hv : IL m v a) (hu : IL m u b) (hl : a.length < 1000000) (hl2 : b.length < 1000000)
    (hk : k (.int .i64 (botE N a b)) m = some ()) : runT (tab lf) (n + 3) 72 [.int .i64 N, v, u] L m k = some () := by
  unfold botE at hk
  rw [r72]; dsimp only [S72, iofNat, inegSucc]
  try simp (disch := first | omega | with_unfolding_all exact id rfl | with_unfolding_all exact Nat.le_of_ble_eq_true rfl | (simp only [Jd, Je, Jr, Js, Jt, Nat.reduceAdd, allOne, oneCell, Bool.and_self, Jc]; first | done | omega)) only [↓Qa, ↓Qb, Qd, Qe, Qf, Qg, Qh, Qi, Qj, Qk, Ql, Qm, Qn, Qo, Qp, Qq, Qr, Qs, Qt, Qu, Qv, Qw, Qx, Qy, ptrTo, Qz, QA, QB, QC, QD, QE, QF, QG, QH, QI, QJ, QK, QL, QM, QN, QO, QP, QQ, QR, QS, QT, QU, QV, QW, QX, QY, QZ, Ja, Jb, Jc, Jd, Je, Jf, Jg, Jh, Ji, Jj, Jk, Jl, Jm, Jn, Jo, Jp, Jq, Jr, Js, Jt, Nat.reduceAdd]
  refine check26_sp hlf hv hl ?_
  by_cases h1 : chkB N a = 0
  · rw [if_pos h1] at hk
    try simp (disch := first | omega | with_unfolding_all exact id rfl | with_unfolding_all exact Nat.le_of_ble_eq_true rfl | (simp only [Jd, Je, Jr, Js, Jt, Nat.reduceAdd, allOne, oneCell, Bool.and_self, Jc]; first | done | omega)) only [h1, ↓Qa, ↓Qb, Qd, Qe, Qf, Qg, Qh, Qi, Qj, Qk, Ql, Qm, Qn, Qo, Qp, Qq, Qr, Qs, Qt, Qu, Qv, Qw, Qx, Qy, ptrTo, Qz, QA, QB, QC, QD, QE, QF, QG, QH, QI, QJ, QK, QL, QM, QN, QO, QP, QQ, QR, QS, QT, QU, QV, QW, QX, QY, QZ, Ja, Jb, Jc, Jd, Je, Jf, Jg, Jh, Ji, Jj, Jk, Jl, Jm, Jn, Jo, Jp, Jq, Jr, Js, Jt, Nat.reduceAdd]
    refine check26_sp hlf hu hl2 ?_
    by_cases h2 : chkB N b = 0
    · rw [if_pos h2] at hk
      try simp (disch := first | omega | with_unfolding_all exact id rfl | with_unfolding_all exact Nat.le_of_ble_eq_true rfl | (simp only [Jd, Je, Jr, Js, Jt, Nat.reduceAdd, allOne, oneCell, Bool.and_self, Jc]; first | done | omega)) only [h2, ↓Qa, ↓Qb, Qd, Qe, Qf, Qg, Qh, Qi, Qj, Qk, Ql, Qm, Qn, Qo, Qp, Qq, Qr, Qs, Qt, Qu, Qv, Qw, Qx, Qy, ptrTo, Qz, QA, QB, QC, QD, QE, QF, QG, QH, QI, QJ, QK, QL, QM, QN, QO, QP, QQ, QR, QS, QT, QU, QV, QW, QX, QY, QZ, Ja, Jb, Jc, Jd, Je, Jf, Jg, Jh, Ji, Jj, Jk, Jl, Jm, Jn, Jo, Jp, Jq, Jr, Js, Jt, Nat.reduceAdd]
      repeat (rw [join_e]; try simp (disch := first | omega | with_unfolding_all exact id rfl | with_unfolding_all exact Nat.le_of_ble_eq_true rfl | (simp only [Jd, Je, Jr, Js, Jt, Nat.reduceAdd, allOne, oneCell, Bool.and_self, Jc]; first | done | omega)) only [hv.ln, hu.ln, ↓Qa, ↓Qb, Qd, Qe, Qf, Qg, Qh, Qi, Qj, Qk, Ql, Qm, Qn, Qo, Qp, Qq, Qr, Qs, Qt, Qu, Qv, Qw, Qx, Qy, ptrTo, Qz, QA, QB, QC, QD, QE, QF, QG, QH, QI, QJ, QK, QL, QM, QN, QO, QP, QQ, QR, QS, QT, QU, QV, QW, QX, QY, QZ, Ja, Jb, Jc, Jd, Je, Jf, Jg, Jh, Ji, Jj, Jk, Jl, Jm, Jn, Jo, Jp, Jq, Jr, Js, Jt, Nat.reduceAdd])
      try simp (disch := first | omega | with_unfolding_all exact id rfl | with_unfolding_all exact Nat.le_of_ble_eq_true rfl | (simp only [Jd, Je, Jr, Js, Jt, Nat.reduceAdd, allOne, oneCell, Bool.and_self, Jc]; first | done | omega)) only [hv.ln, hu.ln, ↓Qa, ↓Qb, Qd, Qe, Qf, Qg, Qh, Qi, Qj, Qk, Ql, Qm, Qn, Qo, Qp, Qq, Qr, Qs, Qt, Qu, Qv, Qw, Qx, Qy, ptrTo, Qz, QA, QB, QC, QD, QE, QF, QG, QH, QI, QJ, QK, QL, QM, QN, QO, QP, QQ, QR, QS, QT, QU, QV, QW, QX, QY, QZ, Ja, Jb, Jc, Jd, Je, Jf, Jg, Jh, Ji, Jj, Jk, Jl, Jm, Jn, Jo, Jp, Jq, Jr, Js, Jt, Nat.reduceAdd]
      by_cases h3 : a.length = b.length
      · rw [if_pos h3] at hk
        have h4 : ((a.length : Int) = (b.length : Int)) := by omega
        try simp (disch := first | omega | with_unfolding_all exact id rfl | with_unfolding_all exact Nat.le_of_ble_eq_true rfl | (simp only [Jd, Je, Jr, Js, Jt, Nat.reduceAdd, allOne, oneCell, Bool.and_self, Jc]; first | done | omega)) only [h4, ↓Qa, ↓Qb, Qd, Qe, Qf, Qg, Qh, Qi, Qj, Qk, Ql, Qm, Qn, Qo, Qp, Qq, Qr, Qs, Qt, Qu, Qv, Qw, Qx, Qy, ptrTo, Qz, QA, QB, QC, QD, QE, QF, QG, QH, QI, QJ, QK, QL, QM, QN, QO, QP, QQ, QR, QS, QT, QU, QV, QW, QX, QY, QZ, Ja, Jb, Jc, Jd, Je, Jf, Jg, Jh, Ji, Jj, Jk, Jl, Jm, Jn, Jo, Jp, Jq, Jr, Js, Jt, Nat.reduceAdd]
        repeat (rw [join_e]; try simp (disch := first | omega | with_unfolding_all exact id rfl | with_unfolding_all exact Nat.le_of_ble_eq_true rfl | (simp only [Jd, Je, Jr, Js, Jt, Nat.reduceAdd, allOne, oneCell, Bool.and_self, Jc]; first | done | omega)) only [↓Qa, ↓Qb, Qd, Qe, Qf, Qg, Qh, Qi, Qj, Qk, Ql, Qm, Qn, Qo, Qp, Qq, Qr, Qs, Qt, Qu, Qv, Qw, Qx, Qy, ptrTo, Qz, QA, QB, QC, QD, QE, QF, QG, QH, QI, QJ, QK, QL, QM, QN, QO, QP, QQ, QR, QS, QT, QU, QV, QW, QX, QY, QZ, Ja, Jb, Jc, Jd, Je, Jf, Jg, Jh, Ji, Jj, Jk, Jl, Jm, Jn, Jo, Jp, Jq, Jr, Js, Jt, Nat.reduceAdd])
        exact hk
      · rw [if_neg h3] at hk
        have h4 : ¬ ((a.length : Int) = (b.length : Int)) := by omega
        try simp (disch := first | omega | with_unfolding_all exact id rfl | with_unfolding_all exact Nat.le_of_ble_eq_true rfl | (simp only [Jd, Je, Jr, Js, Jt, Nat.reduceAdd, allOne, oneCell, Bool.and_self, Jc]; first | done | omega)) only [h4, ↓Qa, ↓Qb, Qd, Qe, Qf, Qg, Qh, Qi, Qj, Qk, Ql, Qm, Qn, Qo, Qp, Qq, Qr, Qs, Qt, Qu, Qv, Qw, Qx, Qy, ptrTo, Qz, QA, QB, QC, QD, QE, QF, QG, QH, QI, QJ, QK, QL, QM, QN, QO, QP, QQ, QR, QS, QT, QU, QV, QW, QX, QY, QZ, Ja, Jb, Jc, Jd, Je, Jf, Jg, Jh, Ji, Jj, Jk, Jl, Jm, Jn, Jo, Jp, Jq, Jr, Js, Jt, Nat.reduceAdd]
        repeat (rw [join_e]; try simp (disch := first | omega | with_unfolding_all exact id rfl | with_unfolding_all exact Nat.le_of_ble_eq_true rfl | (simp only [Jd, Je, Jr, Js, Jt, Nat.reduceAdd, allOne, oneCell, Bool.and_self, Jc]; first | done | omega)) only [↓Qa, ↓Qb, Qd, Qe, Qf, Qg, Qh, Qi, Qj, Qk, Ql, Qm, Qn, Qo, Qp, Qq, Qr, Qs, Qt, Qu, Qv, Qw, Qx, Qy, ptrTo, Qz, QA, QB, QC, QD, QE, QF, QG, QH, QI, QJ, QK, QL, QM, QN, QO, QP, QQ, QR, QS, QT, QU, QV, QW, QX, QY, QZ, Ja, Jb, Jc, Jd, Je, Jf, Jg, Jh, Ji, Jj, Jk, Jl, Jm, Jn, Jo, Jp, Jq, Jr, Js, Jt, Nat.reduceAdd])
        exact hk
    · rw [if_neg h2] at hk
      try simp (disch := first | omega | with_unfolding_all exact id rfl | with_unfolding_all exact Nat.le_of_ble_eq_true rfl | (simp only [Jd, Je, Jr, Js, Jt, Nat.reduceAdd, allOne, oneCell, Bool.and_self, Jc]; first | done | omega)) only [decide_eq_false h2, ↓Qa, ↓Qb, Qd, Qe, Qf, Qg, Qh, Qi, Qj, Qk, Ql, Qm, Qn, Qo, Qp, Qq, Qr, Qs, Qt, Qu, Qv, Qw, Qx, Qy, ptrTo, Qz, QA, QB, QC, QD, QE, QF, QG, QH, QI, QJ, QK, QL, QM, QN, QO, QP, QQ, QR, QS, QT, QU, QV, QW, QX, QY, QZ, Ja, Jb, Jc, Jd, Je, Jf, Jg, Jh, Ji, Jj, Jk, Jl, Jm, Jn, Jo, Jp, Jq, Jr, Js, Jt, Nat.reduceAdd]
      repeat (rw [join_e]; try simp (disch := first | omega | with_unfolding_all exact id rfl | with_unfolding_all exact Nat.le_of_ble_eq_true rfl | (simp only [Jd, Je, Jr, Js, Jt, Nat.reduceAdd, allOne, oneCell, Bool.and_self, Jc]; first | done | omega)) only [decide_eq_false h2, ↓Qa, ↓Qb, Qd, Qe, Qf, Qg, Qh, Qi, Qj, Qk, Ql, Qm, Qn, Qo, Qp, Qq, Qr, Qs, Qt, Qu, Qv, Qw, Qx, Qy, ptrTo, Qz, QA, QB, QC, QD, QE, QF, QG, QH, QI, QJ, QK, QL, QM, QN, QO, QP, QQ, QR, QS, QT, QU, QV, QW, QX, QY, QZ, Ja, Jb, Jc, Jd, Je, Jf, Jg, Jh, Ji, Jj, Jk, Jl, Jm, Jn, Jo, Jp, Jq, Jr, Js, Jt, Nat.reduceAdd])
      try simp (disch := first | omega | with_unfolding_all exact id rfl | with_unfolding_all exact Nat.le_of_ble_eq_true rfl | (simp only [Jd, Je, Jr, Js, Jt, Nat.reduceAdd, allOne, oneCell, Bool.and_self, Jc]; first | done | omega)) only [decide_eq_false h2, ↓Qa, ↓Qb, Qd, Qe, Qf, Qg, Qh, Qi, Qj, Qk, Ql, Qm, Qn, Qo, Qp, Qq, Qr, Qs, Qt, Qu, Qv, Qw, Qx, Qy, ptrTo, Qz, QA, QB, QC, QD, QE, QF, QG, QH, QI, QJ, QK, QL, QM, QN, QO, QP, QQ, QR, QS, QT, QU, QV, QW, QX, QY, QZ, Ja, Jb, Jc, Jd, Je, Jf, Jg, Jh, Ji, Jj, Jk, Jl, Jm, Jn, Jo, Jp, Jq, Jr, Js, Jt, Nat.reduceAdd]
      exact hk
  · rw [if_neg h1] at hk
    try simp (disch := first | omega | with_unfolding_all exact id rfl | with_unfolding_all exact Nat.le_of_ble_eq_true rfl | (simp only [Jd, Je, Jr, Js, Jt, Nat.reduceAdd, allOne, oneCell, Bool.and_self, Jc]; first | done | omega)) only [decide_eq_false h1, ↓Qa, ↓Qb, Qd, Qe, Qf, Qg, Qh, Qi, Qj, Qk, Ql, Qm, Qn, Qo, Qp, Qq, Qr, Qs, Qt, Qu, Qv, Qw, Qx, Qy, ptrTo, Qz, QA, QB, QC, QD, QE, QF, QG, QH, QI, QJ, QK, QL, QM, QN, QO, QP, QQ, QR, QS, QT, QU, QV, QW, QX, QY, QZ, Ja, Jb, Jc, Jd, Je, Jf, Jg, Jh, Ji, Jj, Jk, Jl, Jm, Jn, Jo, Jp, Jq, Jr, Js, Jt, Nat.reduceAdd]
    repeat (rw [join_e]; try simp (disch := first | omega | with_unfolding_all exact id rfl | with_unfolding_all exact Nat.le_of_ble_eq_true rfl | (simp only [Jd, Je, Jr, Js, Jt, Nat.reduceAdd, allOne, oneCell, Bool.and_self, Jc]; first | done | omega)) only [decide_eq_false h1, ↓Qa, ↓Qb, Qd, Qe, Qf, Qg, Qh, Qi, Qj, Qk, Ql, Qm, Qn, Qo, Qp, Qq, Qr, Qs, Qt, Qu, Qv, Qw, Qx, Qy, ptrTo, Qz, QA, QB, QC, QD, QE, QF, QG, QH, QI, QJ, QK, QL, QM, QN, QO, QP, QQ, QR, QS, QT, QU, QV, QW, QX, QY, QZ, Ja, Jb, Jc, Jd, Je, Jf, Jg, Jh, Ji, Jj, Jk, Jl, Jm, Jn, Jo, Jp, Jq, Jr, Js, Jt, Nat.reduceAdd])
    try simp (disch := first | omega | with_unfolding_all exact id rfl | with_unfolding_all exact Nat.le_of_ble_eq_true rfl | (simp only [Jd, Je, Jr, Js, Jt, Nat.reduceAdd, allOne, oneCell, Bool.and_self, Jc]; first | done | omega)) only [decide_eq_false h1, ↓Qa, ↓Qb, Qd, Qe, Qf, Qg, Qh, Qi, Qj, Qk, Ql, Qm, Qn, Qo, Qp, Qq, Qr, Qs, Qt, Qu, Qv, Qw, Qx, Qy, ptrTo, Qz, QA, QB, QC, QD, QE, QF, QG, QH, QI, QJ, QK, QL, QM, QN, QO, QP, QQ, QR, QS, QT, QU, QV, QW, QX, QY, QZ, Ja, Jb, Jc, Jd, Je, Jf, Jg, Jh, Ji, Jj, Jk, Jl, Jm, Jn, Jo, Jp, Jq, Jr, Js, Jt, Nat.reduceAdd]
    exact hk
theorem has_sp {v : Value} {l : List Nat} {x : Nat} (hlf : 1000000 ≤ lf) (hv : IN m v l) (hl : l.length < 1000000) (hk : k (.bool (decide (x ∈ l))) m = some ()) : runT (tab lf) (n + 1) 90 [v, .int .i64 (x : Int)] L m k = some () := by
  rw [r90]; dsimp only [S90, iofNat, inegSucc]
  try simp (disch := first | omega | with_unfolding_all exact id rfl | with_unfolding_all exact Nat.le_of_ble_eq_true rfl | (simp only [Jd, Je, Jr, Js, Jt, Nat.reduceAdd, allOne, oneCell, Bool.and_self, Jc]; first | done | omega)) only [↓Qa, ↓Qb, ↓Qc, Qd, Qe, Qf, Qg, Qh, Qi, Qj, Qk, Ql, Qm, Qn, Qo, Qp, Qq, Qr, Qs, Qt, Qu, Qv, Qw, Qx, Qy, ptrTo, Qz, QA, QB, QC, QD, QE, QF, QG, QH, QI, QJ, QK, QL, QM, QN, QO, QP, QQ, QR, QS, QT, QU, QV, QW, QX, QY, QZ, Ja, Jb, Jc, Jd, Je, Jf, Jg, Jh, Ji, Jj, Jk, Jl, Jm, Jn, Jo, Jp, Jq, Jr, Js, Jt, Nat.reduceAdd]
  refine loop_up l.length (fun i vs m' => vs = [.int .i64 (i : Int)] ∧ m' = m ∧ ∀ j (h : j < l.length), j < i → l[j] ≠ x) (by omega) ⟨rfl, rfl, fun j h hj => by omega⟩ ?_
  rintro i vs m' hi ⟨rfl, rfl, hno⟩ self hself
  try simp (disch := first | omega | with_unfolding_all exact id rfl | with_unfolding_all exact Nat.le_of_ble_eq_true rfl | (simp only [Jd, Je, Jr, Js, Jt, Nat.reduceAdd, allOne, oneCell, Bool.and_self, Jc]; first | done | omega)) only [hv.ln, ↓Qa, ↓Qb, ↓Qc, Qd, Qe, Qf, Qg, Qh, Qi, Qj, Qk, Ql, Qm, Qn, Qo, Qp, Qq, Qr, Qs, Qt, Qu, Qv, Qw, Qx, Qy, ptrTo, Qz, QA, QB, QC, QD, QE, QF, QG, QH, QI, QJ, QK, QL, QM, QN, QO, QP, QQ, QR, QS, QT, QU, QV, QW, QX, QY, QZ, Ja, Jb, Jc, Jd, Je, Jf, Jg, Jh, Ji, Jj, Jk, Jl, Jm, Jn, Jo, Jp, Jq, Jr, Js, Jt, Nat.reduceAdd]
  refine oIf_dec (fun h => ?_) (fun h => ?_)
  · have hil : i < l.length := by omega
    rw [hv.ia hil, oOpt_e, hv.ld hil, oOpt_e, oInt_eql]
    refine oIf_dec (fun he => ?_) (fun he => ?_)
    · have : x ∈ l := by
        have : l[i] = x := by omega
        exact this ▸ List.getElem_mem hil
      rw [decide_eq_true this] at hk
      exact hk
    · rw [oInt_add ⟨by omega, by omega⟩]
      refine hself hil _ _ ⟨rfl, rfl, fun j hj hji => ?_⟩
      by_cases hje : j = i
      · subst hje; exact fun e => he (by omega)
      · exact hno j hj (by omega)
  · have : x ∉ l := fun hx => by
      obtain ⟨j, hj, rfl⟩ := List.getElem_of_mem hx
      exact hno j hj (by omega) rfl
    rw [decide_eq_false this] at hk
    exact hk
theorem same64_sp {v u : Value} {a b : List Int} (hlf : 1000000 ≤ lf) (hv : IL m v a) (hu : IL m u b) (hl : a.length < 1000000) (hk : k (.bool (decide (a = b))) m = some ()) : runT (tab lf) (n + 1) 64 [v, u] L m k = some () := by
  rw [r64]
  have h := same_sp (L := L) (n := n) hlf hv hu hl hk
  rw [r22] at h
  exact h
theorem less_sp {v u : Value} {a b : List Nat} (hlf : 1000000 ≤ lf) (hL : L ≤ m.next) (hv : IN m v a) (hu : IN m u b) (hl : a.length < 1000000) (hl2 : b.length < 1000000)
    (hk : ∀ w m', Gt m m' → GN m.next m' w (less a b) → k w m' = some ()) : runT (tab lf) (n + 2) 69 [v, u] L m k = some () := by
  rw [r69]; dsimp only [S69, iofNat, inegSucc]
  try simp (disch := first | omega | with_unfolding_all exact id rfl | with_unfolding_all exact Nat.le_of_ble_eq_true rfl | (simp only [Jd, Je, Jr, Js, Jt, Nat.reduceAdd, allOne, oneCell, Bool.and_self, Jc]; first | done | omega)) only [↓Qa, ↓Qb, ↓Qc, Qd, Qe, Qf, Qg, Qh, Qi, Qj, Qk, Ql, Qm, Qn, Qo, Qp, Qq, Qr, Qs, Qt, Qu, Qv, Qw, Qx, Qy, ptrTo, Qz, QA, QB, QC, QD, QE, QF, QG, QH, QI, QJ, QK, QL, QM, QN, QO, QP, QQ, QR, QS, QT, QU, QV, QW, QX, QY, QZ, Ja, Jb, Jc, Jd, Je, Jf, Jg, Jh, Ji, Jj, Jk, Jl, Jm, Jn, Jo, Jp, Jq, Jr, Js, Jt, Nat.reduceAdd]
  refine loop_up a.length (fun i vs m' => ∃ w, vs = [w, .int .i64 (i : Int)] ∧ Gt m m' ∧ GN m.next m' w (less (a.take i) b)) (by omega) ⟨_, rfl, Gt.refl _, GN.nil _ _⟩ ?_
  rintro i vs m5 hi ⟨w, rfl, e5, hw⟩ self hself
  have n5 := e5.next
  have hv5 := hv.mono e5
  try simp (disch := first | omega | with_unfolding_all exact id rfl | with_unfolding_all exact Nat.le_of_ble_eq_true rfl | (simp only [Jd, Je, Jr, Js, Jt, Nat.reduceAdd, allOne, oneCell, Bool.and_self, Jc]; first | done | omega)) only [hv5.ln, ↓Qa, ↓Qb, ↓Qc, Qd, Qe, Qf, Qg, Qh, Qi, Qj, Qk, Ql, Qm, Qn, Qo, Qp, Qq, Qr, Qs, Qt, Qu, Qv, Qw, Qx, Qy, ptrTo, Qz, QA, QB, QC, QD, QE, QF, QG, QH, QI, QJ, QK, QL, QM, QN, QO, QP, QQ, QR, QS, QT, QU, QV, QW, QX, QY, QZ, Ja, Jb, Jc, Jd, Je, Jf, Jg, Jh, Ji, Jj, Jk, Jl, Jm, Jn, Jo, Jp, Jq, Jr, Js, Jt, Nat.reduceAdd]
  refine oIf_dec (fun h => ?_) (fun h => ?_)
  · have hil : i < a.length := by omega
    have hstep : less (a.take (i + 1)) b = less (a.take i) b ++ if a[i] ∈ b then [] else [a[i]] := by
      unfold less
      rw [List.take_add_one, List.getElem?_eq_getElem hil, Option.toList_some, List.filter_append]
      by_cases hb : a[i] ∈ b <;> simp [hb]
    have hle : (less (a.take i) b).length ≤ a.length := by
      have := List.length_filter_le (fun x => !decide (x ∈ b)) (a.take i)
      rw [List.length_take] at this
      unfold less; omega
    rw [hv5.ia hil, oOpt_e, hv5.ld hil, oOpt_e]
    refine has_sp hlf (hu.mono e5) hl2 ?_
    by_cases hb : a[i] ∈ b
    · rw [if_pos hb, List.append_nil] at hstep
      try simp (disch := first | omega | with_unfolding_all exact id rfl | with_unfolding_all exact Nat.le_of_ble_eq_true rfl | (simp only [Jd, Je, Jr, Js, Jt, Nat.reduceAdd, allOne, oneCell, Bool.and_self, Jc]; first | done | omega)) only [decide_eq_true hb, ↓Qa, ↓Qb, Qd, Qe, Qf, Qg, Qh, Qi, Qj, Qk, Ql, Qm, Qn, Qo, Qp, Qq, Qr, Qs, Qt, Qu, Qv, Qw, Qx, Qy, ptrTo, Qz, QA, QB, QC, QD, QE, QF, QG, QH, QI, QJ, QK, QL, QM, QN, QO, QP, QQ, QR, QS, QT, QU, QV, QW, QX, QY, QZ, Ja, Jb, Jc, Jd, Je, Jf, Jg, Jh, Ji, Jj, Jk, Jl, Jm, Jn, Jo, Jp, Jq, Jr, Js, Jt, Nat.reduceAdd]
      repeat (rw [join_e]; try simp (disch := first | omega | with_unfolding_all exact id rfl | with_unfolding_all exact Nat.le_of_ble_eq_true rfl | (simp only [Jd, Je, Jr, Js, Jt, Nat.reduceAdd, allOne, oneCell, Bool.and_self, Jc]; first | done | omega)) only [↓Qa, ↓Qb, Qd, Qe, Qf, Qg, Qh, Qi, Qj, Qk, Ql, Qm, Qn, Qo, Qp, Qq, Qr, Qs, Qt, Qu, Qv, Qw, Qx, Qy, ptrTo, Qz, QA, QB, QC, QD, QE, QF, QG, QH, QI, QJ, QK, QL, QM, QN, QO, QP, QQ, QR, QS, QT, QU, QV, QW, QX, QY, QZ, Ja, Jb, Jc, Jd, Je, Jf, Jg, Jh, Ji, Jj, Jk, Jl, Jm, Jn, Jo, Jp, Jq, Jr, Js, Jt, Nat.reduceAdd])
      rw [oInt_add ⟨by omega, by omega⟩]
      exact hself hil _ _ ⟨w, rfl, e5, by rw [hstep]; exact hw⟩
    · rw [if_neg hb] at hstep
      obtain ⟨w2, m6, h8, h9, h10, h11⟩ := GN.snoc (P := Try.prog) (t := 22) (L := L) (m0 := m) a[i] ael22 (by omega) hw (by omega) (by omega) e5 (Nat.le_refl _)
      try simp (disch := first | omega | with_unfolding_all exact id rfl | with_unfolding_all exact Nat.le_of_ble_eq_true rfl | (simp only [Jd, Je, Jr, Js, Jt, Nat.reduceAdd, allOne, oneCell, Bool.and_self, Jc]; first | done | omega)) only [decide_eq_false hb, hv5.ia hil, hv5.ld hil, bs22, h8, ↓Qa, ↓Qb, Qd, Qe, Qf, Qg, Qh, Qi, Qj, Qk, Ql, Qm, Qn, Qo, Qp, Qq, Qr, Qs, Qt, Qu, Qv, Qw, Qx, Qy, ptrTo, Qz, QA, QB, QC, QD, QE, QF, QG, QH, QI, QJ, QK, QL, QM, QN, QO, QP, QQ, QR, QS, QT, QU, QV, QW, QX, QY, QZ, Ja, Jb, Jc, Jd, Je, Jf, Jg, Jh, Ji, Jj, Jk, Jl, Jm, Jn, Jo, Jp, Jq, Jr, Js, Jt, Nat.reduceAdd]
      repeat (rw [join_e]; try simp (disch := first | omega | with_unfolding_all exact id rfl | with_unfolding_all exact Nat.le_of_ble_eq_true rfl | (simp only [Jd, Je, Jr, Js, Jt, Nat.reduceAdd, allOne, oneCell, Bool.and_self, Jc]; first | done | omega)) only [↓Qa, ↓Qb, Qd, Qe, Qf, Qg, Qh, Qi, Qj, Qk, Ql, Qm, Qn, Qo, Qp, Qq, Qr, Qs, Qt, Qu, Qv, Qw, Qx, Qy, ptrTo, Qz, QA, QB, QC, QD, QE, QF, QG, QH, QI, QJ, QK, QL, QM, QN, QO, QP, QQ, QR, QS, QT, QU, QV, QW, QX, QY, QZ, Ja, Jb, Jc, Jd, Je, Jf, Jg, Jh, Ji, Jj, Jk, Jl, Jm, Jn, Jo, Jp, Jq, Jr, Js, Jt, Nat.reduceAdd])
      rw [oInt_add ⟨by omega, by omega⟩]
      exact hself hil _ _ ⟨w2, rfl, h10, by rw [hstep]; exact h9.le n5⟩
  · have : i = a.length := by omega
    subst this
    rw [List.take_length] at hw
    exact hk _ _ e5 hw
/-- A leaf went out, another one came in. -/
theorem exch_sp {N : Nat} {v : Value} {a : List Nat} {o i : Nat} (hlf : 1000000 ≤ lf) (hL : L ≤ m.next) (hN : N ≤ 10) (hv : IN m v a) (hl : a.length < 1000000)
    (hk : ∀ w m', Gt m m' → GN m.next m' w (exch N a o i) → k w m' = some ()) : runT (tab lf) (n + 2) 75 [.int .i64 (N : Int), v, .int .i64 (o : Int), .int .i64 (i : Int)] L m k = some () := by
  rw [r75]; dsimp only [S75, iofNat, inegSucc]
  try simp (disch := first | omega | with_unfolding_all exact id rfl | with_unfolding_all exact Nat.le_of_ble_eq_true rfl | (simp only [Jd, Je, Jr, Js, Jt, Nat.reduceAdd, allOne, oneCell, Bool.and_self, Jc]; first | done | omega)) only [↓Qa, ↓Qb, ↓Qc, Qd, Qe, Qf, Qg, Qh, Qi, Qj, Qk, Ql, Qm, Qn, Qo, Qp, Qq, Qr, Qs, Qt, Qu, Qv, Qw, Qx, Qy, ptrTo, Qz, QA, QB, QC, QD, QE, QF, QG, QH, QI, QJ, QK, QL, QM, QN, QO, QP, QQ, QR, QS, QT, QU, QV, QW, QX, QY, QZ, Ja, Jb, Jc, Jd, Je, Jf, Jg, Jh, Ji, Jj, Jk, Jl, Jm, Jn, Jo, Jp, Jq, Jr, Js, Jt, Nat.reduceAdd]
  refine loop_up N (fun x vs m' => ∃ w, vs = [w, .int .i64 (x : Int)] ∧ Gt m m' ∧ GN m.next m' w (exch x a o i)) (by omega) ⟨_, rfl, Gt.refl _, GN.nil _ _⟩ ?_
  rintro x vs m5 hx ⟨w, rfl, e5, hw⟩ self hself
  have n5 := e5.next
  have hv5 := hv.mono e5
  try simp (disch := first | omega | with_unfolding_all exact id rfl | with_unfolding_all exact Nat.le_of_ble_eq_true rfl | (simp only [Jd, Je, Jr, Js, Jt, Nat.reduceAdd, allOne, oneCell, Bool.and_self, Jc]; first | done | omega)) only [↓Qa, ↓Qb, Qd, Qe, Qf, Qg, Qh, Qi, Qj, Qk, Ql, Qm, Qn, Qo, Qp, Qq, Qr, Qs, Qt, Qu, Qv, Qw, Qx, Qy, ptrTo, Qz, QA, QB, QC, QD, QE, QF, QG, QH, QI, QJ, QK, QL, QM, QN, QO, QP, QQ, QR, QS, QT, QU, QV, QW, QX, QY, QZ, Ja, Jb, Jc, Jd, Je, Jf, Jg, Jh, Ji, Jj, Jk, Jl, Jm, Jn, Jo, Jp, Jq, Jr, Js, Jt, Nat.reduceAdd]
  refine oIf_dec (fun h => ?_) (fun h => ?_)
  · have hxN : x < N := by omega
    have hstep : exch (x + 1) a o i = exch x a o i ++ if x = i ∨ (x ≠ o ∧ x ∈ a) then [x] else [] := by
      unfold exch
      rw [List.range_succ, List.filter_append]
      congr 1
      by_cases h1 : x = i
      · simp [h1]
      · by_cases h2 : x = o
        · subst h2; simp [h1]
        · by_cases h3 : x ∈ a <;> simp [h1, h2, h3]
    have hle : (exch x a o i).length ≤ x := by
      have := List.length_filter_le (fun x => decide (x = i) || (!decide (x = o) && decide (x ∈ a))) (List.range x)
      rw [List.length_range] at this
      exact this
    have f6 : ∀ K : Value → Option Unit, oInt .add .i64 (.int .i64 (x : Int)) (.int .i64 1) K = K (.int .i64 ((x + 1 : Nat) : Int)) := fun K => by rw [oInt_add ⟨by omega, by omega⟩]; rfl
    obtain ⟨w2, m6, h8, h9, h10, h11⟩ := GN.snoc (P := Try.prog) (t := 22) (L := L) (m0 := m) x ael22 (by omega) hw (by omega) (by omega) e5 (Nat.le_refl _)
    by_cases h1 : x = i
    · have d1 : decide ((x : Int) = (i : Int)) = true := decide_eq_true (by omega)
      rw [if_pos (.inl h1)] at hstep
      try simp (disch := first | omega | with_unfolding_all exact id rfl | with_unfolding_all exact Nat.le_of_ble_eq_true rfl | (simp only [Jd, Je, Jr, Js, Jt, Nat.reduceAdd, allOne, oneCell, Bool.and_self, Jc]; first | done | omega)) only [d1, ↓Qa, ↓Qb, Qd, Qe, Qf, Qg, Qh, Qi, Qj, Qk, Ql, Qm, Qn, Qo, Qp, Qq, Qr, Qs, Qt, Qu, Qv, Qw, Qx, Qy, ptrTo, Qz, QA, QB, QC, QD, QE, QF, QG, QH, QI, QJ, QK, QL, QM, QN, QO, QP, QQ, QR, QS, QT, QU, QV, QW, QX, QY, QZ, Ja, Jb, Jc, Jd, Je, Jf, Jg, Jh, Ji, Jj, Jk, Jl, Jm, Jn, Jo, Jp, Jq, Jr, Js, Jt, Nat.reduceAdd]
      repeat (rw [join_e]; try simp (disch := first | omega | with_unfolding_all exact id rfl | with_unfolding_all exact Nat.le_of_ble_eq_true rfl | (simp only [Jd, Je, Jr, Js, Jt, Nat.reduceAdd, allOne, oneCell, Bool.and_self, Jc]; first | done | omega)) only [d1, bs22, h8, f6, ↓Qa, ↓Qb, Qd, Qe, Qf, Qg, Qh, Qi, Qj, Qk, Ql, Qm, Qn, Qo, Qp, Qq, Qr, Qs, Qt, Qu, Qv, Qw, Qx, Qy, ptrTo, Qz, QA, QB, QC, QD, QE, QF, QG, QH, QI, QJ, QK, QL, QM, QN, QO, QP, QQ, QR, QS, QT, QU, QV, QW, QX, QY, QZ, Ja, Jb, Jc, Jd, Je, Jf, Jg, Jh, Ji, Jj, Jk, Jl, Jm, Jn, Jo, Jp, Jq, Jr, Js, Jt, Nat.reduceAdd])
      try simp (disch := first | omega | with_unfolding_all exact id rfl | with_unfolding_all exact Nat.le_of_ble_eq_true rfl | (simp only [Jd, Je, Jr, Js, Jt, Nat.reduceAdd, allOne, oneCell, Bool.and_self, Jc]; first | done | omega)) only [d1, bs22, h8, f6, ↓Qa, ↓Qb, Qd, Qe, Qf, Qg, Qh, Qi, Qj, Qk, Ql, Qm, Qn, Qo, Qp, Qq, Qr, Qs, Qt, Qu, Qv, Qw, Qx, Qy, ptrTo, Qz, QA, QB, QC, QD, QE, QF, QG, QH, QI, QJ, QK, QL, QM, QN, QO, QP, QQ, QR, QS, QT, QU, QV, QW, QX, QY, QZ, Ja, Jb, Jc, Jd, Je, Jf, Jg, Jh, Ji, Jj, Jk, Jl, Jm, Jn, Jo, Jp, Jq, Jr, Js, Jt, Nat.reduceAdd]
      exact hself hxN _ _ ⟨w2, rfl, h10, by rw [hstep]; exact h9.le n5⟩
    · have d1 : decide ((x : Int) = (i : Int)) = false := decide_eq_false (by omega)
      try simp (disch := first | omega | with_unfolding_all exact id rfl | with_unfolding_all exact Nat.le_of_ble_eq_true rfl | (simp only [Jd, Je, Jr, Js, Jt, Nat.reduceAdd, allOne, oneCell, Bool.and_self, Jc]; first | done | omega)) only [d1, ↓Qa, ↓Qb, Qd, Qe, Qf, Qg, Qh, Qi, Qj, Qk, Ql, Qm, Qn, Qo, Qp, Qq, Qr, Qs, Qt, Qu, Qv, Qw, Qx, Qy, ptrTo, Qz, QA, QB, QC, QD, QE, QF, QG, QH, QI, QJ, QK, QL, QM, QN, QO, QP, QQ, QR, QS, QT, QU, QV, QW, QX, QY, QZ, Ja, Jb, Jc, Jd, Je, Jf, Jg, Jh, Ji, Jj, Jk, Jl, Jm, Jn, Jo, Jp, Jq, Jr, Js, Jt, Nat.reduceAdd]
      repeat (rw [join_e]; try simp (disch := first | omega | with_unfolding_all exact id rfl | with_unfolding_all exact Nat.le_of_ble_eq_true rfl | (simp only [Jd, Je, Jr, Js, Jt, Nat.reduceAdd, allOne, oneCell, Bool.and_self, Jc]; first | done | omega)) only [d1, ↓Qa, ↓Qb, Qd, Qe, Qf, Qg, Qh, Qi, Qj, Qk, Ql, Qm, Qn, Qo, Qp, Qq, Qr, Qs, Qt, Qu, Qv, Qw, Qx, Qy, ptrTo, Qz, QA, QB, QC, QD, QE, QF, QG, QH, QI, QJ, QK, QL, QM, QN, QO, QP, QQ, QR, QS, QT, QU, QV, QW, QX, QY, QZ, Ja, Jb, Jc, Jd, Je, Jf, Jg, Jh, Ji, Jj, Jk, Jl, Jm, Jn, Jo, Jp, Jq, Jr, Js, Jt, Nat.reduceAdd])
      try simp (disch := first | omega | with_unfolding_all exact id rfl | with_unfolding_all exact Nat.le_of_ble_eq_true rfl | (simp only [Jd, Je, Jr, Js, Jt, Nat.reduceAdd, allOne, oneCell, Bool.and_self, Jc]; first | done | omega)) only [d1, ↓Qa, ↓Qb, Qd, Qe, Qf, Qg, Qh, Qi, Qj, Qk, Ql, Qm, Qn, Qo, Qp, Qq, Qr, Qs, Qt, Qu, Qv, Qw, Qx, Qy, ptrTo, Qz, QA, QB, QC, QD, QE, QF, QG, QH, QI, QJ, QK, QL, QM, QN, QO, QP, QQ, QR, QS, QT, QU, QV, QW, QX, QY, QZ, Ja, Jb, Jc, Jd, Je, Jf, Jg, Jh, Ji, Jj, Jk, Jl, Jm, Jn, Jo, Jp, Jq, Jr, Js, Jt, Nat.reduceAdd]
      by_cases h2 : x = o
      · have d2 : decide ((x : Int) = (o : Int)) = true := decide_eq_true (by omega)
        rw [if_neg (fun hh => hh.elim h1 (fun h => h.1 h2)), List.append_nil] at hstep
        try simp (disch := first | omega | with_unfolding_all exact id rfl | with_unfolding_all exact Nat.le_of_ble_eq_true rfl | (simp only [Jd, Je, Jr, Js, Jt, Nat.reduceAdd, allOne, oneCell, Bool.and_self, Jc]; first | done | omega)) only [d2, ↓Qa, ↓Qb, Qd, Qe, Qf, Qg, Qh, Qi, Qj, Qk, Ql, Qm, Qn, Qo, Qp, Qq, Qr, Qs, Qt, Qu, Qv, Qw, Qx, Qy, ptrTo, Qz, QA, QB, QC, QD, QE, QF, QG, QH, QI, QJ, QK, QL, QM, QN, QO, QP, QQ, QR, QS, QT, QU, QV, QW, QX, QY, QZ, Ja, Jb, Jc, Jd, Je, Jf, Jg, Jh, Ji, Jj, Jk, Jl, Jm, Jn, Jo, Jp, Jq, Jr, Js, Jt, Nat.reduceAdd]
        repeat (rw [join_e]; try simp (disch := first | omega | with_unfolding_all exact id rfl | with_unfolding_all exact Nat.le_of_ble_eq_true rfl | (simp only [Jd, Je, Jr, Js, Jt, Nat.reduceAdd, allOne, oneCell, Bool.and_self, Jc]; first | done | omega)) only [d2, f6, ↓Qa, ↓Qb, Qd, Qe, Qf, Qg, Qh, Qi, Qj, Qk, Ql, Qm, Qn, Qo, Qp, Qq, Qr, Qs, Qt, Qu, Qv, Qw, Qx, Qy, ptrTo, Qz, QA, QB, QC, QD, QE, QF, QG, QH, QI, QJ, QK, QL, QM, QN, QO, QP, QQ, QR, QS, QT, QU, QV, QW, QX, QY, QZ, Ja, Jb, Jc, Jd, Je, Jf, Jg, Jh, Ji, Jj, Jk, Jl, Jm, Jn, Jo, Jp, Jq, Jr, Js, Jt, Nat.reduceAdd])
        try simp (disch := first | omega | with_unfolding_all exact id rfl | with_unfolding_all exact Nat.le_of_ble_eq_true rfl | (simp only [Jd, Je, Jr, Js, Jt, Nat.reduceAdd, allOne, oneCell, Bool.and_self, Jc]; first | done | omega)) only [d2, f6, ↓Qa, ↓Qb, Qd, Qe, Qf, Qg, Qh, Qi, Qj, Qk, Ql, Qm, Qn, Qo, Qp, Qq, Qr, Qs, Qt, Qu, Qv, Qw, Qx, Qy, ptrTo, Qz, QA, QB, QC, QD, QE, QF, QG, QH, QI, QJ, QK, QL, QM, QN, QO, QP, QQ, QR, QS, QT, QU, QV, QW, QX, QY, QZ, Ja, Jb, Jc, Jd, Je, Jf, Jg, Jh, Ji, Jj, Jk, Jl, Jm, Jn, Jo, Jp, Jq, Jr, Js, Jt, Nat.reduceAdd]
        exact hself hxN _ _ ⟨w, rfl, e5, by rw [hstep]; exact hw⟩
      · have d2 : decide ((x : Int) = (o : Int)) = false := decide_eq_false (by omega)
        try simp (disch := first | omega | with_unfolding_all exact id rfl | with_unfolding_all exact Nat.le_of_ble_eq_true rfl | (simp only [Jd, Je, Jr, Js, Jt, Nat.reduceAdd, allOne, oneCell, Bool.and_self, Jc]; first | done | omega)) only [d2, ↓Qa, ↓Qb, Qd, Qe, Qf, Qg, Qh, Qi, Qj, Qk, Ql, Qm, Qn, Qo, Qp, Qq, Qr, Qs, Qt, Qu, Qv, Qw, Qx, Qy, ptrTo, Qz, QA, QB, QC, QD, QE, QF, QG, QH, QI, QJ, QK, QL, QM, QN, QO, QP, QQ, QR, QS, QT, QU, QV, QW, QX, QY, QZ, Ja, Jb, Jc, Jd, Je, Jf, Jg, Jh, Ji, Jj, Jk, Jl, Jm, Jn, Jo, Jp, Jq, Jr, Js, Jt, Nat.reduceAdd]
        refine has_sp hlf hv5 hl ?_
        by_cases h3 : x ∈ a
        · rw [if_pos (.inr ⟨h2, h3⟩)] at hstep
          try simp (disch := first | omega | with_unfolding_all exact id rfl | with_unfolding_all exact Nat.le_of_ble_eq_true rfl | (simp only [Jd, Je, Jr, Js, Jt, Nat.reduceAdd, allOne, oneCell, Bool.and_self, Jc]; first | done | omega)) only [decide_eq_true h3, ↓Qa, ↓Qb, Qd, Qe, Qf, Qg, Qh, Qi, Qj, Qk, Ql, Qm, Qn, Qo, Qp, Qq, Qr, Qs, Qt, Qu, Qv, Qw, Qx, Qy, ptrTo, Qz, QA, QB, QC, QD, QE, QF, QG, QH, QI, QJ, QK, QL, QM, QN, QO, QP, QQ, QR, QS, QT, QU, QV, QW, QX, QY, QZ, Ja, Jb, Jc, Jd, Je, Jf, Jg, Jh, Ji, Jj, Jk, Jl, Jm, Jn, Jo, Jp, Jq, Jr, Js, Jt, Nat.reduceAdd]
          repeat (rw [join_e]; try simp (disch := first | omega | with_unfolding_all exact id rfl | with_unfolding_all exact Nat.le_of_ble_eq_true rfl | (simp only [Jd, Je, Jr, Js, Jt, Nat.reduceAdd, allOne, oneCell, Bool.and_self, Jc]; first | done | omega)) only [decide_eq_true h3, bs22, h8, f6, ↓Qa, ↓Qb, Qd, Qe, Qf, Qg, Qh, Qi, Qj, Qk, Ql, Qm, Qn, Qo, Qp, Qq, Qr, Qs, Qt, Qu, Qv, Qw, Qx, Qy, ptrTo, Qz, QA, QB, QC, QD, QE, QF, QG, QH, QI, QJ, QK, QL, QM, QN, QO, QP, QQ, QR, QS, QT, QU, QV, QW, QX, QY, QZ, Ja, Jb, Jc, Jd, Je, Jf, Jg, Jh, Ji, Jj, Jk, Jl, Jm, Jn, Jo, Jp, Jq, Jr, Js, Jt, Nat.reduceAdd])
          try simp (disch := first | omega | with_unfolding_all exact id rfl | with_unfolding_all exact Nat.le_of_ble_eq_true rfl | (simp only [Jd, Je, Jr, Js, Jt, Nat.reduceAdd, allOne, oneCell, Bool.and_self, Jc]; first | done | omega)) only [decide_eq_true h3, bs22, h8, f6, ↓Qa, ↓Qb, Qd, Qe, Qf, Qg, Qh, Qi, Qj, Qk, Ql, Qm, Qn, Qo, Qp, Qq, Qr, Qs, Qt, Qu, Qv, Qw, Qx, Qy, ptrTo, Qz, QA, QB, QC, QD, QE, QF, QG, QH, QI, QJ, QK, QL, QM, QN, QO, QP, QQ, QR, QS, QT, QU, QV, QW, QX, QY, QZ, Ja, Jb, Jc, Jd, Je, Jf, Jg, Jh, Ji, Jj, Jk, Jl, Jm, Jn, Jo, Jp, Jq, Jr, Js, Jt, Nat.reduceAdd]
          exact hself hxN _ _ ⟨w2, rfl, h10, by rw [hstep]; exact h9.le n5⟩
        · rw [if_neg (fun hh => hh.elim h1 (fun h => h3 h.2)), List.append_nil] at hstep
          try simp (disch := first | omega | with_unfolding_all exact id rfl | with_unfolding_all exact Nat.le_of_ble_eq_true rfl | (simp only [Jd, Je, Jr, Js, Jt, Nat.reduceAdd, allOne, oneCell, Bool.and_self, Jc]; first | done | omega)) only [decide_eq_false h3, ↓Qa, ↓Qb, Qd, Qe, Qf, Qg, Qh, Qi, Qj, Qk, Ql, Qm, Qn, Qo, Qp, Qq, Qr, Qs, Qt, Qu, Qv, Qw, Qx, Qy, ptrTo, Qz, QA, QB, QC, QD, QE, QF, QG, QH, QI, QJ, QK, QL, QM, QN, QO, QP, QQ, QR, QS, QT, QU, QV, QW, QX, QY, QZ, Ja, Jb, Jc, Jd, Je, Jf, Jg, Jh, Ji, Jj, Jk, Jl, Jm, Jn, Jo, Jp, Jq, Jr, Js, Jt, Nat.reduceAdd]
          repeat (rw [join_e]; try simp (disch := first | omega | with_unfolding_all exact id rfl | with_unfolding_all exact Nat.le_of_ble_eq_true rfl | (simp only [Jd, Je, Jr, Js, Jt, Nat.reduceAdd, allOne, oneCell, Bool.and_self, Jc]; first | done | omega)) only [decide_eq_false h3, f6, ↓Qa, ↓Qb, Qd, Qe, Qf, Qg, Qh, Qi, Qj, Qk, Ql, Qm, Qn, Qo, Qp, Qq, Qr, Qs, Qt, Qu, Qv, Qw, Qx, Qy, ptrTo, Qz, QA, QB, QC, QD, QE, QF, QG, QH, QI, QJ, QK, QL, QM, QN, QO, QP, QQ, QR, QS, QT, QU, QV, QW, QX, QY, QZ, Ja, Jb, Jc, Jd, Je, Jf, Jg, Jh, Ji, Jj, Jk, Jl, Jm, Jn, Jo, Jp, Jq, Jr, Js, Jt, Nat.reduceAdd])
          try simp (disch := first | omega | with_unfolding_all exact id rfl | with_unfolding_all exact Nat.le_of_ble_eq_true rfl | (simp only [Jd, Je, Jr, Js, Jt, Nat.reduceAdd, allOne, oneCell, Bool.and_self, Jc]; first | done | omega)) only [decide_eq_false h3, f6, ↓Qa, ↓Qb, Qd, Qe, Qf, Qg, Qh, Qi, Qj, Qk, Ql, Qm, Qn, Qo, Qp, Qq, Qr, Qs, Qt, Qu, Qv, Qw, Qx, Qy, ptrTo, Qz, QA, QB, QC, QD, QE, QF, QG, QH, QI, QJ, QK, QL, QM, QN, QO, QP, QQ, QR, QS, QT, QU, QV, QW, QX, QY, QZ, Ja, Jb, Jc, Jd, Je, Jf, Jg, Jh, Ji, Jj, Jk, Jl, Jm, Jn, Jo, Jp, Jq, Jr, Js, Jt, Nat.reduceAdd]
          exact hself hxN _ _ ⟨w, rfl, e5, by rw [hstep]; exact hw⟩
  · have : x = N := by omega
    subst this
    exact hk _ _ e5 hw
end
end Go.Vit

/- Walks: the reference's way, lists of lists compared, and what is too large. -/
namespace Go.Vit
open Go Go.Proofs
attribute [local irreducible] runT loopS
theorem veqL_ints : ∀ l : List Int, veqL (l.map (Value.int .i64)) (l.map (Value.int .i64)) = true
  | [] => rfl
  | x :: l => by
    show veqL (.int .i64 x :: _) (.int .i64 x :: _) = true
    rw [veqL_cons, veq_int, veqL_ints l]; rfl
/-- A load that comes after a call that left its block alone. -/
theorem oSm_keep {m m' : Mem} {b o : Nat} {l : List Int} {kk : Option Unit} (h : m.rd b = some ⟨1, l.map (Value.int .i64), none⟩) (h' : m'.rd b = m.rd b) : oSm m m' (.pointer (some ⟨b, o, none⟩)) kk = kk := by
  rw [oSm_u, h', h, bEq_ss, veqL_ints, oIf_t]
theorem app_empty {L : Nat} {m : Mem} {v : Value} {l : List Nat} (hL : L ≤ m.next) (hv : IN m v l) (hl : l.length < 1000000) :
    ∃ u m', aappend Try.prog L (m.push ⟨1, [], none⟩) 22 (slTo 0 m.next) v = some (u, m') ∧ Gt m m' ∧ IN m' u l ∧ ∀ c, bid u = some c → m.next ≤ c ∧ c < m'.next := by
  have g1 := Mem.gt_push m ⟨1, [], none⟩
  have hx : IN (m.push ⟨1, [], none⟩) v l := hv.mono g1
  have h1 : Sl 1 (m.push ⟨1, [], none⟩) v l.length ((ci l).map (Value.int .i64)) := by
    have := hx; unfold IN IL at this; rwa [ci_length] at this
  cases hl0 : l.length with
  | zero =>
    have h0 : l = [] := List.length_eq_zero_iff.1 hl0
    subst h0
    refine ⟨slTo 0 m.next, m.push ⟨1, [], none⟩, ?_, g1, ⟨rfl, .inr ⟨_, _, _, _, rfl⟩⟩, fun c hc => ?_⟩
    · unfold aappend slTo
      rw [ael22]
      have := h1.1
      simp only [List.length_nil] at this
      simp only [this, natK_eq]
    · cases hc
      exact ⟨Nat.le_refl _, by rw [Mem.push_next]; omega⟩
  | succ j =>
    have hap : aappend Try.prog L (m.push ⟨1, [], none⟩) 22 (slTo 0 m.next) v = some (slTo l.length ((m.push ⟨1, [], none⟩).put m.next none).next, ((m.push ⟨1, [], none⟩).put m.next none).push ⟨1, (ci l).map (Value.int .i64), none⟩) := by
      have hr := roomy_of (n := l.length) (y := 8) (by omega) (by omega)
      unfold aappend slTo
      rw [ael22]
      rw [hl0] at h1 hr ⊢
      simp only [h1.1, natK_eq]
      have hrd : rdc (m.push ⟨1, [], none⟩) m.next 0 (Nat.mul 0 1) = some [] := rdc_e (s := 1) (Mem.rd_push m ⟨1, [], none⟩) (by decide)
      have hn0 : Nat.add 0 (Nat.succ j) = j + 1 := Nat.zero_add _
      simp only [hn0, hr, hrd, ble_t (show L ≤ m.next from hL), Mem.rd_push, Nat.ble_eq_true_of_le (Nat.le_refl 0), List.nil_append, anew_eq, allOne_map]
      rfl
    have hnx : ((m.push ⟨1, [], none⟩).put m.next none).next = m.next + 1 := by rw [Mem.put_next', Mem.push_next]
    have hgn : GN m.next (((m.push ⟨1, [], none⟩).put m.next none).push ⟨1, (ci l).map (Value.int .i64), none⟩) (slTo l.length ((m.push ⟨1, [], none⟩).put m.next none).next) l := by
      refine .inr ⟨_, ?_, ?_, Mem.rd_push _ _, ?_, ?_⟩
      · rw [hnx]; omega
      · rw [ci_length]; rfl
      · simp [ci]
      · rw [ci_length]; omega
    exact ⟨_, _, hap, (Mem.put_gt g1 none (Nat.le_refl _)).trans (Mem.gt_push _ _), hgn.inn, Gs.bid_lt hgn⟩
theorem bs372 (m : Mem) (p q : Option Addr) (n c n' c' : Nat) : bs Try.prog m 37 2 [(0, .slice p n c), (1, .slice q n' c')] = some (slTo 2 m.next, m.push ⟨1, [.slice p n c, .slice q n' c'], none⟩) :=
  (show _ = anew m 1 [.slice p n c, .slice q n' c'] (slTo 2) by kernel_rfl).trans (anew_eq ..)
section
variable {lf n L : Nat} {m : Mem} {k : Value → Mem → Option Unit}
/-- Some list is longer than sixty. -/
theorem large_sp {u : Value} {vs : List Value} {ns : List Nat} (hlf : 1000000 ≤ lf) (hs : Sl 1 m u vs.length vs) (hv : vs.length < 1000) (hln : ∀ i (h : i < vs.length), Vit.ln vs[i] = some (.int .i64 ((ns.getD i 0 : Nat) : Int)))
    (hk : k (.bool ((List.range vs.length).any fun i => decide (60 < ns.getD i 0))) m = some ()) : runT (tab lf) (n + 1) 14 [u] L m k = some () := by
  rw [r14]; dsimp only [S14, iofNat, inegSucc]
  try simp (disch := first | omega | with_unfolding_all exact id rfl | with_unfolding_all exact Nat.le_of_ble_eq_true rfl | (simp only [Jd, Je, Jr, Js, Jt, Nat.reduceAdd, allOne, oneCell, Bool.and_self, Jc]; first | done | omega)) only [↓Qa, ↓Qb, ↓Qc, Qd, Qe, Qf, Qg, Qh, Qi, Qj, Qk, Ql, Qm, Qn, Qo, Qp, Qq, Qr, Qs, Qt, Qu, Qv, Qw, Qx, Qy, ptrTo, Qz, QA, QB, QC, QD, QE, QF, QG, QH, QI, QJ, QK, QL, QM, QN, QO, QP, QQ, QR, QS, QT, QU, QV, QW, QX, QY, QZ, Ja, Jb, Jc, Jd, Je, Jf, Jg, Jh, Ji, Jj, Jk, Jl, Jm, Jn, Jo, Jp, Jq, Jr, Js, Jt, Nat.reduceAdd]
  refine loop_up vs.length (fun i vs' m' => vs' = [.int .i64 (i : Int)] ∧ m' = m ∧ ∀ j, j < i → ¬ 60 < ns.getD j 0) (by omega) ⟨rfl, rfl, fun j hj => by omega⟩ ?_
  rintro i vs' m' hi ⟨rfl, rfl, hI⟩ self hself
  try simp (disch := first | omega | with_unfolding_all exact id rfl | with_unfolding_all exact Nat.le_of_ble_eq_true rfl | (simp only [Jd, Je, Jr, Js, Jt, Nat.reduceAdd, allOne, oneCell, Bool.and_self, Jc]; first | done | omega)) only [hs.ln, ↓Qa, ↓Qb, ↓Qc, Qd, Qe, Qf, Qg, Qh, Qi, Qj, Qk, Ql, Qm, Qn, Qo, Qp, Qq, Qr, Qs, Qt, Qu, Qv, Qw, Qx, Qy, ptrTo, Qz, QA, QB, QC, QD, QE, QF, QG, QH, QI, QJ, QK, QL, QM, QN, QO, QP, QQ, QR, QS, QT, QU, QV, QW, QX, QY, QZ, Ja, Jb, Jc, Jd, Je, Jf, Jg, Jh, Ji, Jj, Jk, Jl, Jm, Jn, Jo, Jp, Jq, Jr, Js, Jt, Nat.reduceAdd]
  refine oIf_dec (fun h => ?_) (fun h => ?_)
  · have hil : i < vs.length := by omega
    have hld := hs.ld hil (List.getElem?_eq_getElem hil)
    rw [hs.ia hil, oOpt_e, hld, oOpt_e, hln i hil, oOpt_e, oInt_gtr]
    refine oIf_dec (fun h1 => ?_) (fun h1 => ?_)
    · have : ((List.range vs.length).any fun i => decide (60 < ns.getD i 0)) = true := List.any_eq_true.2 ⟨i, List.mem_range.2 hil, decide_eq_true (by omega)⟩
      rw [this] at hk
      exact hk
    · rw [oInt_add ⟨by omega, by omega⟩]
      refine hself hil _ _ ⟨rfl, rfl, fun j hj => ?_⟩
      by_cases hje : j = i
      · subst hje; omega
      · exact hI j (by omega)
  · have : ((List.range vs.length).any fun i => decide (60 < ns.getD i 0)) = false := by
      rw [List.any_eq_false]
      intro j hj
      have := hI j (by have := List.mem_range.1 hj; omega)
      simp only [decide_eq_true_eq]; exact this
    rw [this] at hk
    exact hk
/-- Two lists of the same lists. -/
theorem lists_sp {v u : Value} {ll : List (List Nat)} (hlf : 1000000 ≤ lf) (hv : LL m v ll) (hu : LL m u ll) (hl : ll.length < 1000) (hls : ∀ l ∈ ll, l.length < 1000) (hk : k (.bool true) m = some ()) : runT (tab lf) (n + 2) 31 [v, u] L m k = some () := by
  rw [r31]; dsimp only [S31, iofNat, inegSucc]
  have d1 : decide ((ll.length : Int) = (ll.length : Int)) = true := decide_eq_true rfl
  try simp (disch := first | omega | with_unfolding_all exact id rfl | with_unfolding_all exact Nat.le_of_ble_eq_true rfl | (simp only [Jd, Je, Jr, Js, Jt, Nat.reduceAdd, allOne, oneCell, Bool.and_self, Jc]; first | done | omega)) only [hv.ln, hu.ln, d1, ↓Qa, ↓Qb, ↓Qc, Qd, Qe, Qf, Qg, Qh, Qi, Qj, Qk, Ql, Qm, Qn, Qo, Qp, Qq, Qr, Qs, Qt, Qu, Qv, Qw, Qx, Qy, ptrTo, Qz, QA, QB, QC, QD, QE, QF, QG, QH, QI, QJ, QK, QL, QM, QN, QO, QP, QQ, QR, QS, QT, QU, QV, QW, QX, QY, QZ, Ja, Jb, Jc, Jd, Je, Jf, Jg, Jh, Ji, Jj, Jk, Jl, Jm, Jn, Jo, Jp, Jq, Jr, Js, Jt, Nat.reduceAdd]
  refine loop_up ll.length (fun i vs m' => vs = [.int .i64 (i : Int)] ∧ m' = m) (by omega) ⟨rfl, rfl⟩ ?_
  rintro i vs m' hi ⟨rfl, rfl⟩ self hself
  try simp (disch := first | omega | with_unfolding_all exact id rfl | with_unfolding_all exact Nat.le_of_ble_eq_true rfl | (simp only [Jd, Je, Jr, Js, Jt, Nat.reduceAdd, allOne, oneCell, Bool.and_self, Jc]; first | done | omega)) only [hv.ln, ↓Qa, ↓Qb, ↓Qc, Qd, Qe, Qf, Qg, Qh, Qi, Qj, Qk, Ql, Qm, Qn, Qo, Qp, Qq, Qr, Qs, Qt, Qu, Qv, Qw, Qx, Qy, ptrTo, Qz, QA, QB, QC, QD, QE, QF, QG, QH, QI, QJ, QK, QL, QM, QN, QO, QP, QQ, QR, QS, QT, QU, QV, QW, QX, QY, QZ, Ja, Jb, Jc, Jd, Je, Jf, Jg, Jh, Ji, Jj, Jk, Jl, Jm, Jn, Jo, Jp, Jq, Jr, Js, Jt, Nat.reduceAdd]
  refine oIf_dec (fun h => ?_) (fun h => ?_)
  · have hil : i < ll.length := by omega
    obtain ⟨x, x1, x2⟩ := hv.ld hil
    obtain ⟨y, y1, y2⟩ := hu.ld hil
    rw [hv.ia hil, oOpt_e, x1, oOpt_e, hu.ia hil, oOpt_e, y1, oOpt_e]
    refine same_sp hlf x2 y2 (by rw [ci_length]; have := hls _ (List.getElem_mem hil); omega) ?_
    rw [decide_eq_true rfl]
    try simp (disch := first | omega | with_unfolding_all exact id rfl | with_unfolding_all exact Nat.le_of_ble_eq_true rfl | (simp only [Jd, Je, Jr, Js, Jt, Nat.reduceAdd, allOne, oneCell, Bool.and_self, Jc]; first | done | omega)) only [↓Qa, ↓Qb, ↓Qc, Qd, Qe, Qf, Qg, Qh, Qi, Qj, Qk, Ql, Qm, Qn, Qo, Qp, Qq, Qr, Qs, Qt, Qu, Qv, Qw, Qx, Qy, ptrTo, Qz, QA, QB, QC, QD, QE, QF, QG, QH, QI, QJ, QK, QL, QM, QN, QO, QP, QQ, QR, QS, QT, QU, QV, QW, QX, QY, QZ, Ja, Jb, Jc, Jd, Je, Jf, Jg, Jh, Ji, Jj, Jk, Jl, Jm, Jn, Jo, Jp, Jq, Jr, Js, Jt, Nat.reduceAdd]
    rw [oInt_add ⟨by omega, by omega⟩]
    exact hself hil _ _ ⟨rfl, rfl⟩
  · exact hk
theorem refaway_sp {N kk : Nat} {v u : Value} {a b : List Nat} (hlf : 1000000 ≤ lf) (hL : L ≤ m.next) (h1 : 1 ≤ N) (h10 : N ≤ 10) (hv : IN m v a) (hu : IN m u b) (ha : Bl N kk a) (hb : Bl N kk b)
    (hk : ∀ m', Gt m m' → k (.tuple ⟨[.int .i64 (awayN a b : Int), .int .i64 0]⟩) m' = some ()) : runT (tab lf) (n + 4) 28 [.int .i64 (N : Int), v, u] L m k = some () := by
  have hkk := ha.le
  have l1 := ha.len
  have l2 := hb.len
  rw [r28]; dsimp only [S28, iofNat, inegSucc]
  try simp (disch := first | omega | with_unfolding_all exact id rfl | with_unfolding_all exact Nat.le_of_ble_eq_true rfl | (simp only [Jd, Je, Jr, Js, Jt, Nat.reduceAdd, allOne, oneCell, Bool.and_self, Jc]; first | done | omega)) only [↓Qa, ↓Qb, ↓Qc, Qd, Qe, Qf, Qg, Qh, Qi, Qj, Qk, Ql, Qm, Qn, Qo, Qp, Qq, Qr, Qs, Qt, Qu, Qv, Qw, Qx, Qy, ptrTo, Qz, QA, QB, QC, QD, QE, QF, QG, QH, QI, QJ, QK, QL, QM, QN, QO, QP, QQ, QR, QS, QT, QU, QV, QW, QX, QY, QZ, Ja, Jb, Jc, Jd, Je, Jf, Jg, Jh, Ji, Jj, Jk, Jl, Jm, Jn, Jo, Jp, Jq, Jr, Js, Jt, Nat.reduceAdd]
  refine both72_sp hlf hv hu (by rw [ci_length]; omega) (by rw [ci_length]; omega) ?_
  unfold botE
  rw [chkB_ok h1 h10 ha, chkB_ok h1 h10 hb, if_pos rfl, if_pos rfl, if_pos (by rw [ci_length, ci_length]; omega)]
  try simp (disch := first | omega | with_unfolding_all exact id rfl | with_unfolding_all exact Nat.le_of_ble_eq_true rfl | (simp only [Jd, Je, Jr, Js, Jt, Nat.reduceAdd, allOne, oneCell, Bool.and_self, Jc]; first | done | omega)) only [↓Qa, ↓Qb, ↓Qc, Qd, Qe, Qf, Qg, Qh, Qi, Qj, Qk, Ql, Qm, Qn, Qo, Qp, Qq, Qr, Qs, Qt, Qu, Qv, Qw, Qx, Qy, ptrTo, Qz, QA, QB, QC, QD, QE, QF, QG, QH, QI, QJ, QK, QL, QM, QN, QO, QP, QQ, QR, QS, QT, QU, QV, QW, QX, QY, QZ, Ja, Jb, Jc, Jd, Je, Jf, Jg, Jh, Ji, Jj, Jk, Jl, Jm, Jn, Jo, Jp, Jq, Jr, Js, Jt, Nat.reduceAdd]
  refine less_sp hlf hL hv hu (by omega) (by omega) fun w m' e hw => ?_
  rw [hw.ln, oOpt_e]
  exact hk m' e
theorem refway_sp {N kk : Nat} {v u : Value} {a b : List Nat} (hlf : 1000000 ≤ lf) (h1 : 1 ≤ N) (h10 : N ≤ 10) (hL : L ≤ m.next) (hv : IN m v a) (hu : IN m u b) (ha : Bl N kk a) (hb : Bl N kk b)
    (hk : ∀ w m', Gt m m' → LL m' w ((List.range (awayN a b + 1)).map (itr N b a)) → k (.tuple ⟨[w, .int .i64 0]⟩) m' = some ()) : runT (tab lf) (n + 4) 30 [.int .i64 (N : Int), v, u] L m k = some () := by
  have hkk := ha.le
  have l1 := ha.len
  have l2 := hb.len
  have hdk := (away_le ha hb).1
  rw [r30]; dsimp only [S30, iofNat, inegSucc]
  try simp (disch := first | omega | with_unfolding_all exact id rfl | with_unfolding_all exact Nat.le_of_ble_eq_true rfl | (simp only [Jd, Je, Jr, Js, Jt, Nat.reduceAdd, allOne, oneCell, Bool.and_self, Jc]; first | done | omega)) only [↓Qa, ↓Qb, ↓Qc, Qd, Qe, Qf, Qg, Qh, Qi, Qj, Qk, Ql, Qm, Qn, Qo, Qp, Qq, Qr, Qs, Qt, Qu, Qv, Qw, Qx, Qy, ptrTo, Qz, QA, QB, QC, QD, QE, QF, QG, QH, QI, QJ, QK, QL, QM, QN, QO, QP, QQ, QR, QS, QT, QU, QV, QW, QX, QY, QZ, Ja, Jb, Jc, Jd, Je, Jf, Jg, Jh, Ji, Jj, Jk, Jl, Jm, Jn, Jo, Jp, Jq, Jr, Js, Jt, Nat.reduceAdd]
  refine both72_sp hlf hv hu (by rw [ci_length]; omega) (by rw [ci_length]; omega) ?_
  unfold botE
  rw [chkB_ok h1 h10 ha, chkB_ok h1 h10 hb, if_pos rfl, if_pos rfl, if_pos (by rw [ci_length, ci_length]; omega)]
  try simp (disch := first | omega | with_unfolding_all exact id rfl | with_unfolding_all exact Nat.le_of_ble_eq_true rfl | (simp only [Jd, Je, Jr, Js, Jt, Nat.reduceAdd, allOne, oneCell, Bool.and_self, Jc]; first | done | omega)) only [bs220, ↓Qa, ↓Qb, ↓Qc, Qd, Qe, Qf, Qg, Qh, Qi, Qj, Qk, Ql, Qm, Qn, Qo, Qp, Qq, Qr, Qs, Qt, Qu, Qv, Qw, Qx, Qy, ptrTo, Qz, QA, QB, QC, QD, QE, QF, QG, QH, QI, QJ, QK, QL, QM, QN, QO, QP, QQ, QR, QS, QT, QU, QV, QW, QX, QY, QZ, Ja, Jb, Jc, Jd, Je, Jf, Jg, Jh, Ji, Jj, Jk, Jl, Jm, Jn, Jo, Jp, Jq, Jr, Js, Jt, Nat.reduceAdd]
  obtain ⟨w, m3, c1, e3, hw, hwb⟩ := app_empty (L := L) hL hv (by omega)
  have n3 := e3.next
  rw [c1, oRes_e, bs37L hw, oRes_e]
  have hlg : LG m.next (m3.push ⟨1, [w], none⟩) (slTo 1 m3.next) [a] := LG.one hw hwb n3
  have g4 := Mem.gt_push m3 ⟨1, [w], none⟩
  generalize m3.push ⟨1, [w], none⟩ = m4 at g4 hlg ⊢
  have G4 := e3.trans g4
  refine loop_of (fun q vs m' => ∃ i cur out, q = awayN a b - i ∧ i ≤ awayN a b ∧ vs = [cur, out] ∧ Gt m m' ∧ IN m' cur (itr N b a i) ∧ LG m.next m' out ((List.range (i + 1)).map (itr N b a))) ?_ (n := awayN a b) ⟨0, v, slTo 1 m3.next, rfl, Nat.zero_le _, rfl, G4, hv.mono G4, hlg⟩ (by omega)
  rintro q vs m5 ⟨i, cur, out, rfl, hi, rfl, e5, hcur, hout⟩ self hself
  have n5 := e5.next
  have hu5 := hu.mono e5
  obtain ⟨hA, hAw⟩ := itr_ok ha hb i hi
  have hAl := hA.len
  try simp (disch := first | omega | with_unfolding_all exact id rfl | with_unfolding_all exact Nat.le_of_ble_eq_true rfl | (simp only [Jd, Je, Jr, Js, Jt, Nat.reduceAdd, allOne, oneCell, Bool.and_self, Jc]; first | done | omega)) only [↓Qa, ↓Qb, ↓Qc, Qd, Qe, Qf, Qg, Qh, Qi, Qj, Qk, Ql, Qm, Qn, Qo, Qp, Qq, Qr, Qs, Qt, Qu, Qv, Qw, Qx, Qy, ptrTo, Qz, QA, QB, QC, QD, QE, QF, QG, QH, QI, QJ, QK, QL, QM, QN, QO, QP, QQ, QR, QS, QT, QU, QV, QW, QX, QY, QZ, Ja, Jb, Jc, Jd, Je, Jf, Jg, Jh, Ji, Jj, Jk, Jl, Jm, Jn, Jo, Jp, Jq, Jr, Js, Jt, Nat.reduceAdd]
  refine same64_sp hlf hcur hu5 (by rw [ci_length]; omega) ?_
  by_cases hid : i = awayN a b
  · rw [hid, itr_end ha hb, decide_eq_true rfl]
    rw [hid] at hout
    try simp (disch := first | omega | with_unfolding_all exact id rfl | with_unfolding_all exact Nat.le_of_ble_eq_true rfl | (simp only [Jd, Je, Jr, Js, Jt, Nat.reduceAdd, allOne, oneCell, Bool.and_self, Jc]; first | done | omega)) only [↓Qa, ↓Qb, ↓Qc, Qd, Qe, Qf, Qg, Qh, Qi, Qj, Qk, Ql, Qm, Qn, Qo, Qp, Qq, Qr, Qs, Qt, Qu, Qv, Qw, Qx, Qy, ptrTo, Qz, QA, QB, QC, QD, QE, QF, QG, QH, QI, QJ, QK, QL, QM, QN, QO, QP, QQ, QR, QS, QT, QU, QV, QW, QX, QY, QZ, Ja, Jb, Jc, Jd, Je, Jf, Jg, Jh, Ji, Jj, Jk, Jl, Jm, Jn, Jo, Jp, Jq, Jr, Js, Jt, Nat.reduceAdd]
    exact hk _ _ e5 hout.ll
  · obtain ⟨o, j, hs⟩ := itr_step ha hb (i := i) (by omega)
    have hstep : itr N b a (i + 1) = exch N (itr N b a i) o j := hs.eq
    have hnab : ci (itr N b a i) ≠ ci b := fun h => by
      have : itr N b a i = b := List.map_inj_right (fun x y h => Int.ofNat.inj h) |>.1 h
      have := (away_zero hA hb).2 this
      omega
    rw [decide_eq_false hnab]
    try simp (disch := first | omega | with_unfolding_all exact id rfl | with_unfolding_all exact Nat.le_of_ble_eq_true rfl | (simp only [Jd, Je, Jr, Js, Jt, Nat.reduceAdd, allOne, oneCell, Bool.and_self, Jc]; first | done | omega)) only [↓Qa, ↓Qb, ↓Qc, Qd, Qe, Qf, Qg, Qh, Qi, Qj, Qk, Ql, Qm, Qn, Qo, Qp, Qq, Qr, Qs, Qt, Qu, Qv, Qw, Qx, Qy, ptrTo, Qz, QA, QB, QC, QD, QE, QF, QG, QH, QI, QJ, QK, QL, QM, QN, QO, QP, QQ, QR, QS, QT, QU, QV, QW, QX, QY, QZ, Ja, Jb, Jc, Jd, Je, Jf, Jg, Jh, Ji, Jj, Jk, Jl, Jm, Jn, Jo, Jp, Jq, Jr, Js, Jt, Nat.reduceAdd]
    refine less_sp hlf (by omega) hcur hu5 (by omega) (by omega) fun w1 m6 e6 hw1 => ?_
    have n6 := e6.next
    rw [hs.l1] at hw1
    obtain ⟨b1, hb1, rfl, hr1⟩ : ∃ b1, m5.next ≤ b1 ∧ w1 = .slice (some ⟨b1, 0, none⟩) (o :: less (itr N b a (i + 1)) b).length (o :: less (itr N b a (i + 1)) b).length ∧ m6.rd b1 = some ⟨1, (ci (o :: less (itr N b a (i + 1)) b)).map (Value.int .i64), none⟩ := by
      rcases hw1 with ⟨_, h, _⟩ | ⟨b1, h1, h2, h3, _⟩
      · rw [ci_length, List.length_cons] at h; omega
      · rw [ci_length] at h2; exact ⟨b1, h1, h2, h3⟩
    have hia : ia 1 (.slice (some ⟨b1, 0, none⟩) (o :: less (itr N b a (i + 1)) b).length (o :: less (itr N b a (i + 1)) b).length) (.int .i64 0) = some (.pointer (some ⟨b1, 0, none⟩)) :=
      ia_e (sz := 1) (i := 0) (show 0 < (o :: less (itr N b a (i + 1)) b).length by simp)
    have hld : ld1 m6 (.pointer (some ⟨b1, 0, none⟩)) = some (.int .i64 (o : Int)) := by rw [ld1_u, hr1]; rfl
    rw [hia, oOpt_e, hld, oOpt_e]
    refine less_sp hlf (by omega) (hu5.mono e6) (hcur.mono e6) (by omega) (by omega) fun w2 m7 e7 hw2 => ?_
    have n7 := e7.next
    rw [oSm_keep hr1 (e7.kept _ (Mem.rd_lt hr1))]
    rw [hs.l2] at hw2
    have y3 : ia 1 w2 (.int .i64 0) = some (ep 1 w2 0) := hw2.inn.ia (i := 0) (by simp)
    have y4 : ld1 m7 (ep 1 w2 0) = some (.int .i64 (j : Int)) := hw2.inn.ld (i := 0) (by simp)
    rw [y3, oOpt_e, y4, oOpt_e]
    have E7 := e6.trans e7
    refine exch_sp hlf (by omega) h10 (hcur.mono E7) (by omega) fun w3 m8 e8 hw3 => ?_
    have n8 := e8.next
    rw [← hstep] at hw3
    have E8 := E7.trans e8
    rw [bs37L hw3.inn, oRes_e]
    have hfr := hw3.bid_lt
    obtain ⟨y, m10, s1, s2, s3, s4, s5, s6⟩ := LG.snoc (P := Try.prog) (t := 37) (L := L) (m0 := m) ael37 (by omega) (hout.mono E8) hw3.inn (fun c hc => by have := hfr c hc; omega) (fun c hc hu => by have := hfr c hc; have := hout.fr _ hu; omega) (by rw [List.length_map, List.length_range]; omega) hL (e5.trans E8) (Nat.le_refl _)
    rw [s1, oRes_e]
    refine hself (awayN a b - (i + 1)) _ _ (by omega) ⟨i + 1, w3, y, rfl, by omega, rfl, s3, ?_, ?_⟩
    · refine hw3.inn.keep fun c hc => s6 c (hfr c hc).2 (fun h => by have := hfr c hc; have := hout.fr _ h; omega)
    · rw [List.range_succ, List.map_append, List.map_cons, List.map_nil]
      exact s2
end
end Go.Vit

/- Walks: choose, sized, number, nth. -/
namespace Go.Vit
open Go Go.Proofs
attribute [local irreducible] runT loopS
theorem oInt_mulN {a b : Nat} (h : a * b < 9223372036854775808) (k : Value → Option Unit) : oInt .mul .i64 (.int .i64 (a : Int)) (.int .i64 (b : Int)) k = k (.int .i64 ((a * b : Nat) : Int)) := by
  rw [oInt_mul ⟨by rw [← Int.natCast_mul]; omega, by rw [← Int.natCast_mul]; omega⟩, ← Int.natCast_mul]
theorem oInt_quoN {a b : Nat} (hb : 0 < b) (ha : a < 9223372036854775808) (k : Value → Option Unit) : oInt .quo .i64 (.int .i64 (a : Int)) (.int .i64 (b : Int)) k = k (.int .i64 ((a / b : Nat) : Int)) := by
  rw [oInt_quo (by omega) (by omega) (by omega)]; rfl
theorem oInt_subN {a b : Nat} (h : b ≤ a) (ha : a < 9223372036854775808) (k : Value → Option Unit) : oInt .sub .i64 (.int .i64 (a : Int)) (.int .i64 (b : Int)) k = k (.int .i64 ((a - b : Nat) : Int)) := by
  rw [oInt_sub ⟨by omega, by omega⟩, show (a : Int) - (b : Int) = ((a - b : Nat) : Int) by omega]
/-- Whatever the numbers are, there is an answer. -/
theorem any_sub (a b : Int) : ∃ z, ∀ K : Value → Option Unit, oInt .sub .i64 (.int .i64 a) (.int .i64 b) K = K (.int .i64 z) :=
  ⟨_, fun K => by rw [oInt_i]; simp only [aint]; rw [mkI_e, oOpt_e]⟩
theorem any_mul (a b : Int) : ∃ z, ∀ K : Value → Option Unit, oInt .mul .i64 (.int .i64 a) (.int .i64 b) K = K (.int .i64 z) :=
  ⟨_, fun K => by rw [oInt_i]; simp only [aint]; rw [mkI_e, oOpt_e]⟩
theorem any_quo (a : Int) {b : Int} (hb : b ≠ 0) : ∃ z, ∀ K : Value → Option Unit, oInt .quo .i64 (.int .i64 a) (.int .i64 b) K = K (.int .i64 z) :=
  ⟨_, fun K => by
    have hz : ieq b 0 = false := by rw [ieq_e]; exact decide_eq_false hb
    rw [oInt_i]; simp only [aint, hz]; rw [mkI_e, oOpt_e]⟩
def szE (N k : Int) : Int := if (1 ≤ N ∧ N ≤ 10) ∧ (0 ≤ k ∧ k ≤ N) then 0 else 1
section
variable {lf n L : Nat} {m : Mem} {k : Value → Mem → Option Unit}
theorem choose_sp {a b : Nat} (hlf : 1000000 ≤ lf) (ha : a < 12) (hb : b < 1000000) (hk : k (.int .i64 (chs a b : Int)) m = some ()) : runT (tab lf) (n + 1) 60 [.int .i64 (a : Int), .int .i64 (b : Int)] L m k = some () := by
  rw [r60]; dsimp only [S60, iofNat, inegSucc]
  have d1 : decide ((b : Int) < 0) = false := decide_eq_false (by omega)
  by_cases hab : a < b
  · have d2 : decide ((a : Int) < (b : Int)) = true := decide_eq_true (by omega)
    try simp (disch := first | omega | with_unfolding_all exact id rfl | with_unfolding_all exact Nat.le_of_ble_eq_true rfl | (simp only [Jd, Je, Jr, Js, Jt, Nat.reduceAdd, allOne, oneCell, Bool.and_self, Jc]; first | done | omega)) only [d1, d2, ↓Qa, ↓Qb, Qd, Qe, Qf, Qg, Qh, Qi, Qj, Qk, Ql, Qm, Qn, Qo, Qp, Qq, Qr, Qs, Qt, Qu, Qv, Qw, Qx, Qy, ptrTo, Qz, QA, QB, QC, QD, QE, QF, QG, QH, QI, QJ, QK, QL, QM, QN, QO, QP, QQ, QR, QS, QT, QU, QV, QW, QX, QY, QZ, Ja, Jb, Jc, Jd, Je, Jf, Jg, Jh, Ji, Jj, Jk, Jl, Jm, Jn, Jo, Jp, Jq, Jr, Js, Jt, Nat.reduceAdd]
    repeat (rw [join_e]; try simp (disch := first | omega | with_unfolding_all exact id rfl | with_unfolding_all exact Nat.le_of_ble_eq_true rfl | (simp only [Jd, Je, Jr, Js, Jt, Nat.reduceAdd, allOne, oneCell, Bool.and_self, Jc]; first | done | omega)) only [d1, d2, ↓Qa, ↓Qb, Qd, Qe, Qf, Qg, Qh, Qi, Qj, Qk, Ql, Qm, Qn, Qo, Qp, Qq, Qr, Qs, Qt, Qu, Qv, Qw, Qx, Qy, ptrTo, Qz, QA, QB, QC, QD, QE, QF, QG, QH, QI, QJ, QK, QL, QM, QN, QO, QP, QQ, QR, QS, QT, QU, QV, QW, QX, QY, QZ, Ja, Jb, Jc, Jd, Je, Jf, Jg, Jh, Ji, Jj, Jk, Jl, Jm, Jn, Jo, Jp, Jq, Jr, Js, Jt, Nat.reduceAdd])
    unfold chs at hk
    rw [if_pos hab] at hk
    exact hk
  · have d2 : decide ((a : Int) < (b : Int)) = false := decide_eq_false (by omega)
    try simp (disch := first | omega | with_unfolding_all exact id rfl | with_unfolding_all exact Nat.le_of_ble_eq_true rfl | (simp only [Jd, Je, Jr, Js, Jt, Nat.reduceAdd, allOne, oneCell, Bool.and_self, Jc]; first | done | omega)) only [d1, d2, ↓Qa, ↓Qb, Qd, Qe, Qf, Qg, Qh, Qi, Qj, Qk, Ql, Qm, Qn, Qo, Qp, Qq, Qr, Qs, Qt, Qu, Qv, Qw, Qx, Qy, ptrTo, Qz, QA, QB, QC, QD, QE, QF, QG, QH, QI, QJ, QK, QL, QM, QN, QO, QP, QQ, QR, QS, QT, QU, QV, QW, QX, QY, QZ, Ja, Jb, Jc, Jd, Je, Jf, Jg, Jh, Ji, Jj, Jk, Jl, Jm, Jn, Jo, Jp, Jq, Jr, Js, Jt, Nat.reduceAdd]
    repeat (rw [join_e]; try simp (disch := first | omega | with_unfolding_all exact id rfl | with_unfolding_all exact Nat.le_of_ble_eq_true rfl | (simp only [Jd, Je, Jr, Js, Jt, Nat.reduceAdd, allOne, oneCell, Bool.and_self, Jc]; first | done | omega)) only [d1, d2, ↓Qa, ↓Qb, Qd, Qe, Qf, Qg, Qh, Qi, Qj, Qk, Ql, Qm, Qn, Qo, Qp, Qq, Qr, Qs, Qt, Qu, Qv, Qw, Qx, Qy, ptrTo, Qz, QA, QB, QC, QD, QE, QF, QG, QH, QI, QJ, QK, QL, QM, QN, QO, QP, QQ, QR, QS, QT, QU, QV, QW, QX, QY, QZ, Ja, Jb, Jc, Jd, Je, Jf, Jg, Jh, Ji, Jj, Jk, Jl, Jm, Jn, Jo, Jp, Jq, Jr, Js, Jt, Nat.reduceAdd])
    unfold chs at hk
    rw [if_neg hab] at hk
    refine loop_up b (fun i vs m' => vs = [.int .i64 (chsT a i : Int), .int .i64 (i : Int)] ∧ m' = m) (by omega) ⟨rfl, rfl⟩ ?_
    rintro i vs m' hi ⟨rfl, rfl⟩ self hself
    try simp (disch := first | omega | with_unfolding_all exact id rfl | with_unfolding_all exact Nat.le_of_ble_eq_true rfl | (simp only [Jd, Je, Jr, Js, Jt, Nat.reduceAdd, allOne, oneCell, Bool.and_self, Jc]; first | done | omega)) only [↓Qa, ↓Qb, ↓Qc, Qd, Qe, Qf, Qg, Qh, Qi, Qj, Qk, Ql, Qm, Qn, Qo, Qp, Qq, Qr, Qs, Qt, Qu, Qv, Qw, Qx, Qy, ptrTo, Qz, QA, QB, QC, QD, QE, QF, QG, QH, QI, QJ, QK, QL, QM, QN, QO, QP, QQ, QR, QS, QT, QU, QV, QW, QX, QY, QZ, Ja, Jb, Jc, Jd, Je, Jf, Jg, Jh, Ji, Jj, Jk, Jl, Jm, Jn, Jo, Jp, Jq, Jr, Js, Jt, Nat.reduceAdd]
    refine oIf_dec (fun h => ?_) (fun h => ?_)
    · have hib : i < b := by omega
      have hle := (chsT_le a ha i (by omega) (by omega)).2
      have h1 : chsT a i * (a - i) ≤ 1000 * 12 := Nat.mul_le_mul hle (by omega)
      have f6 : ∀ K : Value → Option Unit, oInt .add .i64 (.int .i64 (i : Int)) (.int .i64 1) K = K (.int .i64 ((i + 1 : Nat) : Int)) := fun K => by rw [oInt_add ⟨by omega, by omega⟩]; rfl
      rw [oInt_subN (by omega) (by omega), oInt_mulN (by omega), f6, oInt_quoN (by omega) (by omega), f6]
      exact hself hib _ _ ⟨rfl, rfl⟩
    · have : i = b := by omega
      subst this
      exact hk
theorem choose_any {a b : Int} (hlf : 1000000 ≤ lf) (hb : b < 1000) (hk : ∀ z, k (.int .i64 z) m = some ()) : runT (tab lf) (n + 1) 60 [.int .i64 a, .int .i64 b] L m k = some () := by
  rw [r60]; dsimp only [S60, iofNat, inegSucc]
  by_cases h1 : b < 0
  · try simp (disch := first | omega | with_unfolding_all exact id rfl | with_unfolding_all exact Nat.le_of_ble_eq_true rfl | (simp only [Jd, Je, Jr, Js, Jt, Nat.reduceAdd, allOne, oneCell, Bool.and_self, Jc]; first | done | omega)) only [decide_eq_true h1, ↓Qa, ↓Qb, Qd, Qe, Qf, Qg, Qh, Qi, Qj, Qk, Ql, Qm, Qn, Qo, Qp, Qq, Qr, Qs, Qt, Qu, Qv, Qw, Qx, Qy, ptrTo, Qz, QA, QB, QC, QD, QE, QF, QG, QH, QI, QJ, QK, QL, QM, QN, QO, QP, QQ, QR, QS, QT, QU, QV, QW, QX, QY, QZ, Ja, Jb, Jc, Jd, Je, Jf, Jg, Jh, Ji, Jj, Jk, Jl, Jm, Jn, Jo, Jp, Jq, Jr, Js, Jt, Nat.reduceAdd]
    repeat (rw [join_e]; try simp (disch := first | omega | with_unfolding_all exact id rfl | with_unfolding_all exact Nat.le_of_ble_eq_true rfl | (simp only [Jd, Je, Jr, Js, Jt, Nat.reduceAdd, allOne, oneCell, Bool.and_self, Jc]; first | done | omega)) only [decide_eq_true h1, ↓Qa, ↓Qb, Qd, Qe, Qf, Qg, Qh, Qi, Qj, Qk, Ql, Qm, Qn, Qo, Qp, Qq, Qr, Qs, Qt, Qu, Qv, Qw, Qx, Qy, ptrTo, Qz, QA, QB, QC, QD, QE, QF, QG, QH, QI, QJ, QK, QL, QM, QN, QO, QP, QQ, QR, QS, QT, QU, QV, QW, QX, QY, QZ, Ja, Jb, Jc, Jd, Je, Jf, Jg, Jh, Ji, Jj, Jk, Jl, Jm, Jn, Jo, Jp, Jq, Jr, Js, Jt, Nat.reduceAdd])
    exact hk _
  · try simp (disch := first | omega | with_unfolding_all exact id rfl | with_unfolding_all exact Nat.le_of_ble_eq_true rfl | (simp only [Jd, Je, Jr, Js, Jt, Nat.reduceAdd, allOne, oneCell, Bool.and_self, Jc]; first | done | omega)) only [decide_eq_false h1, ↓Qa, ↓Qb, Qd, Qe, Qf, Qg, Qh, Qi, Qj, Qk, Ql, Qm, Qn, Qo, Qp, Qq, Qr, Qs, Qt, Qu, Qv, Qw, Qx, Qy, ptrTo, Qz, QA, QB, QC, QD, QE, QF, QG, QH, QI, QJ, QK, QL, QM, QN, QO, QP, QQ, QR, QS, QT, QU, QV, QW, QX, QY, QZ, Ja, Jb, Jc, Jd, Je, Jf, Jg, Jh, Ji, Jj, Jk, Jl, Jm, Jn, Jo, Jp, Jq, Jr, Js, Jt, Nat.reduceAdd]
    rw [join_e]
    try simp (disch := first | omega | with_unfolding_all exact id rfl | with_unfolding_all exact Nat.le_of_ble_eq_true rfl | (simp only [Jd, Je, Jr, Js, Jt, Nat.reduceAdd, allOne, oneCell, Bool.and_self, Jc]; first | done | omega)) only [↓Qa, ↓Qb, Qd, Qe, Qf, Qg, Qh, Qi, Qj, Qk, Ql, Qm, Qn, Qo, Qp, Qq, Qr, Qs, Qt, Qu, Qv, Qw, Qx, Qy, ptrTo, Qz, QA, QB, QC, QD, QE, QF, QG, QH, QI, QJ, QK, QL, QM, QN, QO, QP, QQ, QR, QS, QT, QU, QV, QW, QX, QY, QZ, Ja, Jb, Jc, Jd, Je, Jf, Jg, Jh, Ji, Jj, Jk, Jl, Jm, Jn, Jo, Jp, Jq, Jr, Js, Jt, Nat.reduceAdd]
    by_cases h2 : a < b
    · try simp (disch := first | omega | with_unfolding_all exact id rfl | with_unfolding_all exact Nat.le_of_ble_eq_true rfl | (simp only [Jd, Je, Jr, Js, Jt, Nat.reduceAdd, allOne, oneCell, Bool.and_self, Jc]; first | done | omega)) only [decide_eq_false h1, decide_eq_true h2, ↓Qa, ↓Qb, Qd, Qe, Qf, Qg, Qh, Qi, Qj, Qk, Ql, Qm, Qn, Qo, Qp, Qq, Qr, Qs, Qt, Qu, Qv, Qw, Qx, Qy, ptrTo, Qz, QA, QB, QC, QD, QE, QF, QG, QH, QI, QJ, QK, QL, QM, QN, QO, QP, QQ, QR, QS, QT, QU, QV, QW, QX, QY, QZ, Ja, Jb, Jc, Jd, Je, Jf, Jg, Jh, Ji, Jj, Jk, Jl, Jm, Jn, Jo, Jp, Jq, Jr, Js, Jt, Nat.reduceAdd]
      exact hk _
    · try simp (disch := first | omega | with_unfolding_all exact id rfl | with_unfolding_all exact Nat.le_of_ble_eq_true rfl | (simp only [Jd, Je, Jr, Js, Jt, Nat.reduceAdd, allOne, oneCell, Bool.and_self, Jc]; first | done | omega)) only [decide_eq_false h1, decide_eq_false h2, ↓Qa, ↓Qb, Qd, Qe, Qf, Qg, Qh, Qi, Qj, Qk, Ql, Qm, Qn, Qo, Qp, Qq, Qr, Qs, Qt, Qu, Qv, Qw, Qx, Qy, ptrTo, Qz, QA, QB, QC, QD, QE, QF, QG, QH, QI, QJ, QK, QL, QM, QN, QO, QP, QQ, QR, QS, QT, QU, QV, QW, QX, QY, QZ, Ja, Jb, Jc, Jd, Je, Jf, Jg, Jh, Ji, Jj, Jk, Jl, Jm, Jn, Jo, Jp, Jq, Jr, Js, Jt, Nat.reduceAdd]
      refine loop_up b.toNat (fun i vs m' => ∃ z, vs = [.int .i64 z, .int .i64 (i : Int)] ∧ m' = m) (by omega) ⟨1, rfl, rfl⟩ ?_
      rintro i vs m' hi ⟨z, rfl, rfl⟩ self hself
      try simp (disch := first | omega | with_unfolding_all exact id rfl | with_unfolding_all exact Nat.le_of_ble_eq_true rfl | (simp only [Jd, Je, Jr, Js, Jt, Nat.reduceAdd, allOne, oneCell, Bool.and_self, Jc]; first | done | omega)) only [↓Qa, ↓Qb, ↓Qc, Qd, Qe, Qf, Qg, Qh, Qi, Qj, Qk, Ql, Qm, Qn, Qo, Qp, Qq, Qr, Qs, Qt, Qu, Qv, Qw, Qx, Qy, ptrTo, Qz, QA, QB, QC, QD, QE, QF, QG, QH, QI, QJ, QK, QL, QM, QN, QO, QP, QQ, QR, QS, QT, QU, QV, QW, QX, QY, QZ, Ja, Jb, Jc, Jd, Je, Jf, Jg, Jh, Ji, Jj, Jk, Jl, Jm, Jn, Jo, Jp, Jq, Jr, Js, Jt, Nat.reduceAdd]
      refine oIf_dec (fun h => ?_) (fun h => ?_)
      · have f6 : ∀ K : Value → Option Unit, oInt .add .i64 (.int .i64 (i : Int)) (.int .i64 1) K = K (.int .i64 ((i + 1 : Nat) : Int)) := fun K => by rw [oInt_add ⟨by omega, by omega⟩]; rfl
        obtain ⟨y1, q1⟩ := any_sub a (i : Int)
        obtain ⟨y2, q2⟩ := any_mul z y1
        obtain ⟨y3, q3⟩ := any_quo y2 (b := ((i + 1 : Nat) : Int)) (by omega)
        rw [q1, q2, f6, q3, f6]
        exact hself (by omega) _ _ ⟨y3, rfl, rfl⟩
      · exact hk _
theorem sized_sp {N s : Int} (hk : k (.int .i64 (szE N s)) m = some ()) : runT (tab lf) (n + 2) 59 [.int .i64 N, .int .i64 s] L m k = some () := by
  rw [r59]; dsimp only [S59, iofNat, inegSucc]
  unfold szE at hk
  try simp (disch := first | omega | with_unfolding_all exact id rfl | with_unfolding_all exact Nat.le_of_ble_eq_true rfl | (simp only [Jd, Je, Jr, Js, Jt, Nat.reduceAdd, allOne, oneCell, Bool.and_self, Jc]; first | done | omega)) only [↓Qa, ↓Qb, Qd, Qe, Qf, Qg, Qh, Qi, Qj, Qk, Ql, Qm, Qn, Qo, Qp, Qq, Qr, Qs, Qt, Qu, Qv, Qw, Qx, Qy, ptrTo, Qz, QA, QB, QC, QD, QE, QF, QG, QH, QI, QJ, QK, QL, QM, QN, QO, QP, QQ, QR, QS, QT, QU, QV, QW, QX, QY, QZ, Ja, Jb, Jc, Jd, Je, Jf, Jg, Jh, Ji, Jj, Jk, Jl, Jm, Jn, Jo, Jp, Jq, Jr, Js, Jt, Nat.reduceAdd]
  refine within_sp _ _ _ ?_
  by_cases h1 : 1 ≤ N ∧ N ≤ 10
  · try simp (disch := first | omega | with_unfolding_all exact id rfl | with_unfolding_all exact Nat.le_of_ble_eq_true rfl | (simp only [Jd, Je, Jr, Js, Jt, Nat.reduceAdd, allOne, oneCell, Bool.and_self, Jc]; first | done | omega)) only [decide_eq_true h1, ↓Qa, ↓Qb, Qd, Qe, Qf, Qg, Qh, Qi, Qj, Qk, Ql, Qm, Qn, Qo, Qp, Qq, Qr, Qs, Qt, Qu, Qv, Qw, Qx, Qy, ptrTo, Qz, QA, QB, QC, QD, QE, QF, QG, QH, QI, QJ, QK, QL, QM, QN, QO, QP, QQ, QR, QS, QT, QU, QV, QW, QX, QY, QZ, Ja, Jb, Jc, Jd, Je, Jf, Jg, Jh, Ji, Jj, Jk, Jl, Jm, Jn, Jo, Jp, Jq, Jr, Js, Jt, Nat.reduceAdd]
    repeat (rw [join_e]; try simp (disch := first | omega | with_unfolding_all exact id rfl | with_unfolding_all exact Nat.le_of_ble_eq_true rfl | (simp only [Jd, Je, Jr, Js, Jt, Nat.reduceAdd, allOne, oneCell, Bool.and_self, Jc]; first | done | omega)) only [decide_eq_true h1, ↓Qa, ↓Qb, Qd, Qe, Qf, Qg, Qh, Qi, Qj, Qk, Ql, Qm, Qn, Qo, Qp, Qq, Qr, Qs, Qt, Qu, Qv, Qw, Qx, Qy, ptrTo, Qz, QA, QB, QC, QD, QE, QF, QG, QH, QI, QJ, QK, QL, QM, QN, QO, QP, QQ, QR, QS, QT, QU, QV, QW, QX, QY, QZ, Ja, Jb, Jc, Jd, Je, Jf, Jg, Jh, Ji, Jj, Jk, Jl, Jm, Jn, Jo, Jp, Jq, Jr, Js, Jt, Nat.reduceAdd])
    refine within_sp _ _ _ ?_
    by_cases h2 : 0 ≤ s ∧ s ≤ N
    · rw [if_pos ⟨h1, h2⟩] at hk
      try simp (disch := first | omega | with_unfolding_all exact id rfl | with_unfolding_all exact Nat.le_of_ble_eq_true rfl | (simp only [Jd, Je, Jr, Js, Jt, Nat.reduceAdd, allOne, oneCell, Bool.and_self, Jc]; first | done | omega)) only [decide_eq_true h1, decide_eq_true h2, ↓Qa, ↓Qb, Qd, Qe, Qf, Qg, Qh, Qi, Qj, Qk, Ql, Qm, Qn, Qo, Qp, Qq, Qr, Qs, Qt, Qu, Qv, Qw, Qx, Qy, ptrTo, Qz, QA, QB, QC, QD, QE, QF, QG, QH, QI, QJ, QK, QL, QM, QN, QO, QP, QQ, QR, QS, QT, QU, QV, QW, QX, QY, QZ, Ja, Jb, Jc, Jd, Je, Jf, Jg, Jh, Ji, Jj, Jk, Jl, Jm, Jn, Jo, Jp, Jq, Jr, Js, Jt, Nat.reduceAdd]
      repeat (rw [join_e]; try simp (disch := first | omega | with_unfolding_all exact id rfl | with_unfolding_all exact Nat.le_of_ble_eq_true rfl | (simp only [Jd, Je, Jr, Js, Jt, Nat.reduceAdd, allOne, oneCell, Bool.and_self, Jc]; first | done | omega)) only [decide_eq_true h1, decide_eq_true h2, ↓Qa, ↓Qb, Qd, Qe, Qf, Qg, Qh, Qi, Qj, Qk, Ql, Qm, Qn, Qo, Qp, Qq, Qr, Qs, Qt, Qu, Qv, Qw, Qx, Qy, ptrTo, Qz, QA, QB, QC, QD, QE, QF, QG, QH, QI, QJ, QK, QL, QM, QN, QO, QP, QQ, QR, QS, QT, QU, QV, QW, QX, QY, QZ, Ja, Jb, Jc, Jd, Je, Jf, Jg, Jh, Ji, Jj, Jk, Jl, Jm, Jn, Jo, Jp, Jq, Jr, Js, Jt, Nat.reduceAdd])
      exact hk
    · rw [if_neg (fun h => h2 h.2)] at hk
      try simp (disch := first | omega | with_unfolding_all exact id rfl | with_unfolding_all exact Nat.le_of_ble_eq_true rfl | (simp only [Jd, Je, Jr, Js, Jt, Nat.reduceAdd, allOne, oneCell, Bool.and_self, Jc]; first | done | omega)) only [decide_eq_true h1, decide_eq_false h2, ↓Qa, ↓Qb, Qd, Qe, Qf, Qg, Qh, Qi, Qj, Qk, Ql, Qm, Qn, Qo, Qp, Qq, Qr, Qs, Qt, Qu, Qv, Qw, Qx, Qy, ptrTo, Qz, QA, QB, QC, QD, QE, QF, QG, QH, QI, QJ, QK, QL, QM, QN, QO, QP, QQ, QR, QS, QT, QU, QV, QW, QX, QY, QZ, Ja, Jb, Jc, Jd, Je, Jf, Jg, Jh, Ji, Jj, Jk, Jl, Jm, Jn, Jo, Jp, Jq, Jr, Js, Jt, Nat.reduceAdd]
      repeat (rw [join_e]; try simp (disch := first | omega | with_unfolding_all exact id rfl | with_unfolding_all exact Nat.le_of_ble_eq_true rfl | (simp only [Jd, Je, Jr, Js, Jt, Nat.reduceAdd, allOne, oneCell, Bool.and_self, Jc]; first | done | omega)) only [decide_eq_true h1, decide_eq_false h2, ↓Qa, ↓Qb, Qd, Qe, Qf, Qg, Qh, Qi, Qj, Qk, Ql, Qm, Qn, Qo, Qp, Qq, Qr, Qs, Qt, Qu, Qv, Qw, Qx, Qy, ptrTo, Qz, QA, QB, QC, QD, QE, QF, QG, QH, QI, QJ, QK, QL, QM, QN, QO, QP, QQ, QR, QS, QT, QU, QV, QW, QX, QY, QZ, Ja, Jb, Jc, Jd, Je, Jf, Jg, Jh, Ji, Jj, Jk, Jl, Jm, Jn, Jo, Jp, Jq, Jr, Js, Jt, Nat.reduceAdd])
      exact hk
  · rw [if_neg (fun h => h1 h.1)] at hk
    try simp (disch := first | omega | with_unfolding_all exact id rfl | with_unfolding_all exact Nat.le_of_ble_eq_true rfl | (simp only [Jd, Je, Jr, Js, Jt, Nat.reduceAdd, allOne, oneCell, Bool.and_self, Jc]; first | done | omega)) only [decide_eq_false h1, ↓Qa, ↓Qb, Qd, Qe, Qf, Qg, Qh, Qi, Qj, Qk, Ql, Qm, Qn, Qo, Qp, Qq, Qr, Qs, Qt, Qu, Qv, Qw, Qx, Qy, ptrTo, Qz, QA, QB, QC, QD, QE, QF, QG, QH, QI, QJ, QK, QL, QM, QN, QO, QP, QQ, QR, QS, QT, QU, QV, QW, QX, QY, QZ, Ja, Jb, Jc, Jd, Je, Jf, Jg, Jh, Ji, Jj, Jk, Jl, Jm, Jn, Jo, Jp, Jq, Jr, Js, Jt, Nat.reduceAdd]
    repeat (rw [join_e]; try simp (disch := first | omega | with_unfolding_all exact id rfl | with_unfolding_all exact Nat.le_of_ble_eq_true rfl | (simp only [Jd, Je, Jr, Js, Jt, Nat.reduceAdd, allOne, oneCell, Bool.and_self, Jc]; first | done | omega)) only [decide_eq_false h1, ↓Qa, ↓Qb, Qd, Qe, Qf, Qg, Qh, Qi, Qj, Qk, Ql, Qm, Qn, Qo, Qp, Qq, Qr, Qs, Qt, Qu, Qv, Qw, Qx, Qy, ptrTo, Qz, QA, QB, QC, QD, QE, QF, QG, QH, QI, QJ, QK, QL, QM, QN, QO, QP, QQ, QR, QS, QT, QU, QV, QW, QX, QY, QZ, Ja, Jb, Jc, Jd, Je, Jf, Jg, Jh, Ji, Jj, Jk, Jl, Jm, Jn, Jo, Jp, Jq, Jr, Js, Jt, Nat.reduceAdd])
    exact hk
theorem sized61_sp {N s : Int} (hk : k (.int .i64 (szE N s)) m = some ()) : runT (tab lf) (n + 2) 61 [.int .i64 N, .int .i64 s] L m k = some () := by
  rw [r61]; dsimp only [S61, iofNat, inegSucc]
  unfold szE at hk
  try simp (disch := first | omega | with_unfolding_all exact id rfl | with_unfolding_all exact Nat.le_of_ble_eq_true rfl | (simp only [Jd, Je, Jr, Js, Jt, Nat.reduceAdd, allOne, oneCell, Bool.and_self, Jc]; first | done | omega)) only [↓Qa, ↓Qb, Qd, Qe, Qf, Qg, Qh, Qi, Qj, Qk, Ql, Qm, Qn, Qo, Qp, Qq, Qr, Qs, Qt, Qu, Qv, Qw, Qx, Qy, ptrTo, Qz, QA, QB, QC, QD, QE, QF, QG, QH, QI, QJ, QK, QL, QM, QN, QO, QP, QQ, QR, QS, QT, QU, QV, QW, QX, QY, QZ, Ja, Jb, Jc, Jd, Je, Jf, Jg, Jh, Ji, Jj, Jk, Jl, Jm, Jn, Jo, Jp, Jq, Jr, Js, Jt, Nat.reduceAdd]
  refine in_sp _ _ _ ?_
  by_cases h1 : 1 ≤ N ∧ N ≤ 10
  · try simp (disch := first | omega | with_unfolding_all exact id rfl | with_unfolding_all exact Nat.le_of_ble_eq_true rfl | (simp only [Jd, Je, Jr, Js, Jt, Nat.reduceAdd, allOne, oneCell, Bool.and_self, Jc]; first | done | omega)) only [decide_eq_true h1, ↓Qa, ↓Qb, Qd, Qe, Qf, Qg, Qh, Qi, Qj, Qk, Ql, Qm, Qn, Qo, Qp, Qq, Qr, Qs, Qt, Qu, Qv, Qw, Qx, Qy, ptrTo, Qz, QA, QB, QC, QD, QE, QF, QG, QH, QI, QJ, QK, QL, QM, QN, QO, QP, QQ, QR, QS, QT, QU, QV, QW, QX, QY, QZ, Ja, Jb, Jc, Jd, Je, Jf, Jg, Jh, Ji, Jj, Jk, Jl, Jm, Jn, Jo, Jp, Jq, Jr, Js, Jt, Nat.reduceAdd]
    repeat (rw [join_e]; try simp (disch := first | omega | with_unfolding_all exact id rfl | with_unfolding_all exact Nat.le_of_ble_eq_true rfl | (simp only [Jd, Je, Jr, Js, Jt, Nat.reduceAdd, allOne, oneCell, Bool.and_self, Jc]; first | done | omega)) only [decide_eq_true h1, ↓Qa, ↓Qb, Qd, Qe, Qf, Qg, Qh, Qi, Qj, Qk, Ql, Qm, Qn, Qo, Qp, Qq, Qr, Qs, Qt, Qu, Qv, Qw, Qx, Qy, ptrTo, Qz, QA, QB, QC, QD, QE, QF, QG, QH, QI, QJ, QK, QL, QM, QN, QO, QP, QQ, QR, QS, QT, QU, QV, QW, QX, QY, QZ, Ja, Jb, Jc, Jd, Je, Jf, Jg, Jh, Ji, Jj, Jk, Jl, Jm, Jn, Jo, Jp, Jq, Jr, Js, Jt, Nat.reduceAdd])
    refine in_sp _ _ _ ?_
    by_cases h2 : 0 ≤ s ∧ s ≤ N
    · rw [if_pos ⟨h1, h2⟩] at hk
      try simp (disch := first | omega | with_unfolding_all exact id rfl | with_unfolding_all exact Nat.le_of_ble_eq_true rfl | (simp only [Jd, Je, Jr, Js, Jt, Nat.reduceAdd, allOne, oneCell, Bool.and_self, Jc]; first | done | omega)) only [decide_eq_true h1, decide_eq_true h2, ↓Qa, ↓Qb, Qd, Qe, Qf, Qg, Qh, Qi, Qj, Qk, Ql, Qm, Qn, Qo, Qp, Qq, Qr, Qs, Qt, Qu, Qv, Qw, Qx, Qy, ptrTo, Qz, QA, QB, QC, QD, QE, QF, QG, QH, QI, QJ, QK, QL, QM, QN, QO, QP, QQ, QR, QS, QT, QU, QV, QW, QX, QY, QZ, Ja, Jb, Jc, Jd, Je, Jf, Jg, Jh, Ji, Jj, Jk, Jl, Jm, Jn, Jo, Jp, Jq, Jr, Js, Jt, Nat.reduceAdd]
      repeat (rw [join_e]; try simp (disch := first | omega | with_unfolding_all exact id rfl | with_unfolding_all exact Nat.le_of_ble_eq_true rfl | (simp only [Jd, Je, Jr, Js, Jt, Nat.reduceAdd, allOne, oneCell, Bool.and_self, Jc]; first | done | omega)) only [decide_eq_true h1, decide_eq_true h2, ↓Qa, ↓Qb, Qd, Qe, Qf, Qg, Qh, Qi, Qj, Qk, Ql, Qm, Qn, Qo, Qp, Qq, Qr, Qs, Qt, Qu, Qv, Qw, Qx, Qy, ptrTo, Qz, QA, QB, QC, QD, QE, QF, QG, QH, QI, QJ, QK, QL, QM, QN, QO, QP, QQ, QR, QS, QT, QU, QV, QW, QX, QY, QZ, Ja, Jb, Jc, Jd, Je, Jf, Jg, Jh, Ji, Jj, Jk, Jl, Jm, Jn, Jo, Jp, Jq, Jr, Js, Jt, Nat.reduceAdd])
      exact hk
    · rw [if_neg (fun h => h2 h.2)] at hk
      try simp (disch := first | omega | with_unfolding_all exact id rfl | with_unfolding_all exact Nat.le_of_ble_eq_true rfl | (simp only [Jd, Je, Jr, Js, Jt, Nat.reduceAdd, allOne, oneCell, Bool.and_self, Jc]; first | done | omega)) only [decide_eq_true h1, decide_eq_false h2, ↓Qa, ↓Qb, Qd, Qe, Qf, Qg, Qh, Qi, Qj, Qk, Ql, Qm, Qn, Qo, Qp, Qq, Qr, Qs, Qt, Qu, Qv, Qw, Qx, Qy, ptrTo, Qz, QA, QB, QC, QD, QE, QF, QG, QH, QI, QJ, QK, QL, QM, QN, QO, QP, QQ, QR, QS, QT, QU, QV, QW, QX, QY, QZ, Ja, Jb, Jc, Jd, Je, Jf, Jg, Jh, Ji, Jj, Jk, Jl, Jm, Jn, Jo, Jp, Jq, Jr, Js, Jt, Nat.reduceAdd]
      repeat (rw [join_e]; try simp (disch := first | omega | with_unfolding_all exact id rfl | with_unfolding_all exact Nat.le_of_ble_eq_true rfl | (simp only [Jd, Je, Jr, Js, Jt, Nat.reduceAdd, allOne, oneCell, Bool.and_self, Jc]; first | done | omega)) only [decide_eq_true h1, decide_eq_false h2, ↓Qa, ↓Qb, Qd, Qe, Qf, Qg, Qh, Qi, Qj, Qk, Ql, Qm, Qn, Qo, Qp, Qq, Qr, Qs, Qt, Qu, Qv, Qw, Qx, Qy, ptrTo, Qz, QA, QB, QC, QD, QE, QF, QG, QH, QI, QJ, QK, QL, QM, QN, QO, QP, QQ, QR, QS, QT, QU, QV, QW, QX, QY, QZ, Ja, Jb, Jc, Jd, Je, Jf, Jg, Jh, Ji, Jj, Jk, Jl, Jm, Jn, Jo, Jp, Jq, Jr, Js, Jt, Nat.reduceAdd])
      exact hk
  · rw [if_neg (fun h => h1 h.1)] at hk
    try simp (disch := first | omega | with_unfolding_all exact id rfl | with_unfolding_all exact Nat.le_of_ble_eq_true rfl | (simp only [Jd, Je, Jr, Js, Jt, Nat.reduceAdd, allOne, oneCell, Bool.and_self, Jc]; first | done | omega)) only [decide_eq_false h1, ↓Qa, ↓Qb, Qd, Qe, Qf, Qg, Qh, Qi, Qj, Qk, Ql, Qm, Qn, Qo, Qp, Qq, Qr, Qs, Qt, Qu, Qv, Qw, Qx, Qy, ptrTo, Qz, QA, QB, QC, QD, QE, QF, QG, QH, QI, QJ, QK, QL, QM, QN, QO, QP, QQ, QR, QS, QT, QU, QV, QW, QX, QY, QZ, Ja, Jb, Jc, Jd, Je, Jf, Jg, Jh, Ji, Jj, Jk, Jl, Jm, Jn, Jo, Jp, Jq, Jr, Js, Jt, Nat.reduceAdd]
    repeat (rw [join_e]; try simp (disch := first | omega | with_unfolding_all exact id rfl | with_unfolding_all exact Nat.le_of_ble_eq_true rfl | (simp only [Jd, Je, Jr, Js, Jt, Nat.reduceAdd, allOne, oneCell, Bool.and_self, Jc]; first | done | omega)) only [decide_eq_false h1, ↓Qa, ↓Qb, Qd, Qe, Qf, Qg, Qh, Qi, Qj, Qk, Ql, Qm, Qn, Qo, Qp, Qq, Qr, Qs, Qt, Qu, Qv, Qw, Qx, Qy, ptrTo, Qz, QA, QB, QC, QD, QE, QF, QG, QH, QI, QJ, QK, QL, QM, QN, QO, QP, QQ, QR, QS, QT, QU, QV, QW, QX, QY, QZ, Ja, Jb, Jc, Jd, Je, Jf, Jg, Jh, Ji, Jj, Jk, Jl, Jm, Jn, Jo, Jp, Jq, Jr, Js, Jt, Nat.reduceAdd])
    exact hk
theorem number_sp (hlf : 1000000 ≤ lf) : ∀ (kk : Nat) {n : Nat} {v : Value} {l : List Nat} {k : Value → Mem → Option Unit}, kk ≤ 10 → IN m v l → Opn v → l.length = kk → (∀ x ∈ l, x < 10) → k (.int .i64 (numK l kk)) m = some () → runT (tab lf) (n + kk + 2) 63 [v] L m k = some () := by
  intro kk
  induction kk with
  | zero =>
    intro n v l k h10 hv ho hl hx hk
    rw [r63]; dsimp only [S63, iofNat, inegSucc]
    have d0 : decide ((l.length : Int) = 0) = true := decide_eq_true (by omega)
    try simp (disch := first | omega | with_unfolding_all exact id rfl | with_unfolding_all exact Nat.le_of_ble_eq_true rfl | (simp only [Jd, Je, Jr, Js, Jt, Nat.reduceAdd, allOne, oneCell, Bool.and_self, Jc]; first | done | omega)) only [hv.ln, d0, ↓Qa, ↓Qb, ↓Qc, Qd, Qe, Qf, Qg, Qh, Qi, Qj, Qk, Ql, Qm, Qn, Qo, Qp, Qq, Qr, Qs, Qt, Qu, Qv, Qw, Qx, Qy, ptrTo, Qz, QA, QB, QC, QD, QE, QF, QG, QH, QI, QJ, QK, QL, QM, QN, QO, QP, QQ, QR, QS, QT, QU, QV, QW, QX, QY, QZ, Ja, Jb, Jc, Jd, Je, Jf, Jg, Jh, Ji, Jj, Jk, Jl, Jm, Jn, Jo, Jp, Jq, Jr, Js, Jt, Nat.reduceAdd]
    exact hk
  | succ kk ih =>
    intro n v l k h10 hv ho hl hx hk
    rw [show n + (kk + 1) + 2 = (n + kk + 2) + 1 by omega, r63]; dsimp only [S63, iofNat, inegSucc]
    have d0 : decide ((l.length : Int) = 0) = false := decide_eq_false (by omega)
    have hkl : kk < l.length := by omega
    have s1 : ∀ K : Value → Option Unit, oInt .sub .i64 (.int .i64 (l.length : Int)) (.int .i64 1) K = K (.int .i64 (kk : Int)) := fun K => by
      rw [oInt_sub ⟨by omega, by omega⟩, show (l.length : Int) - 1 = (kk : Int) by omega]
    have hxk := hx _ (List.getElem_mem hkl)
    have f6 : ∀ K : Value → Option Unit, oInt .add .i64 (.int .i64 (l[kk] : Int)) (.int .i64 1) K = K (.int .i64 ((l[kk] + 1 : Nat) : Int)) := fun K => by rw [oInt_add ⟨by omega, by omega⟩]; rfl
    try simp (disch := first | omega | with_unfolding_all exact id rfl | with_unfolding_all exact Nat.le_of_ble_eq_true rfl | (simp only [Jd, Je, Jr, Js, Jt, Nat.reduceAdd, allOne, oneCell, Bool.and_self, Jc]; first | done | omega)) only [hv.ln, d0, s1, hv.ia hkl, hv.ld hkl, f6, ↓Qa, ↓Qb, ↓Qc, Qd, Qe, Qf, Qg, Qh, Qi, Qj, Qk, Ql, Qm, Qn, Qo, Qp, Qq, Qr, Qs, Qt, Qu, Qv, Qw, Qx, Qy, ptrTo, Qz, QA, QB, QC, QD, QE, QF, QG, QH, QI, QJ, QK, QL, QM, QN, QO, QP, QQ, QR, QS, QT, QU, QV, QW, QX, QY, QZ, Ja, Jb, Jc, Jd, Je, Jf, Jg, Jh, Ji, Jj, Jk, Jl, Jm, Jn, Jo, Jp, Jq, Jr, Js, Jt, Nat.reduceAdd]
    refine choose_sp hlf (by omega) (by omega) ?_
    have hc := chs_le (n := l[kk] + 1) (k := l.length) (by omega)
    have hb := numK_bd l hx kk
    rw [oInt_sub ⟨by omega, by omega⟩]
    obtain ⟨u, u1, u2, u3⟩ := ho.pre u22 ts3 hv (k := kk) (by omega) (by omega)
    try simp (disch := first | omega | with_unfolding_all exact id rfl | with_unfolding_all exact Nat.le_of_ble_eq_true rfl | (simp only [Jd, Je, Jr, Js, Jt, Nat.reduceAdd, allOne, oneCell, Bool.and_self, Jc]; first | done | omega)) only [s1, u1, ↓Qa, ↓Qb, ↓Qc, Qd, Qe, Qf, Qg, Qh, Qi, Qj, Qk, Ql, Qm, Qn, Qo, Qp, Qq, Qr, Qs, Qt, Qu, Qv, Qw, Qx, Qy, ptrTo, Qz, QA, QB, QC, QD, QE, QF, QG, QH, QI, QJ, QK, QL, QM, QN, QO, QP, QQ, QR, QS, QT, QU, QV, QW, QX, QY, QZ, Ja, Jb, Jc, Jd, Je, Jf, Jg, Jh, Ji, Jj, Jk, Jl, Jm, Jn, Jo, Jp, Jq, Jr, Js, Jt, Nat.reduceAdd]
    refine ih (by omega) u3 u2 (by rw [List.length_take]; omega) (fun x hx' => hx x (List.mem_of_mem_take hx')) ?_
    rw [numK_take _ _ _ (Nat.le_refl _), oInt_sub ⟨by omega, by omega⟩]
    have : numK l (kk + 1) = (chs (l[kk] + 1) l.length : Int) - 1 - numK l kk := by
      rw [hl, numK_succ, List.getD_eq_getElem?_getD, List.getElem?_eq_getElem hkl]; rfl
    rw [this] at hk
    exact hk
theorem nth_sp {N s i : Nat} (hlf : 1000000 ≤ lf) (hL : L ≤ m.next) (hN : N ≤ 10) (hs : s ≤ N) (hi : i < chs N s) (hk : ∀ u m', Gt m m' → IN m' u (nthK s i) → (∀ c, bid u = some c → m.next ≤ c ∧ c < m'.next) → Opn u → k u m' = some ()) :
    runT (tab lf) (n + 2) 66 [.int .i64 (s : Int), .int .i64 (i : Int)] L m k = some () := by
  rw [r66]; dsimp only [S66, iofNat, inegSucc]
  have mk := make22 m (a := s) (by omega)
  try simp (disch := first | omega | with_unfolding_all exact id rfl | with_unfolding_all exact Nat.le_of_ble_eq_true rfl | (simp only [Jd, Je, Jr, Js, Jt, Nat.reduceAdd, allOne, oneCell, Bool.and_self, Jc]; first | done | omega)) only [mk, ↓Qa, ↓Qb, ↓Qc, Qd, Qe, Qf, Qg, Qh, Qi, Qj, Qk, Ql, Qm, Qn, Qo, Qp, Qq, Qr, Qs, Qt, Qu, Qv, Qw, Qx, Qy, ptrTo, Qz, QA, QB, QC, QD, QE, QF, QG, QH, QI, QJ, QK, QL, QM, QN, QO, QP, QQ, QR, QS, QT, QU, QV, QW, QX, QY, QZ, Ja, Jb, Jc, Jd, Je, Jf, Jg, Jh, Ji, Jj, Jk, Jl, Jm, Jn, Jo, Jp, Jq, Jr, Js, Jt, Nat.reduceAdd]
  have g1 := Mem.gt_push m ⟨1, azrow [.int .i64 0] s, none⟩
  have p1 : (m.push ⟨1, azrow [.int .i64 0] s, none⟩).rd m.next = some ⟨1, azrow [.int .i64 0] s, none⟩ := Mem.rd_push _ _
  have n1 : (m.push ⟨1, azrow [.int .i64 0] s, none⟩).next = m.next + 1 := Mem.push_next _ _
  generalize m.push ⟨1, azrow [.int .i64 0] s, none⟩ = m1 at g1 p1 n1 ⊢
  have hlen0 : (azrow [.int .i64 0] s).length = s := by rw [azrow_len]; simp
  have hci := chs_le (n := N) (k := s) (by omega)
  refine loop_up s (fun j vs m' => ∃ (r : Nat) (cs : List Value) (tl : List Nat), vs = [.int .i64 (r : Int), .int .i64 ((s - j : Nat) : Int)] ∧ Gt m m' ∧ m'.next = m1.next ∧ m'.rd m.next = some ⟨1, cs, none⟩ ∧ cs.length = s ∧ cs.drop (s - j) = (ci tl).map (Value.int .i64) ∧ nthK s i = nthK (s - j) r ++ tl ∧ ∃ N', N' ≤ 10 ∧ s - j ≤ N' ∧ r < chs N' (s - j)) (by omega)
    ⟨i, _, [], by rw [Nat.sub_zero], g1, rfl, p1, hlen0, by rw [Nat.sub_zero, List.drop_eq_nil_of_le (by omega)]; rfl, by rw [Nat.sub_zero, List.append_nil], N, hN, by omega, by rw [Nat.sub_zero]; exact hi⟩ ?_
  rintro j vs m5 hj ⟨r, cs, tl, rfl, e5, n5, p5, hcl, hcd, hnt, N', hN', hsN', hr⟩ self hself
  have hlt5 := Mem.rd_lt p5
  try simp (disch := first | omega | with_unfolding_all exact id rfl | with_unfolding_all exact Nat.le_of_ble_eq_true rfl | (simp only [Jd, Je, Jr, Js, Jt, Nat.reduceAdd, allOne, oneCell, Bool.and_self, Jc]; first | done | omega)) only [↓Qa, ↓Qb, ↓Qc, Qd, Qe, Qf, Qg, Qh, Qi, Qj, Qk, Ql, Qm, Qn, Qo, Qp, Qq, Qr, Qs, Qt, Qu, Qv, Qw, Qx, Qy, ptrTo, Qz, QA, QB, QC, QD, QE, QF, QG, QH, QI, QJ, QK, QL, QM, QN, QO, QP, QQ, QR, QS, QT, QU, QV, QW, QX, QY, QZ, Ja, Jb, Jc, Jd, Je, Jf, Jg, Jh, Ji, Jj, Jk, Jl, Jm, Jn, Jo, Jp, Jq, Jr, Js, Jt, Nat.reduceAdd]
  refine oIf_dec (fun h => ?_) (fun h => ?_)
  · obtain ⟨q, hq⟩ : ∃ q, s - j = q + 1 := ⟨s - j - 1, by omega⟩
    rw [hq] at hr hnt hsN' hcd ⊢
    obtain ⟨t1, t2, t3, t4⟩ := topL_ok hN' hsN' hr
    have t5 := topL_rest hN' hsN' hr
    have hcr := chs_le (n := N') (k := q + 1) (by omega)
    have hct := chs_le (n := topL q r + 1) (k := q + 1) (by omega)
    have hnk : nthK (q + 1) r = nthK q (chs (topL q r + 1) (q + 1) - 1 - r) ++ [topL q r] := rfl
    have s1 : ∀ K : Value → Option Unit, oInt .sub .i64 (.int .i64 ((q + 1 : Nat) : Int)) (.int .i64 1) K = K (.int .i64 (q : Int)) := fun K => by
      rw [oInt_sub ⟨by omega, by omega⟩, show ((q + 1 : Nat) : Int) - 1 = (q : Int) by omega]
    rw [s1]
    generalize topL q r = T at t1 t2 t3 t4 t5 hct hnk
    refine loop_up (T - q) (fun x vs m' => vs = [.int .i64 ((q + x : Nat) : Int)] ∧ m' = m5) (by omega) ⟨rfl, rfl⟩ ?_
    rintro x vs m6 hx ⟨rfl, rfl⟩ self2 hself2
    have f6 : ∀ K : Value → Option Unit, oInt .add .i64 (.int .i64 ((q + x : Nat) : Int)) (.int .i64 1) K = K (.int .i64 ((q + x + 1 : Nat) : Int)) := fun K => by rw [oInt_add ⟨by omega, by omega⟩]; rfl
    try simp (disch := first | omega | with_unfolding_all exact id rfl | with_unfolding_all exact Nat.le_of_ble_eq_true rfl | (simp only [Jd, Je, Jr, Js, Jt, Nat.reduceAdd, allOne, oneCell, Bool.and_self, Jc]; first | done | omega)) only [f6, ↓Qa, ↓Qb, ↓Qc, Qd, Qe, Qf, Qg, Qh, Qi, Qj, Qk, Ql, Qm, Qn, Qo, Qp, Qq, Qr, Qs, Qt, Qu, Qv, Qw, Qx, Qy, ptrTo, Qz, QA, QB, QC, QD, QE, QF, QG, QH, QI, QJ, QK, QL, QM, QN, QO, QP, QQ, QR, QS, QT, QU, QV, QW, QX, QY, QZ, Ja, Jb, Jc, Jd, Je, Jf, Jg, Jh, Ji, Jj, Jk, Jl, Jm, Jn, Jo, Jp, Jq, Jr, Js, Jt, Nat.reduceAdd]
    refine choose_sp hlf (by omega) (by omega) ?_
    by_cases hxT : x = T - q
    · have hxe : q + x = T := by omega
      have d1 : decide ((chs (q + x + 1) (q + 1) : Int) ≤ (r : Int)) = false := by rw [hxe]; exact decide_eq_false (by omega)
      have hia : ia 1 (.slice (some ⟨m.next, 0, none⟩) s s) (.int .i64 (q : Int)) = some (.pointer (some ⟨m.next, 0 + q * 1, none⟩)) := ia_e (by omega)
      have hst := st_int (L := L) (x := ((q + x : Nat) : Int)) p5 (q := q) (by omega) hL
      rw [st1_u] at hst
      have hst' : stw 1 L m6 m.next (q * 1) [.int .i64 ((q + x : Nat) : Int)] (m6.rd m.next) = some (Go.undef, m6.put m.next (some ⟨1, cs.set q (.int .i64 ((q + x : Nat) : Int)), none⟩)) := by rw [Nat.mul_one]; exact hst
      try simp (disch := first | omega | with_unfolding_all exact id rfl | with_unfolding_all exact Nat.le_of_ble_eq_true rfl | (simp only [Jd, Je, Jr, Js, Jt, Nat.reduceAdd, allOne, oneCell, Bool.and_self, Jc]; first | done | omega)) only [d1, s1, hia, hst', f6, ↓Qa, ↓Qb, ↓Qc, Qd, Qe, Qf, Qg, Qh, Qi, Qj, Qk, Ql, Qm, Qn, Qo, Qp, Qq, Qr, Qs, Qt, Qu, Qv, Qw, Qx, Qy, ptrTo, Qz, QA, QB, QC, QD, QE, QF, QG, QH, QI, QJ, QK, QL, QM, QN, QO, QP, QQ, QR, QS, QT, QU, QV, QW, QX, QY, QZ, Ja, Jb, Jc, Jd, Je, Jf, Jg, Jh, Ji, Jj, Jk, Jl, Jm, Jn, Jo, Jp, Jq, Jr, Js, Jt, Nat.reduceAdd]
      refine choose_sp hlf (by omega) (by omega) ?_
      rw [hxe, oInt_sub ⟨by omega, by omega⟩, oInt_sub ⟨by omega, by omega⟩, show (chs (T + 1) (q + 1) : Int) - 1 - (r : Int) = ((chs (T + 1) (q + 1) - 1 - r : Nat) : Int) by omega]
      refine hself (by omega) _ _ ⟨_, cs.set q (.int .i64 (T : Int)), T :: tl, by rw [show s - (j + 1) = q by omega], Mem.put_gt e5 _ (Nat.le_refl _), n5, Mem.rd_put_eq _ _ hlt5, by rw [List.length_set]; exact hcl, ?_, ?_, T, by omega, by omega, by rw [show s - (j + 1) = q by omega]; exact t5⟩
      · rw [show s - (j + 1) = q by omega, List.drop_eq_getElem_cons (by rw [List.length_set]; omega), List.getElem_set_self, List.drop_set_of_lt (by omega), hcd]
        rfl
      · rw [show s - (j + 1) = q by omega, hnt, hnk, List.append_assoc]; rfl
    · have d1 : decide ((chs (q + x + 1) (q + 1) : Int) ≤ (r : Int)) = true := decide_eq_true (by have := t4 (q + x) (by omega) (by omega); omega)
      try simp (disch := first | omega | with_unfolding_all exact id rfl | with_unfolding_all exact Nat.le_of_ble_eq_true rfl | (simp only [Jd, Je, Jr, Js, Jt, Nat.reduceAdd, allOne, oneCell, Bool.and_self, Jc]; first | done | omega)) only [d1, f6, ↓Qa, ↓Qb, ↓Qc, Qd, Qe, Qf, Qg, Qh, Qi, Qj, Qk, Ql, Qm, Qn, Qo, Qp, Qq, Qr, Qs, Qt, Qu, Qv, Qw, Qx, Qy, ptrTo, Qz, QA, QB, QC, QD, QE, QF, QG, QH, QI, QJ, QK, QL, QM, QN, QO, QP, QQ, QR, QS, QT, QU, QV, QW, QX, QY, QZ, Ja, Jb, Jc, Jd, Je, Jf, Jg, Jh, Ji, Jj, Jk, Jl, Jm, Jn, Jo, Jp, Jq, Jr, Js, Jt, Nat.reduceAdd]
      exact hself2 (by omega) _ _ ⟨rfl, rfl⟩
  · have hjs : s - j = 0 := by omega
    rw [hjs] at hnt hcd
    rw [List.drop_zero] at hcd
    have hnt : nthK s i = tl := hnt
    rw [hcd] at p5 hcl
    rw [List.length_map, ci_length] at hcl
    rw [← hnt] at p5 hcl
    exact hk _ _ e5 (in_full p5 hcl) (fun c hc => by cases hc; omega) (.inr ⟨_, _, _, _, _, rfl, Nat.le_refl _, .inl rfl⟩)
end
end Go.Vit

