/- Walks: slices.Delete, chosen leaves, the other leaves. -/
import Derived.Test.YtgimcgdehgbljaaP1
set_option linter.unusedSimpArgs false
set_option linter.unusedVariables false
set_option maxRecDepth 20000
namespace Go.Vit
open Go Go.Proofs
attribute [local irreducible] runT loopS
/-- s[i:j:k] in its bounds is some slice. -/
theorem sl_3 {P : Program} {t e : TypeId} {s : Nat} (ht : P.underlying t = some (.slice e)) (hs : tsize P e = some s) {b o n c i j k : Nat} (h1 : i ≤ j) (h2 : j ≤ k) (h3 : k ≤ c) :
    ∃ v, sl P t (.slice (some ⟨b, o, none⟩) n c) (some (.int .i64 (i : Int))) (some (.int .i64 (j : Int))) (some (.int .i64 (k : Int))) = some v := by
  unfold sl aslice
  rw [ht]
  simp only [hs, Option.map_some]
  have g0 : abound (tri (some (.int .i64 (i : Int))) (some (.int .i64 (j : Int))) (some (.int .i64 (k : Int)))) (some (.tmp 0)) 0 = some i := by
    show anat (.int .i64 (Int.ofNat i)) = _
    simp only [anat, natK_eq]
  have g1 : abound (tri (some (.int .i64 (i : Int))) (some (.int .i64 (j : Int))) (some (.int .i64 (k : Int)))) (some (.tmp 1)) n = some j := by
    show anat (.int .i64 (Int.ofNat j)) = _
    simp only [anat, natK_eq]
  have g2 : abound (tri (some (.int .i64 (i : Int))) (some (.int .i64 (j : Int))) (some (.int .i64 (k : Int)))) (some (.tmp 2)) c = some k := by
    show anat (.int .i64 (Int.ofNat k)) = _
    simp only [anat, natK_eq]
  have g3 : abounds (tri (some (.int .i64 (i : Int))) (some (.int .i64 (j : Int))) (some (.int .i64 (k : Int)))) n c (some (.tmp 0)) (some (.tmp 1)) (some (.tmp 2)) = some (i, j, k) := by
    unfold abounds
    simp only [g0, g1, g2, ble_t h1, ble_t h2, ble_t h3, Bool.and_self]
  simp only [g3]
  cases Nat.beq k i <;> exact ⟨_, rfl⟩
/-- s[k:] to the end of a full block is empty. -/
theorem sl_end {P : Program} {t e : TypeId} {s : Nat} (ht : P.underlying t = some (.slice e)) (hs : tsize P e = some s) {b o c : Nat} (h0 : 0 < c) :
    sl P t (.slice (some ⟨b, o, none⟩) c c) (some (.int .i64 (c : Int))) none none = some (.slice (some ⟨b, o, some 1⟩) 0 0) := by
  unfold sl aslice
  rw [ht]
  simp only [hs, Option.map_some, Option.map_none]
  have h1 : abound (tri (some (.int .i64 (c : Int))) none none) (some (.tmp 0)) 0 = some c := by
    show anat (.int .i64 (Int.ofNat c)) = _
    simp only [anat, natK_eq]
  have h2 : abounds (tri (some (.int .i64 (c : Int))) none none) c c (some (.tmp 0)) none none = some (c, c, c) := by
    unfold abounds
    simp only [abound_none, h1, ble_t (Nat.le_refl c), Bool.and_self]
  have h3 : Nat.beq c c = true := Nat.beq_refl c
  simp only [h2, beq_f (show c ≠ 0 by omega), h3]
/-- s[i:j] of an open slice. -/
theorem sl_mid {P : Program} {t e : TypeId} {s : Nat} (ht : P.underlying t = some (.slice e)) (hs : tsize P e = some s) {b o n c i j : Nat} (h1 : i ≤ j) (h2 : j ≤ c) (h3 : i < c) :
    ∃ c', sl P t (.slice (some ⟨b, o, none⟩) n c) (some (.int .i64 (i : Int))) (some (.int .i64 (j : Int))) none = some (.slice (some ⟨b, o + i * s, none⟩) (j - i) c') := by
  unfold sl aslice
  rw [ht]
  simp only [hs, Option.map_some, Option.map_none]
  have g0 : abound (tri (some (.int .i64 (i : Int))) (some (.int .i64 (j : Int))) none) (some (.tmp 0)) 0 = some i := by
    show anat (.int .i64 (Int.ofNat i)) = _
    simp only [anat, natK_eq]
  have g1 : abound (tri (some (.int .i64 (i : Int))) (some (.int .i64 (j : Int))) none) (some (.tmp 1)) n = some j := by
    show anat (.int .i64 (Int.ofNat j)) = _
    simp only [anat, natK_eq]
  have g3 : abounds (tri (some (.int .i64 (i : Int))) (some (.int .i64 (j : Int))) none) n c (some (.tmp 0)) (some (.tmp 1)) none = some (i, j, c) := by
    unfold abounds
    simp only [abound_none, g0, g1, ble_t h1, ble_t h2, ble_t (Nat.le_refl c), Bool.and_self]
  simp only [g3]
  by_cases hi : i = 0
  · subst hi
    exact ⟨c, by simp⟩
  · simp only [beq_f hi, beq_f (show c ≠ i by omega)]
    exact ⟨c - i, rfl⟩
theorem azero3 : azero Try.prog 3 = some [.int .i64 0] := by kernel_rfl
theorem rd_other {m : Mem} {b c : Nat} {k : Option Blk} (h : c ≠ b) : (m.put b k).rd c = m.rd c := Mem.rd_put _ _ _ _ (Ne.symm h)
theorem awr_e {L : Nat} {m : Mem} {b o s : Nat} {cs vs : List Value} (hL : L ≤ b) (h : m.rd b = some ⟨s, cs, none⟩) (hn : o + vs.length ≤ cs.length) (ho : allOne vs = true) :
    awr L m b o vs = some (m.put b (some ⟨s, cs.take o ++ (vs ++ cs.drop (o + vs.length)), none⟩)) := by
  unfold awr
  simp only [ble_t hL, h, show Nat.add o vs.length = o + vs.length from rfl, ble_t hn, ho, Bool.and_self]
theorem aapp_in {P : Program} {t : TypeId} {y L : Nat} {m : Mem} {b o n c s j : Nat} {x : Value} {cs ds : List Value} (ht : aelem P t = some (1, y)) (hx : asrc m 1 x = some (j + 1, ds)) (hd : ds.length = j + 1) (hn : n + (j + 1) ≤ c) (hL : L ≤ b) (h : m.rd b = some ⟨s, cs, none⟩) (hc : o + c ≤ cs.length) (ho : allOne ds = true) :
    aappend P L m t (.slice (some ⟨b, o, none⟩) n c) x = some (.slice (some ⟨b, o, none⟩) (n + (j + 1)) c, m.put b (some ⟨s, cs.take (o + n) ++ (ds ++ cs.drop (o + n + ds.length)), none⟩)) := by
  unfold aappend
  rw [ht]
  have h1 : Nat.add o (Nat.mul n 1) = o + n := by show o + n * 1 = o + n; omega
  simp only [hx, ble_t (show n ≤ c by omega), natK_eq, show Nat.add n (Nat.succ j) = n + (j + 1) from rfl, ble_t hn, h1]
  rw [awr_e hL h (by omega) ho]
theorem aapp_no {P : Program} {t : TypeId} {y L : Nat} {m : Mem} {b o n c : Nat} {x : Value} {ds : List Value} (ht : aelem P t = some (1, y)) (hx : asrc m 1 x = some (0, ds)) (hn : n ≤ c) :
    aappend P L m t (.slice (some ⟨b, o, none⟩) n c) x = some (.slice (some ⟨b, o, none⟩) n c, m) := by
  unfold aappend
  rw [ht]
  simp only [hx, ble_t hn]
theorem aclear1 {L : Nat} {m : Mem} {b o s c : Nat} {x : Option Nat} {cs : List Value} (hL : L ≤ b) (h : m.rd b = some ⟨s, cs, none⟩) (hn : o + 1 ≤ cs.length) :
    aclear Try.prog L m 22 (.slice (some ⟨b, o, x⟩) 1 c) = some (Go.undef, m.put b (some ⟨s, cs.take o ++ ([.int .i64 0] ++ cs.drop (o + 1)), none⟩)) := by
  unfold aclear
  rw [u22]
  simp only [azero3]
  rw [show azrow [.int .i64 0] (Nat.succ 0) = [.int .i64 0] from rfl, awr_e hL h hn rfl]
  rfl
theorem erase_take {α : Type} (l : List α) (q : Nat) : l.eraseIdx q = l.take q ++ l.drop (q + 1) := List.eraseIdx_eq_take_drop_succ l q
theorem isort_nodup {l : List Nat} {n : Nat} (h : ∀ x ∈ l, x < n) (hn : l.Nodup) : isortI (ci l) = ci ((List.range n).filter fun x => l.contains x) := by
  refine List.Perm.eq_of_pairwise (le := fun a b => a ≤ b) (fun a b _ _ h1 h2 => Int.le_antisymm h1 h2) (isortI_sorted _) ?_ ((isortI_perm _).trans ?_)
  · unfold ci
    rw [List.pairwise_map]
    exact (filter_asc (fun x => l.contains x) (range_asc n)).imp fun h => by omega
  · unfold ci
    refine List.Perm.map _ ?_
    refine (List.perm_ext_iff_of_nodup hn (List.Pairwise.filter _ List.nodup_range)).2 fun x => ?_
    rw [List.mem_filter, List.mem_range, List.contains_iff_mem]
    exact ⟨fun hx => ⟨h x hx, hx⟩, fun hx => hx.2⟩
theorem iaA_e {N b o i : Nat} (hi : i < N) : iaA N 1 (.pointer (some ⟨b, o, none⟩)) (.int .i64 (i : Int)) = some (.pointer (some ⟨b, o + i * 1, none⟩)) := by
  have hb : Nat.blt i N = true := by simpa using hi
  show iaA N 1 _ (.int .i64 (Int.ofNat i)) = _
  simp only [iaA, hb, natK_eq]
  rfl
theorem GN.snoc3 {P : Program} {t : TypeId} {y L L0 : Nat} {m0 m : Mem} {v : Value} {l : List Nat} (x : Nat) (ht : aelem P t = some (1, y)) (hy : y ≤ 134217728) (h : GN L0 m v l) (hl : l.length < 1048576) (hL : L ≤ L0) (e : Gt m0 m) (hm : m0.next ≤ L0) :
    ∃ u m', aappend P L (m.push ⟨1, [.int .i64 (x : Int)], none⟩) t v (slTo 1 m.next) = some (u, m') ∧ GN m.next m' u (l ++ [x]) ∧ Gt m0 m' ∧ m.next ≤ m'.next ∧ (∀ c, c < m.next → bid v ≠ some c → m'.rd c = m.rd c) := by
  have h1 : Sl 1 (m.push ⟨1, [.int .i64 (x : Int)], none⟩) (slTo 1 m.next) 1 [.int .i64 (x : Int)] := Gs.sl (L := m.next) (.inr ⟨m.next, Nat.le_refl _, rfl, Mem.rd_push _ _, rfl, by omega⟩)
  have hlc : (ci l).length = l.length := ci_length l
  have gp := Mem.gt_push m ⟨1, [.int .i64 (x : Int)], none⟩
  obtain ⟨u, m', h2, h3, h4, h5, h8⟩ := Gs.append2 (P := P) (L := L) (m0 := m0) ht (Gs.mono h gp) h1 (by omega) rfl (roomy_of (by omega) hy) rfl hL (e.trans gp) hm
  have h6 := gp.next
  have h7 : Gs 1 m.next m' u ((ci l).length + 1) ((ci l).map (Value.int .i64) ++ [.int .i64 (x : Int)]) := Gs.le h3 h6
  have h7' : GN m.next m' u (l ++ [x]) := by
    have hh : ci (l ++ [x]) = ci l ++ [(x : Int)] := by simp [ci]
    unfold GN GL
    rw [hh]
    simpa using h7
  exact ⟨u, m', h2, h7', h4, by omega, fun c hc hb => (h8 c (by omega) hb).trans (gp.kept c hc)⟩
section
variable {lf n L : Nat} {m : Mem} {k : Value → Mem → Option Unit}
theorem delete_sp {b r N q : Nat} {cs : List Value} {l : List Nat} (hlf : 1000000 ≤ lf) (hL : L ≤ b) (hb : m.rd b = some ⟨1, cs, none⟩) (hc : cs.length = N) (hN : N ≤ 64) (hr : r ≤ N) (hl : l.length = r) (hcs : cs.take r = (ci l).map (Value.int .i64)) (hq : q < r)
    (hk : ∀ m' cs', (∀ c, c ≠ b → m'.rd c = m.rd c) → m'.next = m.next → m'.rd b = some ⟨1, cs', none⟩ → cs'.length = N → cs'.take (r - 1) = (ci (l.eraseIdx q)).map (Value.int .i64) → k (.slice (some ⟨b, 0, none⟩) (r - 1) N) m' = some ()) :
    runT (tab lf) (n + 1) 53 [.slice (some ⟨b, 0, none⟩) r N, .int .i64 (q : Int), .int .i64 ((q : Int) + 1)] L m k = some () := by
  rw [r53]
  dsimp only [S53, iofNat, inegSucc]
  have hq1 : ((q : Int) + 1) = ((q + 1 : Nat) : Int) := by omega
  rw [hq1]
  obtain ⟨v3, h3⟩ := sl_3 u22 ts3 (b := b) (o := 0) (n := r) (c := N) (i := q) (j := q + 1) (k := r) (by omega) (by omega) hr
  have hne : ¬ ((q : Int) = ((q + 1 : Nat) : Int)) := by omega
  have hbl := Mem.rd_lt hb
  try simp (maxSteps := 4000000) (disch := first | omega | with_unfolding_all exact id rfl | with_unfolding_all exact Nat.le_of_ble_eq_true rfl | (simp only [Jd, Je, Jr, Js, Jt, Nat.reduceAdd, allOne, oneCell, Bool.and_self, Jc]; first | done | omega)) only [ln_e, h3, hne, sl_hi u22 ts3 (b := b) (o := 0) (n := r) (c := N) (k := q) (by omega), ↓Qa, ↓Qb, Qd, Qe, Qf, Qg, Qh, Qi, Qj, Qk, Ql, Qm, Qn, Qo, Qp, Qq, Qr, Qs, Qt, Qu, Qv, Qw, Qx, Qy, ptrTo, Qz, QA, QB, QC, QD, QE, QF, QG, QH, QI, QJ, QK, QL, QM, QN, QO, QP, QQ, QR, QS, QT, QU, QV, QW, QX, QY, QZ, Ja, Jb, Jc, Jd, Je, Jf, Jg, Jh, Ji, Jj, Jk, Jl, Jm, Jn, Jo, Jp, Jq, Jr, Js, Jt, Nat.reduceAdd]
  have hcsq : cs.take q = (ci (l.take q)).map (Value.int .i64) := by
    have := congrArg (List.take q) hcs
    rw [List.take_take, Nat.min_eq_left (by omega)] at this
    rw [this]; simp [ci]
  by_cases hlast : q + 1 = r
  · have hx : ∃ x, sl Try.prog 22 (.slice (some ⟨b, 0, none⟩) r N) (some (.int .i64 ((q + 1 : Nat) : Int))) none none = some x ∧ asrc m 1 x = some (0, []) := by
      by_cases hqN : q + 1 = N
      · have hrN : r = N := by omega
        subst hqN
        subst hrN
        exact ⟨_, sl_end u22 ts3 (by omega), rfl⟩
      · refine ⟨_, sl_lo u22 ts3 (b := b) (o := 0) (n := r) (c := N) (k := q + 1) (by omega) (by omega) (by omega) hr, ?_⟩
        rw [show r - (q + 1) = 0 by omega]; rfl
    obtain ⟨x, hx1, hx2⟩ := hx
    obtain ⟨c', hm⟩ := sl_mid u22 ts3 (b := b) (o := 0) (n := q) (c := N) (i := q) (j := r) (by omega) hr (by omega)
    rw [hx1, oOpt_e, aapp_no ael22 hx2 (by omega), oRes_e, ln_e, oOpt_e, hm, oOpt_e, show r - q = 1 by omega, aclear1 hL hb (by omega), oRes_e]
    have h9 : r - 1 = q := by omega
    rw [h9] at hk
    have hlen : (cs.take (0 + q * 1)).length = q := by rw [List.length_take]; omega
    refine hk _ _ (fun c hcb => rd_other hcb) rfl (Mem.rd_put_eq _ _ hbl) ?_ ?_
    · rw [List.length_append, hlen, List.length_append, List.length_drop]; simp; omega
    · rw [List.take_append_of_le_length (by omega), List.take_of_length_le (by omega), show 0 + q * 1 = q by omega, hcsq, erase_take, List.drop_eq_nil_of_le (by omega), List.append_nil]
  · have h5 := sl_lo u22 ts3 (b := b) (o := 0) (n := r) (c := N) (k := q + 1) (by omega) (by omega) (by omega) hr
    have h6 : asrc m 1 (.slice (some ⟨b, 0 + (q + 1) * 1, none⟩) (r - (q + 1)) (N - (q + 1))) = some ((r - (q + 1) - 1) + 1, (ci (l.drop (q + 1))).map (Value.int .i64)) := by
      have h7 : (cs.drop (q + 1)).take (r - (q + 1)) = (ci (l.drop (q + 1))).map (Value.int .i64) := by
        have := congrArg (List.drop (q + 1)) hcs
        rw [List.drop_take] at this
        rw [this]; simp [ci]
      have h8 := (IL.of (x := none) (o := q + 1) (n := r - (q + 1)) (c := N - (q + 1)) hb (by omega) h7).1
      rw [show 0 + (q + 1) * 1 = q + 1 by omega, h8, ci_length, List.length_drop, hl]
      congr 2
      omega
    have h8 : ((ci (l.drop (q + 1))).map (Value.int .i64)).length = r - (q + 1) := by rw [List.length_map, ci_length, List.length_drop, hl]
    rw [h5, oOpt_e, aapp_in ael22 h6 (by omega) (by omega) hL hb (by omega) (allOne_map _), oRes_e, ln_e, oOpt_e, show q + (r - (q + 1) - 1 + 1) = r - 1 by omega]
    obtain ⟨c', hm⟩ := sl_mid u22 ts3 (b := b) (o := 0) (n := r - 1) (c := N) (i := r - 1) (j := r) (by omega) hr (by omega)
    have h9 : (0 + q) + ((ci (l.drop (q + 1))).map (Value.int .i64)).length = r - 1 := by rw [h8]; omega
    rw [h9]
    have h10 : (cs.take (0 + q)).length = q := by rw [List.length_take]; omega
    have h11 : (cs.take (0 + q) ++ ((ci (l.drop (q + 1))).map (Value.int .i64) ++ cs.drop (r - 1))).length = N := by
      rw [List.length_append, h10, List.length_append, h8, List.length_drop]; omega
    have h12 : (cs.take (0 + q) ++ ((ci (l.drop (q + 1))).map (Value.int .i64) ++ cs.drop (r - 1))).take (r - 1) = (ci (l.eraseIdx q)).map (Value.int .i64) := by
      rw [← List.append_assoc, List.take_append_of_le_length (by rw [List.length_append, h10, h8]; omega), List.take_of_length_le (by rw [List.length_append, h10, h8]; omega), Nat.zero_add, hcsq, erase_take]
      simp [ci]
    generalize cs.take (0 + q) ++ ((ci (l.drop (q + 1))).map (Value.int .i64) ++ cs.drop (r - 1)) = cs2 at h11 h12 ⊢
    have hb2 : (m.put b (some ⟨1, cs2, none⟩)).rd b = some ⟨1, cs2, none⟩ := Mem.rd_put_eq _ _ hbl
    have hbl2 := Mem.rd_lt hb2
    rw [hm, oOpt_e, show r - (r - 1) = 1 by omega, show 0 + (r - 1) * 1 = r - 1 by omega, aclear1 hL hb2 (by omega), oRes_e]
    have h13 : (cs2.take (r - 1)).length = r - 1 := by rw [List.length_take]; omega
    refine hk _ _ (fun c hcb => (rd_other hcb).trans (rd_other hcb)) rfl (Mem.rd_put_eq _ _ hbl2) ?_ ?_
    · rw [List.length_append, h13, List.length_append, List.length_drop]; simp; omega
    · rw [List.take_append_of_le_length (by omega), List.take_of_length_le (by omega), h12]
theorem chosen_sp {N kk : Nat} {ol : List Nat} (hlf : 1000000 ≤ lf) (hL : L ≤ m.next) (hol : ol.length = 10) (hog : ∀ g ∈ ol, g < 256) (hN1 : 1 ≤ N) (hN : N ≤ 10) (hkk : kk ≤ N)
    (hk : ∀ u m' l, Gt m m' → IN m' u l → Bl N kk l → k u m' = some ()) : runT (tab lf) (n + 2) 49 [.agg ⟨ol.map fun (g : Nat) => .int .u8 (g : Int)⟩, .int .i64 (N : Int), .int .i64 (kk : Int)] L m k = some () := by
  rw [r49]
  dsimp only [S49, iofNat, inegSucc]
  have g1 := Mem.gt_push m ⟨1, ol.map fun (g : Nat) => .int .u8 (g : Int), none⟩
  have ho1 : At (m.push ⟨1, ol.map fun (g : Nat) => .int .u8 (g : Int), none⟩) m.next _ := At.push m (ol.map fun (g : Nat) => .int .u8 (g : Int))
  have hx1 : (m.push ⟨1, ol.map fun (g : Nat) => .int .u8 (g : Int), none⟩).next = m.next + 1 := Mem.push_next _ _
  rw [uc_e, uc_e, uc_e, un0_e, abox_e, cells_agg, oRes_e]
  generalize m.push ⟨1, ol.map fun (g : Nat) => .int .u8 (g : Int), none⟩ = m1 at g1 ho1 hx1 ⊢
  simp only [ptrTo]
  refine loop_up N (fun i vs m' => ∃ u, vs = [u, .int .i64 (i : Int)] ∧ Gt m1 m' ∧ GN m1.next m' u (List.range i)) (by omega) ⟨_, rfl, Gt.refl _, GN.nil _ _⟩ ?_
  rintro i vs m5 hi ⟨w, rfl, e5, hw⟩ self hself
  have n5 := e5.next
  try simp (maxSteps := 4000000) (disch := first | omega | with_unfolding_all exact id rfl | with_unfolding_all exact Nat.le_of_ble_eq_true rfl | (simp only [Jd, Je, Jr, Js, Jt, Nat.reduceAdd, allOne, oneCell, Bool.and_self, Jc]; first | done | omega)) only [↓Qa, ↓Qb, Qd, Qe, Qf, Qg, Qh, Qi, Qj, Qk, Ql, Qm, Qn, Qo, Qp, Qq, Qr, Qs, Qt, Qu, Qv, Qw, Qx, Qy, ptrTo, Qz, QA, QB, QC, QD, QE, QF, QG, QH, QI, QJ, QK, QL, QM, QN, QO, QP, QQ, QR, QS, QT, QU, QV, QW, QX, QY, QZ, Ja, Jb, Jc, Jd, Je, Jf, Jg, Jh, Ji, Jj, Jk, Jl, Jm, Jn, Jo, Jp, Jq, Jr, Js, Jt, Nat.reduceAdd]
  refine oIf_dec (fun h3 => ?_) (fun h3 => ?_)
  · have h4 : i < N := by omega
    obtain ⟨w2, m6, h8, h9, h10, h11⟩ := GN.snoc (P := Try.prog) (t := 22) (L := L) (m0 := m1) i ael22 (by omega) hw (by rw [List.length_range]; omega) (by omega) e5 (Nat.le_refl _)
    rw [bs22, oRes_e, h8, oRes_e, oInt_add ⟨by omega, by omega⟩]
    refine hself h4 _ _ ⟨w2, rfl, h10, ?_⟩
    rw [List.range_succ]
    exact h9.le n5
  · have h4 : i = N := by omega
    subst h4
    clear hself h3
    obtain ⟨b, cs, hbb, rfl, hb5, hcs5, hcl5⟩ : ∃ b cs, m1.next ≤ b ∧ w = .slice (some ⟨b, 0, none⟩) i i ∧ m5.rd b = some ⟨1, cs, none⟩ ∧ cs = (ci (List.range i)).map (Value.int .i64) ∧ cs.length = i := by
      rcases hw with ⟨_, h2, _⟩ | ⟨b, h1, h2, h3, h4, _⟩
      · rw [ci_length, List.length_range] at h2; omega
      · rw [ci_length, List.length_range] at h2 h4
        exact ⟨b, _, h1, h2, h3, rfl, by omega⟩
    refine loop_up kk (fun h vs m' => ∃ w to left cs, vs = [w, .slice (some ⟨b, 0, none⟩) (i - h) i, .int .i64 (h : Int)] ∧ Gt m1 m' ∧ GN m1.next m' w to ∧ m'.rd b = some ⟨1, cs, none⟩ ∧ cs.length = i ∧ left.length = i - h ∧ cs.take (i - h) = (ci left).map (Value.int .i64) ∧ (to ++ left).Perm (List.range i) ∧ bid w ≠ some b) (by omega)
      ⟨.slice none 0 0, [], List.range i, cs, rfl, e5, GN.nil _ _, hb5, hcl5, by rw [List.length_range]; rfl, by rw [Nat.sub_zero, List.take_of_length_le (by omega), hcs5], List.Perm.refl _, by intro h; cases h⟩ ?_
    clear hcs5 hcl5 cs hb5
    rintro h vs m7 hh ⟨w, to, left, cs, rfl, e7, hw7, hb7, hcl7, hll7, hct7, hpm, hbw⟩ self hself
    have hto := hpm.length_eq
    rw [List.length_append, List.length_range] at hto
    have hbm := Mem.rd_lt hb7
    have ho7 := ho1.mono e7
    have n7 := e7.next
    try simp (maxSteps := 4000000) (disch := first | omega | with_unfolding_all exact id rfl | with_unfolding_all exact Nat.le_of_ble_eq_true rfl | (simp only [Jd, Je, Jr, Js, Jt, Nat.reduceAdd, allOne, oneCell, Bool.and_self, Jc]; first | done | omega)) only [↓Qa, ↓Qb, Qd, Qe, Qf, Qg, Qh, Qi, Qj, Qk, Ql, Qm, Qn, Qo, Qp, Qq, Qr, Qs, Qt, Qu, Qv, Qw, Qx, Qy, ptrTo, Qz, QA, QB, QC, QD, QE, QF, QG, QH, QI, QJ, QK, QL, QM, QN, QO, QP, QQ, QR, QS, QT, QU, QV, QW, QX, QY, QZ, Ja, Jb, Jc, Jd, Je, Jf, Jg, Jh, Ji, Jj, Jk, Jl, Jm, Jn, Jo, Jp, Jq, Jr, Js, Jt, Nat.reduceAdd]
    refine oIf_dec (fun h3 => ?_) (fun h3 => ?_)
    · have h4 : h < kk := by omega
      have h5 : h < ol.length := by omega
      have h6 := hog _ (List.getElem_mem h5)
      have hcell : (ol.map fun (g : Nat) => Value.int .u8 (g : Int))[0 + h * 1]? = some (.int .u8 (ol[h] : Int)) := by
        rw [show 0 + h * 1 = h by omega, List.getElem?_map, List.getElem?_eq_getElem h5]; rfl
      rw [iaA_e (by omega), oOpt_e, ld1_u, ho7.rd, rdo_e, hcell, oOpt_e, oCv_nat (by omega), ln_e, oOpt_e, oInt_remN (by omega)]
      have hq : ol[h] % (i - h) < i - h := Nat.mod_lt _ (by omega)
      generalize ol[h] % (i - h) = q at hq ⊢
      have hql : q < left.length := by omega
      have hcq : cs[0 + q * 1]? = some (.int .i64 ((left[q] : Nat) : Int)) := by
        have := congrArg (fun x => x[q]?) hct7
        simp only [List.getElem?_take, if_pos hq] at this
        rw [show 0 + q * 1 = q by omega, this]
        simp [ci, hql]
      rw [ia_e (sz := 1) hq, oOpt_e, ld1_u, hb7, rdo_e, hcq, oOpt_e]
      obtain ⟨u2, m8, h8, h9, e8, h10, hkeep⟩ := GN.snoc3 (P := Try.prog) (t := 22) (L := L) (m0 := m1) left[q] ael22 (by omega) hw7 (by omega) (by omega) e7 (Nat.le_refl _)
      have hb8 : m8.rd b = some ⟨1, cs, none⟩ := (hkeep _ hbm hbw).trans hb7
      rw [bs22, oRes_e, h8, oRes_e, oInt_add ⟨by omega, by omega⟩]
      refine delete_sp (l := left) hlf (by omega) hb8 hcl7 (by omega) (by omega) hll7 hct7 hq fun m10 cs2 hk10 hn10 hb10 hcl10 hct10 => ?_
      rw [oInt_add ⟨by omega, by omega⟩]
      refine hself h4 _ _ ⟨u2, to ++ [left[q]], left.eraseIdx q, cs2, rfl, ⟨by have := e8.next; omega, fun c hc => ?_⟩, ?_, hb10, hcl10, ?_, ?_, ?_, ?_⟩
      · rw [hk10 c (by omega), e8.kept c hc]
      · rcases h9 with ⟨a1, a2, a3⟩ | ⟨b2, a1, a2, a3, a4⟩
        · exact .inl ⟨a1, a2, a3⟩
        · refine .inr ⟨b2, by omega, a2, ?_, a4⟩
          rw [hk10 _ (by omega), a3]
      · rw [List.length_eraseIdx, if_pos hql]; omega
      · rw [show i - (h + 1) = i - h - 1 by omega]; exact hct10
      · refine List.Perm.trans ?_ hpm
        rw [List.append_assoc]
        refine List.Perm.append_left _ ?_
        rw [erase_take]
        refine (List.perm_middle.symm : (left[q] :: (left.take q ++ left.drop (q + 1))).Perm _).trans ?_
        rw [← List.drop_eq_getElem_cons hql, List.take_append_drop]
      · intro hb; have := h9.fr b hb; omega
    · have h4 : h = kk := by omega
      subst h4
      clear hself h3 hb7 hct7 hbm hbw
      have hnd : (to ++ left).Nodup := hpm.nodup_iff.2 List.nodup_range
      have hton : to.Nodup := (List.nodup_append.1 hnd).1
      have htol : ∀ x ∈ to, x < i := fun x hx => List.mem_range.1 (hpm.mem_iff.1 (List.mem_append_left _ hx))
      have htlen : to.length = h := by omega
      rw [r55]
      refine sort_sp hw7 (L := L) (by omega) e7 (Nat.le_refl _) (by rw [ci_length]; omega) fun m8 e8 hu8 _ _ => ?_
      have hi1 := isort_nodup htol hton
      have hlen := congrArg List.length hi1
      rw [isortI_length, ci_length, ci_length] at hlen
      rw [hi1] at hu8
      refine hk _ _ _ (g1.trans e8) hu8.il ⟨filter_asc _ (range_asc i), fun x hx => List.mem_range.1 (List.mem_filter.1 hx).1, by omega⟩
theorem others_sp {N : Nat} {l : List Nat} {v : Value} {b : Nat} (hlf : 1000000 ≤ lf) (hN : N ≤ 10) (hL : L ≤ m.next) (hv : IN m v l) (hl : l.length < 1000000) (hb : At m b [.int .i64 (N : Int)])
    (hk : ∀ u m', Gt m m' → IN m' u (oth N l) → k u m' = some ()) : runT (tab lf) (n + 3) 51 [v, .pointer (some ⟨b, 0, none⟩)] L m k = some () := by
  rw [r51]
  dsimp only [S51, iofNat, inegSucc]
  try simp (disch := first | omega | with_unfolding_all exact id rfl | with_unfolding_all exact Nat.le_of_ble_eq_true rfl | (simp only [Jd, Je, Jr, Js, Jt, Nat.reduceAdd, allOne, oneCell, Bool.and_self, Jc]; first | done | omega)) only [hb.rd, ↓Qa, ↓Qb, ↓Qc, Qd, Qe, Qf, Qg, Qh, Qi, Qj, Qk, Ql, Qm, Qn, Qo, Qp, Qq, Qr, Qs, Qt, Qu, Qv, Qw, Qx, Qy, ptrTo, Qz, QA, QB, QC, QD, QE, QF, QG, QH, QI, QJ, QK, QL, QM, QN, QO, QP, QQ, QR, QS, QT, QU, QV, QW, QX, QY, QZ, Ja, Jb, Jc, Jd, Je, Jf, Jg, Jh, Ji, Jj, Jk, Jl, Jm, Jn, Jo, Jp, Jq, Jr, Js, Jt, Nat.reduceAdd]
  have hstep : ∀ i, i < N → oth (i + 1) l = if i ∈ l then oth i l else oth i l ++ [i] := fun i _ => by
    unfold oth
    rw [List.range_succ, List.filter_append]
    by_cases h : i ∈ l <;> simp [h]
  have hlen : ∀ i, (oth i l).length ≤ i := fun i => by
    have := List.length_filter_le (fun x => !decide (x ∈ l)) (List.range i)
    rw [List.length_range] at this
    exact this
  refine loop_up N (fun i vs m' => ∃ u, vs = [u, .int .i64 (i : Int)] ∧ Gt m m' ∧ GN m.next m' u (oth i l)) (by omega) ⟨_, rfl, Gt.refl _, GN.nil _ _⟩ ?_
  rintro i vs m5 hi ⟨w, rfl, e5, hw⟩ self hself
  have n5 := e5.next
  try simp (disch := first | omega | with_unfolding_all exact id rfl | with_unfolding_all exact Nat.le_of_ble_eq_true rfl | (simp only [Jd, Je, Jr, Js, Jt, Nat.reduceAdd, allOne, oneCell, Bool.and_self, Jc]; first | done | omega)) only [↓Qa, ↓Qb, Qd, Qe, Qf, Qg, Qh, Qi, Qj, Qk, Ql, Qm, Qn, Qo, Qp, Qq, Qr, Qs, Qt, Qu, Qv, Qw, Qx, Qy, ptrTo, Qz, QA, QB, QC, QD, QE, QF, QG, QH, QI, QJ, QK, QL, QM, QN, QO, QP, QQ, QR, QS, QT, QU, QV, QW, QX, QY, QZ, Ja, Jb, Jc, Jd, Je, Jf, Jg, Jh, Ji, Jj, Jk, Jl, Jm, Jn, Jo, Jp, Jq, Jr, Js, Jt, Nat.reduceAdd]
  refine oIf_dec (fun h3 => ?_) (fun h3 => ?_)
  · have h4 : i < N := by omega
    have := hstep i h4
    refine contains_sp hlf (hv.mono e5) hl ?_
    by_cases h : i ∈ l
    · rw [if_pos h] at this
      try simp (disch := first | omega | with_unfolding_all exact id rfl | with_unfolding_all exact Nat.le_of_ble_eq_true rfl | (simp only [Jd, Je, Jr, Js, Jt, Nat.reduceAdd, allOne, oneCell, Bool.and_self, Jc]; first | done | omega)) only [decide_eq_true h, ↓Qa, ↓Qb, Qd, Qe, Qf, Qg, Qh, Qi, Qj, Qk, Ql, Qm, Qn, Qo, Qp, Qq, Qr, Qs, Qt, Qu, Qv, Qw, Qx, Qy, ptrTo, Qz, QA, QB, QC, QD, QE, QF, QG, QH, QI, QJ, QK, QL, QM, QN, QO, QP, QQ, QR, QS, QT, QU, QV, QW, QX, QY, QZ, Ja, Jb, Jc, Jd, Je, Jf, Jg, Jh, Ji, Jj, Jk, Jl, Jm, Jn, Jo, Jp, Jq, Jr, Js, Jt, Nat.reduceAdd]
      repeat (rw [join_e]; try simp (disch := first | omega | with_unfolding_all exact id rfl | with_unfolding_all exact Nat.le_of_ble_eq_true rfl | (simp only [Jd, Je, Jr, Js, Jt, Nat.reduceAdd, allOne, oneCell, Bool.and_self, Jc]; first | done | omega)) only [↓Qa, ↓Qb, Qd, Qe, Qf, Qg, Qh, Qi, Qj, Qk, Ql, Qm, Qn, Qo, Qp, Qq, Qr, Qs, Qt, Qu, Qv, Qw, Qx, Qy, ptrTo, Qz, QA, QB, QC, QD, QE, QF, QG, QH, QI, QJ, QK, QL, QM, QN, QO, QP, QQ, QR, QS, QT, QU, QV, QW, QX, QY, QZ, Ja, Jb, Jc, Jd, Je, Jf, Jg, Jh, Ji, Jj, Jk, Jl, Jm, Jn, Jo, Jp, Jq, Jr, Js, Jt, Nat.reduceAdd])
      rw [oInt_add ⟨by omega, by omega⟩]
      refine hself h4 _ _ ⟨w, rfl, e5, by rw [this]; exact hw⟩
    · rw [if_neg h] at this
      obtain ⟨w2, m6, h8, h9, h10, h11⟩ := GN.snoc (P := Try.prog) (t := 22) (L := L) (m0 := m) i ael22 (by omega) hw (by have := hlen i; omega) (by omega) e5 (Nat.le_refl _)
      try simp (disch := first | omega | with_unfolding_all exact id rfl | with_unfolding_all exact Nat.le_of_ble_eq_true rfl | (simp only [Jd, Je, Jr, Js, Jt, Nat.reduceAdd, allOne, oneCell, Bool.and_self, Jc]; first | done | omega)) only [decide_eq_false h, bs22, h8, ↓Qa, ↓Qb, Qd, Qe, Qf, Qg, Qh, Qi, Qj, Qk, Ql, Qm, Qn, Qo, Qp, Qq, Qr, Qs, Qt, Qu, Qv, Qw, Qx, Qy, ptrTo, Qz, QA, QB, QC, QD, QE, QF, QG, QH, QI, QJ, QK, QL, QM, QN, QO, QP, QQ, QR, QS, QT, QU, QV, QW, QX, QY, QZ, Ja, Jb, Jc, Jd, Je, Jf, Jg, Jh, Ji, Jj, Jk, Jl, Jm, Jn, Jo, Jp, Jq, Jr, Js, Jt, Nat.reduceAdd]
      repeat (rw [join_e]; try simp (disch := first | omega | with_unfolding_all exact id rfl | with_unfolding_all exact Nat.le_of_ble_eq_true rfl | (simp only [Jd, Je, Jr, Js, Jt, Nat.reduceAdd, allOne, oneCell, Bool.and_self, Jc]; first | done | omega)) only [↓Qa, ↓Qb, Qd, Qe, Qf, Qg, Qh, Qi, Qj, Qk, Ql, Qm, Qn, Qo, Qp, Qq, Qr, Qs, Qt, Qu, Qv, Qw, Qx, Qy, ptrTo, Qz, QA, QB, QC, QD, QE, QF, QG, QH, QI, QJ, QK, QL, QM, QN, QO, QP, QQ, QR, QS, QT, QU, QV, QW, QX, QY, QZ, Ja, Jb, Jc, Jd, Je, Jf, Jg, Jh, Ji, Jj, Jk, Jl, Jm, Jn, Jo, Jp, Jq, Jr, Js, Jt, Nat.reduceAdd])
      rw [oInt_add ⟨by omega, by omega⟩]
      refine hself h4 _ _ ⟨w2, rfl, h10, by rw [this]; exact h9.le n5⟩
  · have h4 : i = N := by omega
    subst h4
    exact hk _ _ e5 hw.inn
end
end Go.Vit
