/- Walks: slices.Clone, slices.Delete, a part divided in two. -/
import Derived.Test.YtcaoifacidnhcaaDoorW4
import Derived.Test.YtcaoifacidnhcaaDoorP2
set_option linter.unusedSimpArgs false
set_option linter.unusedVariables false
set_option maxRecDepth 20000
namespace Go.Vit
open Go Go.Proofs
attribute [local irreducible] runT loopS
/-- s[i:j:k] in its bounds is some slice. -/
theorem sl_3 {P : Program} {t e : TypeId} {s : Nat} (ht : P.underlying t = some (.slice e)) (hs : tsize P e = some s) {b o n c i j k : Nat} (h1 : i ≤ j) (h2 : j ≤ k) (h3 : k ≤ c) :
    ∃ v, sl P t (.slice (some ⟨b, o, none⟩) n c) (some (.int .i64 (i : Int))) (some (.int .i64 (j : Int))) (some (.int .i64 (k : Int))) = some v := by
  unfold sl aslice
  rw [ht]
  simp only [hs, Option.map_some]
  have g0 : abound (tri (some (.int .i64 (i : Int))) (some (.int .i64 (j : Int))) (some (.int .i64 (k : Int)))) (some (.tmp 0)) 0 = some i := by
    show anat (.int .i64 (Int.ofNat i)) = _
    simp only [anat, natK_eq]
  have g1 : abound (tri (some (.int .i64 (i : Int))) (some (.int .i64 (j : Int))) (some (.int .i64 (k : Int)))) (some (.tmp 1)) n = some j := by
    show anat (.int .i64 (Int.ofNat j)) = _
    simp only [anat, natK_eq]
  have g2 : abound (tri (some (.int .i64 (i : Int))) (some (.int .i64 (j : Int))) (some (.int .i64 (k : Int)))) (some (.tmp 2)) c = some k := by
    show anat (.int .i64 (Int.ofNat k)) = _
    simp only [anat, natK_eq]
  have g3 : abounds (tri (some (.int .i64 (i : Int))) (some (.int .i64 (j : Int))) (some (.int .i64 (k : Int)))) n c (some (.tmp 0)) (some (.tmp 1)) (some (.tmp 2)) = some (i, j, k) := by
    unfold abounds
    simp only [g0, g1, g2, ble_t h1, ble_t h2, ble_t h3, Bool.and_self]
  simp only [g3]
  cases Nat.beq k i <;> exact ⟨_, rfl⟩
/-- s[k:] to the end of a full block is empty. -/
theorem sl_end {P : Program} {t e : TypeId} {s : Nat} (ht : P.underlying t = some (.slice e)) (hs : tsize P e = some s) {b o c : Nat} (h0 : 0 < c) :
    sl P t (.slice (some ⟨b, o, none⟩) c c) (some (.int .i64 (c : Int))) none none = some (.slice (some ⟨b, o, some 1⟩) 0 0) := by
  unfold sl aslice
  rw [ht]
  simp only [hs, Option.map_some, Option.map_none]
  have h1 : abound (tri (some (.int .i64 (c : Int))) none none) (some (.tmp 0)) 0 = some c := by
    show anat (.int .i64 (Int.ofNat c)) = _
    simp only [anat, natK_eq]
  have h2 : abounds (tri (some (.int .i64 (c : Int))) none none) c c (some (.tmp 0)) none none = some (c, c, c) := by
    unfold abounds
    simp only [abound_none, h1, ble_t (Nat.le_refl c), Bool.and_self]
  have h3 : Nat.beq c c = true := Nat.beq_refl c
  simp only [h2, beq_f (show c ≠ 0 by omega), h3]
/-- s[i:j] of an open slice. -/
theorem sl_mid {P : Program} {t e : TypeId} {s : Nat} (ht : P.underlying t = some (.slice e)) (hs : tsize P e = some s) {b o n c i j : Nat} (h1 : i ≤ j) (h2 : j ≤ c) (h3 : i < c) :
    ∃ c', sl P t (.slice (some ⟨b, o, none⟩) n c) (some (.int .i64 (i : Int))) (some (.int .i64 (j : Int))) none = some (.slice (some ⟨b, o + i * s, none⟩) (j - i) c') := by
  unfold sl aslice
  rw [ht]
  simp only [hs, Option.map_some, Option.map_none]
  have g0 : abound (tri (some (.int .i64 (i : Int))) (some (.int .i64 (j : Int))) none) (some (.tmp 0)) 0 = some i := by
    show anat (.int .i64 (Int.ofNat i)) = _
    simp only [anat, natK_eq]
  have g1 : abound (tri (some (.int .i64 (i : Int))) (some (.int .i64 (j : Int))) none) (some (.tmp 1)) n = some j := by
    show anat (.int .i64 (Int.ofNat j)) = _
    simp only [anat, natK_eq]
  have g3 : abounds (tri (some (.int .i64 (i : Int))) (some (.int .i64 (j : Int))) none) n c (some (.tmp 0)) (some (.tmp 1)) none = some (i, j, c) := by
    unfold abounds
    simp only [abound_none, g0, g1, ble_t h1, ble_t h2, ble_t (Nat.le_refl c), Bool.and_self]
  simp only [g3]
  by_cases hi : i = 0
  · subst hi
    exact ⟨c, by simp⟩
  · simp only [beq_f hi, beq_f (show c ≠ i by omega)]
    exact ⟨c - i, rfl⟩
theorem azero3 : azero Tryd.prog 3 = some [.int .i64 0] := by kernel_rfl
theorem rd_other {m : Mem} {b c : Nat} {k : Option Blk} (h : c ≠ b) : (m.put b k).rd c = m.rd c := Mem.rd_put _ _ _ _ (Ne.symm h)
theorem awr_e {L : Nat} {m : Mem} {b o s : Nat} {cs vs : List Value} (hL : L ≤ b) (h : m.rd b = some ⟨s, cs, none⟩) (hn : o + vs.length ≤ cs.length) (ho : allOne vs = true) :
    awr L m b o vs = some (m.put b (some ⟨s, cs.take o ++ (vs ++ cs.drop (o + vs.length)), none⟩)) := by
  unfold awr
  simp only [ble_t hL, h, show Nat.add o vs.length = o + vs.length from rfl, ble_t hn, ho, Bool.and_self]
theorem aapp_in {P : Program} {t : TypeId} {y L : Nat} {m : Mem} {b o n c s j : Nat} {x : Value} {cs ds : List Value} (ht : aelem P t = some (1, y)) (hx : asrc m 1 x = some (j + 1, ds)) (hd : ds.length = j + 1) (hn : n + (j + 1) ≤ c) (hL : L ≤ b) (h : m.rd b = some ⟨s, cs, none⟩) (hc : o + c ≤ cs.length) (ho : allOne ds = true) :
    aappend P L m t (.slice (some ⟨b, o, none⟩) n c) x = some (.slice (some ⟨b, o, none⟩) (n + (j + 1)) c, m.put b (some ⟨s, cs.take (o + n) ++ (ds ++ cs.drop (o + n + ds.length)), none⟩)) := by
  unfold aappend
  rw [ht]
  have h1 : Nat.add o (Nat.mul n 1) = o + n := by show o + n * 1 = o + n; omega
  simp only [hx, ble_t (show n ≤ c by omega), natK_eq, show Nat.add n (Nat.succ j) = n + (j + 1) from rfl, ble_t hn, h1]
  rw [awr_e hL h (by omega) ho]
theorem aapp_no {P : Program} {t : TypeId} {y L : Nat} {m : Mem} {b o n c : Nat} {x : Value} {ds : List Value} (ht : aelem P t = some (1, y)) (hx : asrc m 1 x = some (0, ds)) (hn : n ≤ c) :
    aappend P L m t (.slice (some ⟨b, o, none⟩) n c) x = some (.slice (some ⟨b, o, none⟩) n c, m) := by
  unfold aappend
  rw [ht]
  simp only [hx, ble_t hn]
theorem aclear1 {L : Nat} {m : Mem} {b o s c : Nat} {x : Option Nat} {cs : List Value} (hL : L ≤ b) (h : m.rd b = some ⟨s, cs, none⟩) (hn : o + 1 ≤ cs.length) :
    aclear Tryd.prog L m 30 (.slice (some ⟨b, o, x⟩) 1 c) = some (Go.undef, m.put b (some ⟨s, cs.take o ++ ([.int .i64 0] ++ cs.drop (o + 1)), none⟩)) := by
  unfold aclear
  rw [u30]
  simp only [azero3]
  rw [show azrow [.int .i64 0] (Nat.succ 0) = [.int .i64 0] from rfl, awr_e hL h hn rfl]
  rfl
theorem erase_take {α : Type} (l : List α) (q : Nat) : l.eraseIdx q = l.take q ++ l.drop (q + 1) := List.eraseIdx_eq_take_drop_succ l q
theorem abin_snil (p : Option Addr) (n c : Nat) : abin Tryd.prog .eql 30 (.slice p n c) (.slice none 0 0) = some (.bool p.isNone) := by
  cases p with
  | none => kernel_rfl
  | some a => kernel_rfl
theorem bs300 (m : Mem) : bs Tryd.prog m 30 0 [] = some (slTo 0 m.next, m.push ⟨1, [], none⟩) := (show _ = anew m 1 [] (slTo 0) by kernel_rfl).trans (anew_eq ..)
theorem bs302 (m : Mem) (x y : Int) : bs Tryd.prog m 30 2 [(0, .int .i64 x), (1, .int .i64 y)] = some (slTo 2 m.next, m.push ⟨1, [.int .i64 x, .int .i64 y], none⟩) := (show _ = anew m 1 [.int .i64 x, .int .i64 y] (slTo 2) by kernel_rfl).trans (anew_eq ..)
theorem iaA_e {N b o i : Nat} (hi : i < N) : iaA N 1 (.pointer (some ⟨b, o, none⟩)) (.int .i64 (i : Int)) = some (.pointer (some ⟨b, o + i * 1, none⟩)) := by
  have hb : Nat.blt i N = true := by simpa using hi
  show iaA N 1 _ (.int .i64 (Int.ofNat i)) = _
  simp only [iaA, hb, natK_eq]
  rfl
theorem aapp_grow {P : Program} {t : TypeId} {y L : Nat} {m : Mem} {b n c j : Nat} {x : Value} {cs ds : List Value} (ht : aelem P t = some (1, y)) (hx : asrc m 1 x = some (j + 1, ds)) (hn : n ≤ c) (hnc : c < n + (j + 1)) (hr : roomy (n + (j + 1)) y = true) (hL : L ≤ b) (h : m.rd b = some ⟨1, cs, none⟩) (hc : cs.length = c) (ho : allOne ds = true) :
    aappend P L m t (.slice (some ⟨b, 0, none⟩) n c) x = some (slTo (n + (j + 1)) m.next, (m.put b none).push ⟨1, cs.take n ++ ds, none⟩) := by
  have h1 : Nat.ble (n + (j + 1)) c = false := by
    cases hb : Nat.ble (n + (j + 1)) c with
    | false => rfl
    | true => have := Nat.le_of_ble_eq_true hb; omega
  have h2 : rdc m b 0 (Nat.mul n 1) = some (cs.take n) := by
    rw [show Nat.mul n 1 = n from Nat.mul_one n, rdc_e h (by omega), List.drop_zero]
  have h3 : (Nat.beq 1 1 && (Nat.beq (Nat.add 0 (Nat.mul c 1)) cs.length && allOne ds)) = true := by
    rw [show Nat.add 0 (Nat.mul c 1) = c by show 0 + c * 1 = c; omega, hc, ho, Nat.beq_refl, Nat.beq_refl]; rfl
  unfold aappend
  rw [ht]
  simp only [hx, ble_t hn, natK_eq, show Nat.add n (Nat.succ j) = n + (j + 1) from rfl, h1, hr, h2, ble_t hL, h, h3, anew_eq]
  rfl
section
variable {lf n L : Nat} {m : Mem} {k : Value → Mem → Option Unit}
theorem clone_sp {v : Value} {l : List Nat} (hL : L ≤ m.next) (hv : IN m v l) (hpos : 0 < l.length) (hl : l.length < 1000000) (hk : ∀ u m', Gt m m' → GN m.next m' u l → k u m' = some ()) : runT (tab lf) (n + 1) 70 [v] L m k = some () := by
  rw [r70]
  dsimp only [S70, iofNat, inegSucc]
  obtain ⟨b, o, x, c, _, rfl, _⟩ := Sl.at hv (i := 0) (by rw [ci_length]; exact hpos)
  rw [ci_length] at hv ⊢
  try simp (disch := first | omega | with_unfolding_all exact id rfl | with_unfolding_all exact Nat.le_of_ble_eq_true rfl | (simp only [Mem.push_next, Mem.put_next, List.length_cons, List.length_nil, Nat.zero_add, Nat.reduceAdd, allOne, oneCell, Bool.and_self, Bool.and_true]; first | done | omega)) only [abin_snil, Option.isNone_some, bs300, ↓uc_e, ↓un0_e, ↓join_e, oOpt_e, oRes_e, oIf_t, oIf_f, oGT_t, oGT_f, oGT_u, oGF_t, oGF_f, oGF_u, oPick_t, oPick_f, oInt_eql, oInt_neq, oInt_lss, oInt_leq, oInt_gtr, oInt_geq, aun_not, aextract_e, fa_e, abox_e, ptrTo, oCallV_e, decide_true, decide_false, Bool.not_true, Bool.not_false, List.getElem?_cons_zero, List.getElem?_cons_succ, List.cons_append, List.nil_append, cells_agg, cells_int, cells_slice, cells_bool, cells_ptr, ld1_u, ldN_u, st1_u, rdo_e, rdn_e, stw_e, anew_eq, Mem.push_next, Mem.put_next, Mem.rd_push, Mem.rd_push_eq, Mem.rd_push_lt, Mem.rd_put_eq, Mem.rd_put, List.take_zero, List.drop_zero, List.take_succ_cons, List.drop_succ_cons, List.drop_nil, List.take_nil, List.append_nil, List.length_cons, List.length_nil, Nat.zero_add, Nat.reduceAdd]
  have g1 := Mem.gt_push m ⟨1, [], none⟩
  have hx : IN (m.push ⟨1, [], none⟩) (.slice (some ⟨b, o, x⟩) l.length c) l := hv.mono g1
  have h1 : Sl 1 (m.push ⟨1, [], none⟩) (.slice (some ⟨b, o, x⟩) l.length c) l.length ((ci l).map (Value.int .i64)) := by
    have := hx; unfold IN IL at this; rwa [ci_length] at this
  obtain ⟨j, hj⟩ : ∃ j, l.length = j + 1 := ⟨l.length - 1, by omega⟩
  have hap : aappend Tryd.prog L (m.push ⟨1, [], none⟩) 30 (slTo 0 m.next) (.slice (some ⟨b, o, x⟩) l.length c) = some (slTo l.length ((m.push ⟨1, [], none⟩).put m.next none).next, ((m.push ⟨1, [], none⟩).put m.next none).push ⟨1, (ci l).map (Value.int .i64), none⟩) := by
    have hr := roomy_of (n := l.length) (y := 8) (by omega) (by omega)
    unfold aappend slTo
    rw [ael30]
    simp only [h1.1, natK_eq]
    rw [hj] at hr ⊢
    have hrd : rdc (m.push ⟨1, [], none⟩) m.next 0 (Nat.mul 0 1) = some [] := rdc_e (s := 1) (Mem.rd_push m ⟨1, [], none⟩) (by decide)
    have hn0 : Nat.add 0 (Nat.succ j) = j + 1 := Nat.zero_add _
    simp only [hn0, hr, hrd, ble_t (show L ≤ m.next from hL), Mem.rd_push, Nat.ble_eq_true_of_le (Nat.le_refl 0), List.nil_append, anew_eq, allOne_map]
    rfl
  rw [hap, oRes_e]
  refine hk _ _ ((Mem.put_gt g1 none (Nat.le_refl _)).trans (Mem.gt_push _ _)) (.inr ⟨_, ?_, ?_, Mem.rd_push _ _, ?_, ?_⟩)
  · rw [Mem.put_next, Mem.push_next]; omega
  · rw [ci_length]; rfl
  · simp [ci]
  · rw [ci_length]; exact hpos
theorem delete_sp {b r N q : Nat} {cs : List Value} {l : List Nat} (hlf : 1000000 ≤ lf) (hL : L ≤ b) (hb : m.rd b = some ⟨1, cs, none⟩) (hc : cs.length = N) (hN : N ≤ 6) (hr : r ≤ N) (hl : l.length = r) (hcs : cs.take r = (ci l).map (Value.int .i64)) (hq : q < r)
    (hk : ∀ m' cs', (∀ c, c ≠ b → m'.rd c = m.rd c) → m'.next = m.next → m'.rd b = some ⟨1, cs', none⟩ → cs'.length = N → cs'.take (r - 1) = (ci (l.eraseIdx q)).map (Value.int .i64) → k (.slice (some ⟨b, 0, none⟩) (r - 1) N) m' = some ()) :
    runT (tab lf) (n + 1) 69 [.slice (some ⟨b, 0, none⟩) r N, .int .i64 (q : Int), .int .i64 ((q : Int) + 1)] L m k = some () := by
  rw [r69]
  dsimp only [S69, iofNat, inegSucc]
  have hq1 : ((q : Int) + 1) = ((q + 1 : Nat) : Int) := by omega
  rw [hq1]
  obtain ⟨v3, h3⟩ := sl_3 u30 ts3 (b := b) (o := 0) (n := r) (c := N) (i := q) (j := q + 1) (k := r) (by omega) (by omega) hr
  have hne : ¬ ((q : Int) = ((q + 1 : Nat) : Int)) := by omega
  have hbl := Mem.rd_lt hb
  try simp (maxSteps := 4000000) (disch := first | omega | with_unfolding_all exact id rfl | with_unfolding_all exact Nat.le_of_ble_eq_true rfl | (simp only [Mem.push_next, Mem.put_next, List.length_cons, List.length_nil, Nat.zero_add, Nat.reduceAdd, allOne, oneCell, Bool.and_self, Bool.and_true]; first | done | omega)) only [ln_e, h3, hne, sl_hi u30 ts3 (b := b) (o := 0) (n := r) (c := N) (k := q) (by omega), ↓uc_e, ↓un0_e, oOpt_e, oRes_e, oIf_t, oIf_f, oGT_t, oGT_f, oGT_u, oGF_t, oGF_f, oGF_u, oPick_t, oPick_f, oInt_eql, oInt_neq, oInt_lss, oInt_leq, oInt_gtr, oInt_geq, aun_not, aextract_e, fa_e, abox_e, ptrTo, oCallV_e, decide_true, decide_false, Bool.not_true, Bool.not_false, List.getElem?_cons_zero, List.getElem?_cons_succ, List.cons_append, List.nil_append, cells_agg, cells_int, cells_slice, cells_bool, cells_ptr, ld1_u, ldN_u, st1_u, rdo_e, rdn_e, stw_e, anew_eq, Mem.push_next, Mem.put_next, Mem.rd_push, Mem.rd_push_eq, Mem.rd_push_lt, Mem.rd_put_eq, Mem.rd_put, List.take_zero, List.drop_zero, List.take_succ_cons, List.drop_succ_cons, List.drop_nil, List.take_nil, List.append_nil, List.length_cons, List.length_nil, Nat.zero_add, Nat.reduceAdd]
  have hcsq : cs.take q = (ci (l.take q)).map (Value.int .i64) := by
    have := congrArg (List.take q) hcs
    rw [List.take_take, Nat.min_eq_left (by omega)] at this
    rw [this]; simp [ci]
  by_cases hlast : q + 1 = r
  · have hx : ∃ x, sl Tryd.prog 30 (.slice (some ⟨b, 0, none⟩) r N) (some (.int .i64 ((q + 1 : Nat) : Int))) none none = some x ∧ asrc m 1 x = some (0, []) := by
      by_cases hqN : q + 1 = N
      · have hrN : r = N := by omega
        subst hqN
        subst hrN
        exact ⟨_, sl_end u30 ts3 (by omega), rfl⟩
      · refine ⟨_, sl_lo u30 ts3 (b := b) (o := 0) (n := r) (c := N) (k := q + 1) (by omega) (by omega) (by omega) hr, ?_⟩
        rw [show r - (q + 1) = 0 by omega]; rfl
    obtain ⟨x, hx1, hx2⟩ := hx
    obtain ⟨c', hm⟩ := sl_mid u30 ts3 (b := b) (o := 0) (n := q) (c := N) (i := q) (j := r) (by omega) hr (by omega)
    rw [hx1, oOpt_e, aapp_no ael30 hx2 (by omega), oRes_e, ln_e, oOpt_e, hm, oOpt_e, show r - q = 1 by omega, aclear1 hL hb (by omega), oRes_e]
    have h9 : r - 1 = q := by omega
    rw [h9] at hk
    have hlen : (cs.take (0 + q * 1)).length = q := by rw [List.length_take]; omega
    refine hk _ _ (fun c hcb => rd_other hcb) rfl (Mem.rd_put_eq _ _ hbl) ?_ ?_
    · rw [List.length_append, hlen, List.length_append, List.length_drop]; simp; omega
    · rw [List.take_append_of_le_length (by omega), List.take_of_length_le (by omega), show 0 + q * 1 = q by omega, hcsq, erase_take, List.drop_eq_nil_of_le (by omega), List.append_nil]
  · have h5 := sl_lo u30 ts3 (b := b) (o := 0) (n := r) (c := N) (k := q + 1) (by omega) (by omega) (by omega) hr
    have h6 : asrc m 1 (.slice (some ⟨b, 0 + (q + 1) * 1, none⟩) (r - (q + 1)) (N - (q + 1))) = some ((r - (q + 1) - 1) + 1, (ci (l.drop (q + 1))).map (Value.int .i64)) := by
      have h7 : (cs.drop (q + 1)).take (r - (q + 1)) = (ci (l.drop (q + 1))).map (Value.int .i64) := by
        have := congrArg (List.drop (q + 1)) hcs
        rw [List.drop_take] at this
        rw [this]; simp [ci]
      have h8 := (IL.of (x := none) (o := q + 1) (n := r - (q + 1)) (c := N - (q + 1)) hb (by omega) h7).1
      rw [show 0 + (q + 1) * 1 = q + 1 by omega, h8, ci_length, List.length_drop, hl]
      congr 2
      omega
    have h8 : ((ci (l.drop (q + 1))).map (Value.int .i64)).length = r - (q + 1) := by rw [List.length_map, ci_length, List.length_drop, hl]
    rw [h5, oOpt_e, aapp_in ael30 h6 (by omega) (by omega) hL hb (by omega) (allOne_map _), oRes_e, ln_e, oOpt_e, show q + (r - (q + 1) - 1 + 1) = r - 1 by omega]
    obtain ⟨c', hm⟩ := sl_mid u30 ts3 (b := b) (o := 0) (n := r - 1) (c := N) (i := r - 1) (j := r) (by omega) hr (by omega)
    have h9 : (0 + q) + ((ci (l.drop (q + 1))).map (Value.int .i64)).length = r - 1 := by rw [h8]; omega
    rw [h9]
    have h10 : (cs.take (0 + q)).length = q := by rw [List.length_take]; omega
    have h11 : (cs.take (0 + q) ++ ((ci (l.drop (q + 1))).map (Value.int .i64) ++ cs.drop (r - 1))).length = N := by
      rw [List.length_append, h10, List.length_append, h8, List.length_drop]; omega
    have h12 : (cs.take (0 + q) ++ ((ci (l.drop (q + 1))).map (Value.int .i64) ++ cs.drop (r - 1))).take (r - 1) = (ci (l.eraseIdx q)).map (Value.int .i64) := by
      rw [← List.append_assoc, List.take_append_of_le_length (by rw [List.length_append, h10, h8]; omega), List.take_of_length_le (by rw [List.length_append, h10, h8]; omega), Nat.zero_add, hcsq, erase_take]
      simp [ci]
    generalize cs.take (0 + q) ++ ((ci (l.drop (q + 1))).map (Value.int .i64) ++ cs.drop (r - 1)) = cs2 at h11 h12 ⊢
    have hb2 : (m.put b (some ⟨1, cs2, none⟩)).rd b = some ⟨1, cs2, none⟩ := Mem.rd_put_eq _ _ hbl
    have hbl2 := Mem.rd_lt hb2
    rw [hm, oOpt_e, show r - (r - 1) = 1 by omega, show 0 + (r - 1) * 1 = r - 1 by omega, aclear1 hL hb2 (by omega), oRes_e]
    have h13 : (cs2.take (r - 1)).length = r - 1 := by rw [List.length_take]; omega
    refine hk _ _ (fun c hcb => (rd_other hcb).trans (rd_other hcb)) rfl (Mem.rd_put_eq _ _ hbl2) ?_ ?_
    · rw [List.length_append, h13, List.length_append, List.length_drop]; simp; omega
    · rw [List.take_append_of_le_length (by omega), List.take_of_length_le (by omega), h12]
/-- A part is divided in two, or why not. -/
theorem divide_sp {i : Nat} {v : Value} {l : List Nat} (hlf : 1000000 ≤ lf) (hL : L ≤ m.next) (hv : IN m v l) (hl : Val l) (hi : i ≤ l.length)
    (hnone : i = l.length → k (.tuple ⟨[.slice none 0 0, .int .i64 2]⟩) m = some ())
    (hmany : i < l.length → l.length = 4 → k (.tuple ⟨[.slice none 0 0, .int .i64 3]⟩) m = some ())
    (hover : (h : i < l.length) → l.length < 4 → 2000 < l[i] * (l[i] + 1) → k (.tuple ⟨[.slice none 0 0, .int .i64 15]⟩) m = some ())
    (htwice : (h : i < l.length) → l.length < 4 → l[i] * (l[i] + 1) ≤ 2000 → (l[i] + 1 ∈ l ∨ l[i] * (l[i] + 1) ∈ l) → k (.tuple ⟨[.slice none 0 0, .int .i64 6]⟩) m = some ())
    (hok : (h : i < l.length) → l.length < 4 → l[i] * (l[i] + 1) ≤ 2000 → l[i] + 1 ∉ l → l[i] * (l[i] + 1) ∉ l → ∀ u m' l', Gt m m' → GN m.next m' u l' → Val l' → l'.Perm (l.eraseIdx i ++ [l[i] + 1, l[i] * (l[i] + 1)]) →
      k (.tuple ⟨[u, .int .i64 0]⟩) m' = some ()) :
    runT (tab lf) (n + 6) 34 [v, .int .i64 (i : Int)] L m k = some () := by
  have hlen := hl.len
  rw [r34]; dsimp only [S34, iofNat, inegSucc]
  try simp (disch := first | omega | with_unfolding_all exact id rfl | with_unfolding_all exact Nat.le_of_ble_eq_true rfl | (simp only [Mem.push_next, Mem.put_next, List.length_cons, List.length_nil, Nat.zero_add, Nat.reduceAdd, allOne, oneCell, Bool.and_self, Bool.and_true]; first | done | omega)) only [↓uc_e, ↓un0_e, ↓join_e, oOpt_e, oRes_e, oIf_t, oIf_f, oGT_t, oGT_f, oGT_u, oGF_t, oGF_f, oGF_u, oPick_t, oPick_f, oInt_eql, oInt_neq, oInt_lss, oInt_leq, oInt_gtr, oInt_geq, aun_not, aextract_e, fa_e, abox_e, ptrTo, oCallV_e, decide_true, decide_false, Bool.not_true, Bool.not_false, List.getElem?_cons_zero, List.getElem?_cons_succ, List.cons_append, List.nil_append, cells_agg, cells_int, cells_slice, cells_bool, cells_ptr, ld1_u, ldN_u, st1_u, rdo_e, rdn_e, stw_e, anew_eq, Mem.push_next, Mem.put_next, Mem.rd_push, Mem.rd_push_eq, Mem.rd_push_lt, Mem.rd_put_eq, Mem.rd_put, List.take_zero, List.drop_zero, List.take_succ_cons, List.drop_succ_cons, List.drop_nil, List.take_nil, List.append_nil, List.length_cons, List.length_nil, Nat.zero_add, Nat.reduceAdd]
  refine check_ok hlf hv hl ?_
  try simp (disch := first | omega | with_unfolding_all exact id rfl | with_unfolding_all exact Nat.le_of_ble_eq_true rfl | (simp only [Mem.push_next, Mem.put_next, List.length_cons, List.length_nil, Nat.zero_add, Nat.reduceAdd, allOne, oneCell, Bool.and_self, Bool.and_true]; first | done | omega)) only [hv.ln, ↓uc_e, ↓un0_e, ↓join_e, oOpt_e, oRes_e, oIf_t, oIf_f, oGT_t, oGT_f, oGT_u, oGF_t, oGF_f, oGF_u, oPick_t, oPick_f, oInt_eql, oInt_neq, oInt_lss, oInt_leq, oInt_gtr, oInt_geq, aun_not, aextract_e, fa_e, abox_e, ptrTo, oCallV_e, decide_true, decide_false, Bool.not_true, Bool.not_false, List.getElem?_cons_zero, List.getElem?_cons_succ, List.cons_append, List.nil_append, cells_agg, cells_int, cells_slice, cells_bool, cells_ptr, ld1_u, ldN_u, st1_u, rdo_e, rdn_e, stw_e, anew_eq, Mem.push_next, Mem.put_next, Mem.rd_push, Mem.rd_push_eq, Mem.rd_push_lt, Mem.rd_put_eq, Mem.rd_put, List.take_zero, List.drop_zero, List.take_succ_cons, List.drop_succ_cons, List.drop_nil, List.take_nil, List.append_nil, List.length_cons, List.length_nil, Nat.zero_add, Nat.reduceAdd]
  rw [oInt_sub ⟨by omega, by omega⟩]
  refine within_sp ?_
  by_cases hin : i = l.length
  · rw [decide_eq_false (by omega)]
    try simp (disch := first | omega | with_unfolding_all exact id rfl | with_unfolding_all exact Nat.le_of_ble_eq_true rfl | (simp only [Mem.push_next, Mem.put_next, List.length_cons, List.length_nil, Nat.zero_add, Nat.reduceAdd, allOne, oneCell, Bool.and_self, Bool.and_true]; first | done | omega)) only [↓uc_e, ↓un0_e, ↓join_e, oOpt_e, oRes_e, oIf_t, oIf_f, oGT_t, oGT_f, oGT_u, oGF_t, oGF_f, oGF_u, oPick_t, oPick_f, oInt_eql, oInt_neq, oInt_lss, oInt_leq, oInt_gtr, oInt_geq, aun_not, aextract_e, fa_e, abox_e, ptrTo, oCallV_e, decide_true, decide_false, Bool.not_true, Bool.not_false, List.getElem?_cons_zero, List.getElem?_cons_succ, List.cons_append, List.nil_append, cells_agg, cells_int, cells_slice, cells_bool, cells_ptr, ld1_u, ldN_u, st1_u, rdo_e, rdn_e, stw_e, anew_eq, Mem.push_next, Mem.put_next, Mem.rd_push, Mem.rd_push_eq, Mem.rd_push_lt, Mem.rd_put_eq, Mem.rd_put, List.take_zero, List.drop_zero, List.take_succ_cons, List.drop_succ_cons, List.drop_nil, List.take_nil, List.append_nil, List.length_cons, List.length_nil, Nat.zero_add, Nat.reduceAdd]
    exact hnone hin
  have hil : i < l.length := by omega
  rw [decide_eq_true ⟨by omega, by omega⟩]
  try simp (disch := first | omega | with_unfolding_all exact id rfl | with_unfolding_all exact Nat.le_of_ble_eq_true rfl | (simp only [Mem.push_next, Mem.put_next, List.length_cons, List.length_nil, Nat.zero_add, Nat.reduceAdd, allOne, oneCell, Bool.and_self, Bool.and_true]; first | done | omega)) only [hv.ln, ↓uc_e, ↓un0_e, ↓join_e, oOpt_e, oRes_e, oIf_t, oIf_f, oGT_t, oGT_f, oGT_u, oGF_t, oGF_f, oGF_u, oPick_t, oPick_f, oInt_eql, oInt_neq, oInt_lss, oInt_leq, oInt_gtr, oInt_geq, aun_not, aextract_e, fa_e, abox_e, ptrTo, oCallV_e, decide_true, decide_false, Bool.not_true, Bool.not_false, List.getElem?_cons_zero, List.getElem?_cons_succ, List.cons_append, List.nil_append, cells_agg, cells_int, cells_slice, cells_bool, cells_ptr, ld1_u, ldN_u, st1_u, rdo_e, rdn_e, stw_e, anew_eq, Mem.push_next, Mem.put_next, Mem.rd_push, Mem.rd_push_eq, Mem.rd_push_lt, Mem.rd_put_eq, Mem.rd_put, List.take_zero, List.drop_zero, List.take_succ_cons, List.drop_succ_cons, List.drop_nil, List.take_nil, List.append_nil, List.length_cons, List.length_nil, Nat.zero_add, Nat.reduceAdd]
  refine oIf_dec (fun h4 => hmany hil (by omega)) (fun h4 => ?_)
  have hl4 : l.length < 4 := by omega
  have hr := hl.rng _ (List.getElem_mem hil)
  have hub : l[i] * (l[i] + 1) ≤ 2000 * 2001 := Nat.mul_le_mul hr.2 (by omega)
  have hadd : ∀ K : Value → Option Unit, oInt .add .i64 (.int .i64 (l[i] : Int)) (.int .i64 1) K = K (.int .i64 ((l[i] + 1 : Nat) : Int)) := fun K => by rw [oInt_add ⟨by omega, by omega⟩]; rfl
  rw [hv.ia hil, oOpt_e, hv.ld hil, oOpt_e, hadd, oInt_mulN (by omega), oInt_gtr]
  refine oIf_dec (fun h5 => hover hil hl4 (by omega)) (fun h5 => ?_)
  have hqm : l[i] * (l[i] + 1) ≤ 2000 := by omega
  rw [hadd]
  refine contains_sp hlf hv (by omega) ?_
  have hfin : ∀ m', m' = m → (l[i] + 1 ∈ l ∨ l[i] * (l[i] + 1) ∈ l → k (.tuple ⟨[.slice none 0 0, .int .i64 6]⟩) m' = some ()) := fun m' e h => by subst e; exact htwice hil hl4 hqm h
  by_cases hc1 : l[i] + 1 ∈ l
  · rw [decide_eq_true hc1]
    try simp (disch := first | omega | with_unfolding_all exact id rfl | with_unfolding_all exact Nat.le_of_ble_eq_true rfl | (simp only [Mem.push_next, Mem.put_next, List.length_cons, List.length_nil, Nat.zero_add, Nat.reduceAdd, allOne, oneCell, Bool.and_self, Bool.and_true]; first | done | omega)) only [↓uc_e, ↓un0_e, ↓join_e, oOpt_e, oRes_e, oIf_t, oIf_f, oGT_t, oGT_f, oGT_u, oGF_t, oGF_f, oGF_u, oPick_t, oPick_f, oInt_eql, oInt_neq, oInt_lss, oInt_leq, oInt_gtr, oInt_geq, aun_not, aextract_e, fa_e, abox_e, ptrTo, oCallV_e, decide_true, decide_false, Bool.not_true, Bool.not_false, List.getElem?_cons_zero, List.getElem?_cons_succ, List.cons_append, List.nil_append, cells_agg, cells_int, cells_slice, cells_bool, cells_ptr, ld1_u, ldN_u, st1_u, rdo_e, rdn_e, stw_e, anew_eq, Mem.push_next, Mem.put_next, Mem.rd_push, Mem.rd_push_eq, Mem.rd_push_lt, Mem.rd_put_eq, Mem.rd_put, List.take_zero, List.drop_zero, List.take_succ_cons, List.drop_succ_cons, List.drop_nil, List.take_nil, List.append_nil, List.length_cons, List.length_nil, Nat.zero_add, Nat.reduceAdd]
    exact htwice hil hl4 hqm (.inl hc1)
  rw [decide_eq_false hc1]
  try simp (disch := first | omega | with_unfolding_all exact id rfl | with_unfolding_all exact Nat.le_of_ble_eq_true rfl | (simp only [Mem.push_next, Mem.put_next, List.length_cons, List.length_nil, Nat.zero_add, Nat.reduceAdd, allOne, oneCell, Bool.and_self, Bool.and_true]; first | done | omega)) only [↓uc_e, ↓un0_e, ↓join_e, oOpt_e, oRes_e, oIf_t, oIf_f, oGT_t, oGT_f, oGT_u, oGF_t, oGF_f, oGF_u, oPick_t, oPick_f, oInt_eql, oInt_neq, oInt_lss, oInt_leq, oInt_gtr, oInt_geq, aun_not, aextract_e, fa_e, abox_e, ptrTo, oCallV_e, decide_true, decide_false, Bool.not_true, Bool.not_false, List.getElem?_cons_zero, List.getElem?_cons_succ, List.cons_append, List.nil_append, cells_agg, cells_int, cells_slice, cells_bool, cells_ptr, ld1_u, ldN_u, st1_u, rdo_e, rdn_e, stw_e, anew_eq, Mem.push_next, Mem.put_next, Mem.rd_push, Mem.rd_push_eq, Mem.rd_push_lt, Mem.rd_put_eq, Mem.rd_put, List.take_zero, List.drop_zero, List.take_succ_cons, List.drop_succ_cons, List.drop_nil, List.take_nil, List.append_nil, List.length_cons, List.length_nil, Nat.zero_add, Nat.reduceAdd]
  refine contains_sp hlf hv (by omega) ?_
  by_cases hc2 : l[i] * (l[i] + 1) ∈ l
  · rw [decide_eq_true hc2]
    try simp (disch := first | omega | with_unfolding_all exact id rfl | with_unfolding_all exact Nat.le_of_ble_eq_true rfl | (simp only [Mem.push_next, Mem.put_next, List.length_cons, List.length_nil, Nat.zero_add, Nat.reduceAdd, allOne, oneCell, Bool.and_self, Bool.and_true]; first | done | omega)) only [↓uc_e, ↓un0_e, ↓join_e, oOpt_e, oRes_e, oIf_t, oIf_f, oGT_t, oGT_f, oGT_u, oGF_t, oGF_f, oGF_u, oPick_t, oPick_f, oInt_eql, oInt_neq, oInt_lss, oInt_leq, oInt_gtr, oInt_geq, aun_not, aextract_e, fa_e, abox_e, ptrTo, oCallV_e, decide_true, decide_false, Bool.not_true, Bool.not_false, List.getElem?_cons_zero, List.getElem?_cons_succ, List.cons_append, List.nil_append, cells_agg, cells_int, cells_slice, cells_bool, cells_ptr, ld1_u, ldN_u, st1_u, rdo_e, rdn_e, stw_e, anew_eq, Mem.push_next, Mem.put_next, Mem.rd_push, Mem.rd_push_eq, Mem.rd_push_lt, Mem.rd_put_eq, Mem.rd_put, List.take_zero, List.drop_zero, List.take_succ_cons, List.drop_succ_cons, List.drop_nil, List.take_nil, List.append_nil, List.length_cons, List.length_nil, Nat.zero_add, Nat.reduceAdd]
    exact htwice hil hl4 hqm (.inr hc2)
  rw [decide_eq_false hc2]
  try simp (disch := first | omega | with_unfolding_all exact id rfl | with_unfolding_all exact Nat.le_of_ble_eq_true rfl | (simp only [Mem.push_next, Mem.put_next, List.length_cons, List.length_nil, Nat.zero_add, Nat.reduceAdd, allOne, oneCell, Bool.and_self, Bool.and_true]; first | done | omega)) only [↓uc_e, ↓un0_e, ↓join_e, oOpt_e, oRes_e, oIf_t, oIf_f, oGT_t, oGT_f, oGT_u, oGF_t, oGF_f, oGF_u, oPick_t, oPick_f, oInt_eql, oInt_neq, oInt_lss, oInt_leq, oInt_gtr, oInt_geq, aun_not, aextract_e, fa_e, abox_e, ptrTo, oCallV_e, decide_true, decide_false, Bool.not_true, Bool.not_false, List.getElem?_cons_zero, List.getElem?_cons_succ, List.cons_append, List.nil_append, cells_agg, cells_int, cells_slice, cells_bool, cells_ptr, ld1_u, ldN_u, st1_u, rdo_e, rdn_e, stw_e, anew_eq, Mem.push_next, Mem.put_next, Mem.rd_push, Mem.rd_push_eq, Mem.rd_push_lt, Mem.rd_put_eq, Mem.rd_put, List.take_zero, List.drop_zero, List.take_succ_cons, List.drop_succ_cons, List.drop_nil, List.take_nil, List.append_nil, List.length_cons, List.length_nil, Nat.zero_add, Nat.reduceAdd]
  refine clone_sp hL hv (by omega) (by omega) fun u1 m1 e1 hu1 => ?_
  have e1n := e1.next
  rcases hu1 with ⟨_, h0, _⟩ | ⟨b, hb, rfl, hrb, hcl, hcn⟩
  · rw [ci_length] at h0; omega
  rw [ci_length] at hcl hcn ⊢
  rw [oInt_add ⟨by omega, by omega⟩]
  refine delete_sp (l := l) hlf (by omega) hrb (by simpa using hcl) (by omega) (Nat.le_refl _) rfl ?_ hil fun m2 cs2 hk2 hn2 hb2 hcl2 hct2 => ?_
  · rw [List.take_of_length_le (by simp [ci])]
  rw [hadd, bs302, oRes_e]
  have hel : (l.eraseIdx i).length = l.length - 1 := by rw [List.length_eraseIdx, if_pos hil]
  have hbl2 := Mem.rd_lt hb2
  have gp := Mem.gt_push m2 ⟨1, [.int .i64 ((l[i] + 1 : Nat) : Int), .int .i64 ((l[i] * (l[i] + 1) : Nat) : Int)], none⟩
  have hb3 := (gp.kept b hbl2).trans hb2
  have hx3 : asrc (m2.push ⟨1, [.int .i64 ((l[i] + 1 : Nat) : Int), .int .i64 ((l[i] * (l[i] + 1) : Nat) : Int)], none⟩) 1 (slTo 2 m2.next) = some (1 + 1, [.int .i64 ((l[i] + 1 : Nat) : Int), .int .i64 ((l[i] * (l[i] + 1) : Nat) : Int)]) :=
    (Gs.sl (L := m2.next) (n := 2) (.inr ⟨m2.next, Nat.le_refl _, rfl, Mem.rd_push _ _, rfl, by omega⟩)).1
  rw [aapp_grow ael30 hx3 (by omega) (by omega) (roomy_of (by omega) (by omega)) (by omega) hb3 hcl2 rfl, oRes_e]
  have hgt : Gt m (((m2.push ⟨1, [.int .i64 ((l[i] + 1 : Nat) : Int), .int .i64 ((l[i] * (l[i] + 1) : Nat) : Int)], none⟩).put b none).push ⟨1, cs2.take (l.length - 1) ++ [.int .i64 ((l[i] + 1 : Nat) : Int), .int .i64 ((l[i] * (l[i] + 1) : Nat) : Int)], none⟩) := by
    have h1 : Gt m m2 := ⟨by omega, fun c hc => (hk2 c (by omega)).trans (e1.kept c hc)⟩
    exact ((Mem.put_gt (h1.trans gp) none (by omega)).trans (Mem.gt_push _ _))
  have hgn : GN (m2.next + 1) (((m2.push ⟨1, [.int .i64 ((l[i] + 1 : Nat) : Int), .int .i64 ((l[i] * (l[i] + 1) : Nat) : Int)], none⟩).put b none).push ⟨1, cs2.take (l.length - 1) ++ [.int .i64 ((l[i] + 1 : Nat) : Int), .int .i64 ((l[i] * (l[i] + 1) : Nat) : Int)], none⟩) (slTo (l.length - 1 + (1 + 1)) (m2.push ⟨1, [.int .i64 ((l[i] + 1 : Nat) : Int), .int .i64 ((l[i] * (l[i] + 1) : Nat) : Int)], none⟩).next) (l.eraseIdx i ++ [l[i] + 1, l[i] * (l[i] + 1)]) := by
    have h2 : cs2.take (l.length - 1) ++ [.int .i64 ((l[i] + 1 : Nat) : Int), .int .i64 ((l[i] * (l[i] + 1) : Nat) : Int)] = (ci (l.eraseIdx i ++ [l[i] + 1, l[i] * (l[i] + 1)])).map (Value.int .i64) := by
      rw [hct2]; simp [ci]
    have h3 : (ci (l.eraseIdx i ++ [l[i] + 1, l[i] * (l[i] + 1)])).length = l.length - 1 + (1 + 1) := by rw [ci_length, List.length_append, hel]; rfl
    rw [h2]
    refine .inr ⟨_, ?_, ?_, Mem.rd_push _ _, ?_, by omega⟩
    · rw [Mem.put_next, Mem.push_next]
      omega
    · rw [h3]; rfl
    · rw [List.length_map, Nat.mul_one]
  generalize ((m2.push ⟨1, [.int .i64 ((l[i] + 1 : Nat) : Int), .int .i64 ((l[i] * (l[i] + 1) : Nat) : Int)], none⟩).put b none).push ⟨1, cs2.take (l.length - 1) ++ [.int .i64 ((l[i] + 1 : Nat) : Int), .int .i64 ((l[i] * (l[i] + 1) : Nat) : Int)], none⟩ = m3 at hgt hgn ⊢
  generalize slTo (l.length - 1 + (1 + 1)) (m2.push ⟨1, [.int .i64 ((l[i] + 1 : Nat) : Int), .int .i64 ((l[i] * (l[i] + 1) : Nat) : Int)], none⟩).next = u3 at hgn ⊢
  rw [r71]
  refine sort_sp (L0 := m2.next + 1) (m0 := m) hgn (by omega) hgt (by omega) (by rw [ci_length, List.length_append, hel]; simp; omega) fun m4 e4 h4 _ _ => ?_
  obtain ⟨l', hl', hp', hs'⟩ := isort_nat (l.eraseIdx i ++ [l[i] + 1, l[i] * (l[i] + 1)])
  rw [hl'] at h4
  refine hok hil hl4 hqm hc1 hc2 u3 m4 l' e4 (GN.le h4 (by omega)) (val_of hp' hs' ?_ ?_ ?_) hp'
  · rw [List.length_append, hel]; simp; omega
  · exact nodup_div hl hil hc1 hc2
  · intro p hp
    rcases List.mem_append.1 hp with hp | hp
    · exact hl.rng p (List.mem_of_mem_eraseIdx hp)
    · have h7 : 2 * (2 + 1) ≤ l[i] * (l[i] + 1) := Nat.mul_le_mul hr.1 (by omega)
      have h8 : l[i] * 1 ≤ l[i] * (l[i] + 1) := Nat.mul_le_mul_left _ (by omega)
      have h9 : l[i] + 1 ≤ 2000 := by
        have : 2 * (l[i] + 1) ≤ l[i] * (l[i] + 1) := Nat.mul_le_mul_right _ hr.1
        omega
      simp at hp
      rcases hp with rfl | rfl
      · omega
      · omega
end
end Go.Vit
