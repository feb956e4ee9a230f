/- The law ShadeWidest: its walk. -/
import Derived.Test.YtffomiamkiakcaaW14
import Derived.Test.YtffomiamkiakcaaP8
set_option linter.unusedSimpArgs false
set_option linter.unusedVariables false
set_option maxRecDepth 20000
namespace Go.Vit
open Go Go.Proofs
attribute [local irreducible] runT loopS
theorem neqb (x : Int) : decide (x = x) = true := decide_eq_true rfl
theorem bs552 (m : Mem) : bs Try.prog m 55 2 [(0, .bool false), (1, .bool true)] = some (slTo 2 m.next, m.push ⟨1, [.bool false, .bool true], none⟩) :=
  (show _ = anew m 1 [.bool false, .bool true] (slTo 2) by kernel_rfl).trans (anew_eq ..)
theorem halfS_bd {s : List Int} (hs : ∀ x ∈ s, 0 ≤ x ∧ x ≤ 60) : ∀ i, i ≤ s.length / 2 → -(60 * (i : Int)) ≤ halfS s i ∧ halfS s i ≤ 60 * (i : Int)
  | 0, _ => by simp [halfS]
  | i + 1, h => by
    have ih := halfS_bd hs i (by omega)
    have h1 : s.length - 1 - i < s.length := by omega
    have h2 : i < s.length := by omega
    have e1 : s.getD (s.length - 1 - i) 0 = s[s.length - 1 - i] := by rw [List.getD_eq_getElem?_getD, List.getElem?_eq_getElem h1]; rfl
    have e2 : s.getD i 0 = s[i] := by rw [List.getD_eq_getElem?_getD, List.getElem?_eq_getElem h2]; rfl
    have b1 := hs _ (List.getElem_mem h1)
    have b2 := hs _ (List.getElem_mem h2)
    show -(60 * ((i + 1 : Nat) : Int)) ≤ halfS s i + (s.getD (s.length - 1 - i) 0 - s.getD i 0) ∧ halfS s i + (s.getD (s.length - 1 - i) 0 - s.getD i 0) ≤ _
    rw [e1, e2]
    omega
section
variable {lf n L : Nat} {m : Mem} {k : Value → Mem → Option Unit}
theorem values_sp {v : Value} {l : List Int} (hv : IL m v l) (hk : ∀ m', Gt m m' → m'.rd m.next = some ⟨1, [v], none⟩ → k (.func (.func 89) #[] ⟨[.pointer (some ⟨m.next, 0, none⟩)]⟩) m' = some ()) : runT (tab lf) (n + 1) 50 [v] L m k = some () := by
  rw [r50]; dsimp only [S50, iofNat, inegSucc]
  obtain ⟨p, c, hvx⟩ := hv.ex
  have hab : abox m v = some (ptrTo m.next, m.push ⟨1, [v], none⟩) := by rw [hvx]; exact abox_e _ _
  rw [uc_e, un0_e, hab, oRes_e]
  exact hk _ (Mem.gt_push _ _) (Mem.rd_push _ _)
set_option maxHeartbeats 8000000 in
theorem widestL_sp {a0 : Nat} {gl : List Nat} (hlf : 1000000 ≤ lf) (hL : L ≤ m.next) (hT : TabOk mTab m) (h0 : a0 < 256) (hlen : gl.length = 7) (hg : ∀ g ∈ gl, g < 256)
    (hk : ∀ m', Gt m m' → k (.bool true) m' = some ()) : runT (tab lf) (n + 60) 10 [trayV a0 gl] L m k = some () := by
  rw [r10]; dsimp only [S10, iofNat, inegSucc]
  have hl8 : (Value.int .u8 (a0 : Int) :: gl.map (fun (g : Nat) => Value.int .u8 (g : Int))).length = 8 := by simp [hlen]
  have hrd := rdn_all (s := 1) hl8
  unfold trayV
  try simp (disch := first | omega | with_unfolding_all exact id rfl | with_unfolding_all exact Nat.le_of_ble_eq_true rfl | (simp only [Jd, Je, Jr, Js, Jt, Nat.reduceAdd, allOne, oneCell, Bool.and_self, Jc]; first | done | omega)) only [hrd, ↓Qa, ↓Qb, Qd, Qe, Qf, Qg, Qh, Qi, Qj, Qk, Ql, Qm, Qn, Qo, Qp, Qq, Qr, Qs, Qt, Qu, Qv, Qw, Qx, Qy, ptrTo, Qz, QA, QB, QC, QD, QE, QF, QG, QH, QI, QJ, QK, QL, QM, QN, QO, QP, QQ, QR, QS, QT, QU, QV, QW, QX, QY, QZ, Ja, Jb, Jc, Jd, Je, Jf, Jg, Jh, Ji, Jj, Jk, Jl, Jm, Jn, Jo, Jp, Jq, Jr, Js, Jt, Nat.reduceAdd]
  have e1 := Mem.gt_push m ⟨1, .int .u8 (a0 : Int) :: gl.map (fun (g : Nat) => .int .u8 (g : Int)), none⟩
  generalize m.push ⟨1, .int .u8 (a0 : Int) :: gl.map (fun (g : Nat) => .int .u8 (g : Int)), none⟩ = m1 at e1 ⊢
  have n1 := e1.next
  refine made_sp (a0 := a0) (gl := gl) (most := 6) hlf (by omega) h0 hlen hg (by omega) (by omega) fun u m2 e2 hu => ?_
  have n2 := e2.next
  have e02 := e1.trans e2
  obtain ⟨l1, l6⟩ := madeT_len (a0 := a0) (most := 6) hlen (by omega) (by omega)
  have hc := madeT_ok (a0 := a0) (most := 6) hlen (by omega) (by omega)
  have hbd : ∀ z ∈ madeT a0 gl 6, 0 ≤ z ∧ z ≤ 60 := madeT_bd
  generalize madeT a0 gl 6 = l at hu l1 l6 hc hbd
  refine values_sp hu.il fun m3 e3 q3 => ?_
  have n3 := e3.next
  refine sorted_sp hlf (by omega) q3 (hu.il.mono e3) (by omega) fun us m4 e4 hus => ?_
  have n4 := e4.next
  have e24 := e3.trans e4
  have hu4 := hu.il.mono e24
  have hil := isortI_length l
  have hss := isortI_sorted l
  have hsp := isortI_perm l
  have hmem : ∀ y ∈ isortI l, 0 ≤ y ∧ y ≤ 60 := fun y hy => hbd y (hsp.mem_iff.1 hy)
  rw [hu4.ln, oOpt_e, oInt_quo (by omega) (by omega) (by omega), show (l.length : Int) / 2 = ((l.length / 2 : Nat) : Int) by omega]
  refine loop_up (l.length / 2) (fun i vs m' => vs = [.int .i64 (halfS (isortI l) i), .int .i64 (i : Int)] ∧ m' = m4) (by omega) ⟨rfl, rfl⟩ ?_
  rintro i vs m' hi ⟨rfl, hm4⟩ self hself
  have hhb := halfS_bd hmem i (by omega)
  rw [uc_e, uc_e, oInt_lss]
  refine oIf_dec (fun h => ?_) (fun h => ?_)
  · have hi1 : i < (isortI l).length := by omega
    have hi2 : l.length - 1 - i < (isortI l).length := by omega
    have b1 := hmem _ (List.getElem_mem hi1)
    have b2 := hmem _ (List.getElem_mem hi2)
    have hus' : IL m' us (isortI l) := by rw [hm4]; exact hus.il
    try rw [hu4.ln]
    try rw [oOpt_e]
    rw [oInt_sub ⟨by omega, by omega⟩, oInt_sub ⟨by omega, by omega⟩, show (l.length : Int) - 1 - (i : Int) = ((l.length - 1 - i : Nat) : Int) by omega, hus'.ia hi2, oOpt_e, hus'.ld hi2, oOpt_e, hus'.ia hi1, oOpt_e, hus'.ld hi1, oOpt_e, oInt_sub ⟨by omega, by omega⟩, oInt_add ⟨by omega, by omega⟩, oInt_add ⟨by omega, by omega⟩]
    refine hself (by omega) _ _ ⟨?_, hm4⟩
    have e1 : (isortI l).getD (l.length - 1 - i) 0 = (isortI l)[l.length - 1 - i] := by rw [List.getD_eq_getElem?_getD, List.getElem?_eq_getElem hi2]; rfl
    have e2 : (isortI l).getD i 0 = (isortI l)[i] := by rw [List.getD_eq_getElem?_getD, List.getElem?_eq_getElem hi1]; rfl
    have e3 : halfS (isortI l) (i + 1) = halfS (isortI l) i + ((isortI l).getD ((isortI l).length - 1 - i) 0 - (isortI l).getD i 0) := rfl
    rw [e3, hil, e1, e2]; rfl
  · have hin : i = l.length / 2 := by omega
    clear hself
    subst hin
    subst hm4
    rw [bs552, oRes_e]
    have f5 := Mem.gt_push m' ⟨1, [.int .i64 0, .int .i64 0], none⟩
    have qf5 : (m'.push ⟨1, [.int .i64 0, .int .i64 0], none⟩).rd m'.next = some ⟨1, [.int .i64 0, .int .i64 0], none⟩ := Mem.rd_push _ _
    have n5 : (m'.push ⟨1, [.int .i64 0, .int .i64 0], none⟩).next = m'.next + 1 := Mem.push_next _ _
    generalize m'.push ⟨1, [.int .i64 0, .int .i64 0], none⟩ = m5 at f5 qf5 n5 ⊢
    have f6 := Mem.gt_push m5 ⟨1, [.bool false, .bool true], none⟩
    have qb6 : (m5.push ⟨1, [.bool false, .bool true], none⟩).rd m5.next = some ⟨1, [.bool false, .bool true], none⟩ := Mem.rd_push _ _
    have n6 : (m5.push ⟨1, [.bool false, .bool true], none⟩).next = m5.next + 1 := Mem.push_next _ _
    generalize m5.push ⟨1, [.bool false, .bool true], none⟩ = m6 at f6 qb6 n6 ⊢
    have f56 := f5.trans f6
    have hus6 := hus.il.mono f56
    have hu6 := hu4.mono f56
    have qf6 := (f6.kept _ (by omega)).trans qf5
    have hsl : Sl 1 m6 (slTo 2 m5.next) 2 [.bool false, .bool true] := Gs.sl (L := m5.next) (.inr ⟨m5.next, Nat.le_refl _, rfl, qb6, rfl, by omega⟩)
    have hln : ln (slTo 2 m5.next) = some (.int .i64 ((2 : Nat) : Int)) := hsl.ln
    rw [hln, oOpt_e]
    have E6 := (e02.trans e24).trans f56
    have hfnd : ∀ i, i ≤ 2 → True := fun _ _ => trivial
    refine loop_up 2 (fun i vs m' => vs = [.int .i64 (i : Int)] ∧ GtX (fun c => c = m5.next - 1) m6 m' ∧ m'.rd (m5.next - 1) = some ⟨1, [.int .i64 (if 1 ≤ i then mostX l false else 0), .int .i64 (if 2 ≤ i then mostX l true else 0)], none⟩) (by omega) ⟨rfl, GtX.refl _, by rw [show m5.next - 1 = m'.next by omega]; exact qf6⟩ ?_
    rintro i vs m7 hi2 ⟨rfl, e7, qf7⟩ self hself
    have n7 := e7.next
    have hfe : m5.next - 1 = m'.next := by omega
    rw [hfe] at hself e7 qf7
    rw [uc_e, oInt_lss]
    refine oIf_dec (fun h2 => ?_) (fun h2 => ?_)
    · have hi3 : i < 2 := by omega
      have hub := hus.bid_lt
      have hubu := hu.bid_lt
      have hsl7 : Sl 1 m7 (slTo 2 m5.next) 2 [.bool false, .bool true] := hsl.keep fun c hc => e7.kept c (by cases hc; omega) (by cases hc; omega)
      obtain ⟨r, hr⟩ : ∃ r : Bool, ([.bool false, .bool true] : List Value)[i]? = some (.bool r) ∧ r = decide (i = 1) := by
        match i, hi3 with
        | 0, _ => exact ⟨false, rfl, rfl⟩
        | 1, _ => exact ⟨true, rfl, rfl⟩
      obtain ⟨hr1, hr2⟩ := hr
      rw [hsl7.ia hi3, oOpt_e, hsl7.ld hi3 hr1, oOpt_e]
      -- three cells
      have cell : ∀ (M : Mem) (z v : Value), L ≤ M.next → oneCell v = true → stw 1 L (M.push ⟨1, [z], none⟩) M.next 0 [v] (some ⟨1, [z], none⟩) = some (Go.undef, (M.push ⟨1, [z], none⟩).put M.next (some ⟨1, [v], none⟩)) := by
        intro M z v hM hv2
        exact stw_e hM rfl (Nat.le_refl _) (by simp [allOne, hv2])
      have cellF : ∀ (M : Mem) (z v : Value), Gt M ((M.push ⟨1, [z], none⟩).put M.next (some ⟨1, [v], none⟩)) ∧ ((M.push ⟨1, [z], none⟩).put M.next (some ⟨1, [v], none⟩)).rd M.next = some ⟨1, [v], none⟩ ∧ ((M.push ⟨1, [z], none⟩).put M.next (some ⟨1, [v], none⟩)).next = M.next + 1 := fun M z v =>
        ⟨Mem.put_gt (Mem.gt_push _ _) _ (Nat.le_refl _), Mem.rd_put_eq _ _ (by rw [Mem.push_next]; omega), rfl⟩
      rw [cells_bool, cell _ _ _ (by omega) rfl, oRes_e]
      obtain ⟨g8, q8, n8⟩ := cellF m7 (.bool false) (.bool r)
      generalize (m7.push ⟨1, [.bool false], none⟩).put m7.next (some ⟨1, [.bool r], none⟩) = m8 at g8 q8 n8 ⊢
      rw [show (-(0 + 1) : Int) = -1 from rfl]
      rw [cell _ _ _ (by omega) rfl, oRes_e]
      obtain ⟨g9, q9, n9⟩ := cellF m8 (.int .i64 0) (.int .i64 (-1))
      generalize (m8.push ⟨1, [.int .i64 0], none⟩).put m8.next (some ⟨1, [.int .i64 (-1)], none⟩) = m9 at g9 q9 n9 ⊢
      have g10 := Mem.gt_push m9 ⟨1, [.slice none 0 0], none⟩
      have q10 : (m9.push ⟨1, [.slice none 0 0], none⟩).rd m9.next = some ⟨1, [.slice none 0 0], none⟩ := Mem.rd_push _ _
      have n10 : (m9.push ⟨1, [.slice none 0 0], none⟩).next = m9.next + 1 := Mem.push_next _ _
      generalize m9.push ⟨1, [.slice none 0 0], none⟩ = m10 at g10 q10 n10 ⊢
      have g710 := (g8.trans g9).trans g10
      have hus7 : IL m7 us (isortI l) := hus6.keep fun c hc => e7.kept c (by have := hub c hc; omega) fun hx => by have := hub c hc; omega
      have hus10 := hus7.mono g710
      have hu7 : IL m7 u l := hu6.keep fun c hc => e7.kept c (by have := hubu c hc; omega) fun hx => by have := hubu c hc; omega
      have qr10 := ((g9.trans g10).kept _ (by omega)).trans q8
      rw [show n + 59 = (n + (54 - (isortI l).length)) + (isortI l).length + (3 + 2) by omega]
      refine all51_sp (X := fun c => c = m8.next ∨ c = m9.next) (J := wstJ r m8.next m9.next) hlf (by omega) hss (by omega) hmem (fun c hc => by rcases hc with rfl | rfl <;> omega) hus10 (fun c hc hx => by have := hub c hc; rcases hx with rfl | rfl <;> omega)
        (fun m0 e0 => wstEach hlf (by omega) (by omega) (by omega) ((e0.kept _ (by omega)).trans qr10) (by omega) (by omega) (by have := e0.next; omega) (by have := e0.next; omega) (by omega) (by omega) hmem) (fun d a b e h => h.mono e) ⟨-1, .slice none 0 0, (g10.kept _ (by omega)).trans q9, q10, .inl ⟨rfl, rfl, rfl⟩⟩ fun m11 e11 hJ => ?_
      rw [show (n + (54 - (isortI l).length)) + (isortI l).length + (3 + 2) = n + 59 by omega]
      obtain ⟨b, qq, hbq⟩ := allR_ne (isortI l)
      have hfb := first_best (cost := cS r) hss hbq
      rw [hbq] at hJ
      obtain ⟨c, v, w1, w2, w3⟩ := hJ
      rcases w3 with ⟨hh, _⟩ | ⟨b', q', hbb, k2, k3, k4⟩
      · cases hh
      · injection hbb with hb1 hb2
        subst hb1; subst hb2
        have hB := wideL_ok r hc
        have hR : firstL (cS r) b qq = wideL l r := hfb.uniq hsp hB
        rw [hR] at k2 k3
        have hmX : mostX l r = - cS r (wideL l r) := by
          unfold mostX cS
          rw [if_pos hc]; omega
        rw [← hmX] at k2
        subst k2
        have n11 := e11.next
        have hld : ∀ (M : Mem) (b : Nat) (v : Value), M.rd b = some ⟨1, [v], none⟩ → ∀ K : Value → Option Unit, oOpt (ld1 M (.pointer (some ⟨b, 0, none⟩))) K = K v := fun M b v h K => by rw [ld1_u, h]; exact oOpt_e _ _
        have qr11 := (e11.kept _ (by omega) (fun hx => by rcases hx with h | h <;> omega)).trans qr10
        have hu11 : IL m11 u l := (hu7.mono g710).keep fun c hc => e11.kept c (by have := hubu c hc; omega) fun hx => by have := hubu c hc; rcases hx with h | h <;> omega
        rw [show rdo (m11.rd m7.next) 0 = some (.bool r) by rw [qr11]; rfl, oOpt_e]
        refine most_sp hlf (by omega) hu11 (by omega) fun m12 e12 => ?_
        have n12 := e12.next
        have qr12 := (e12.kept _ (by omega)).trans qr11
        have rr12 : rdo (m12.rd m7.next) 0 = some (.bool r) := by rw [qr12]; rfl
        try simp (disch := first | omega | with_unfolding_all exact id rfl | with_unfolding_all exact Nat.le_of_ble_eq_true rfl | (simp only [Jd, Je, Jr, Js, Jt, Nat.reduceAdd, allOne, oneCell, Bool.and_self, Jc]; first | done | omega)) only [rr12, ↓Qa, ↓Qb, Qd, Qe, Qf, Qg, Qh, Qi, Qj, Qk, Ql, Qm, Qn, Qo, Qp, Qq, Qr, Qs, Qt, Qu, Qv, Qw, Qx, Qy, ptrTo, Qz, QA, QB, QC, QD, QE, QF, QG, QH, QI, QJ, QK, QL, QM, QN, QO, QP, QQ, QR, QS, QT, QU, QV, QW, QX, QY, QZ, Ja, Jb, Jc, Jd, Je, Jf, Jg, Jh, Ji, Jj, Jk, Jl, Jm, Jn, Jo, Jp, Jq, Jr, Js, Jt, Nat.reduceAdd]
        refine wide33_sp hlf (by omega) (hu11.mono e12) (by omega) fun wx m13 e13 hwx _ => ?_
        have n13 := e13.next
        have e1113 := e12.trans e13
        have hwe : wideX l r = wideL l r := by unfold wideX; rw [if_pos hc]
        rw [hwe] at hwx
        have rl13 : rdo (m13.rd m8.next) 0 = some (.int .i64 (mostX l r)) := by rw [(e1113.kept _ (Mem.rd_lt w1)).trans w1]; rfl
        have rf13 : rdo (m13.rd m9.next) 0 = some v := by rw [(e1113.kept _ (Mem.rd_lt w2)).trans w2]; rfl
        rw [hc]
        try simp (disch := first | omega | with_unfolding_all exact id rfl | with_unfolding_all exact Nat.le_of_ble_eq_true rfl | (simp only [Jd, Je, Jr, Js, Jt, Nat.reduceAdd, allOne, oneCell, Bool.and_self, Jc]; first | done | omega)) only [neqb, rl13, rf13, ↓Qa, ↓Qb, Qd, Qe, Qf, Qg, Qh, Qi, Qj, Qk, Ql, Qm, Qn, Qo, Qp, Qq, Qr, Qs, Qt, Qu, Qv, Qw, Qx, Qy, ptrTo, Qz, QA, QB, QC, QD, QE, QF, QG, QH, QI, QJ, QK, QL, QM, QN, QO, QP, QQ, QR, QS, QT, QU, QV, QW, QX, QY, QZ, Ja, Jb, Jc, Jd, Je, Jf, Jg, Jh, Ji, Jj, Jk, Jl, Jm, Jn, Jo, Jp, Jq, Jr, Js, Jt, Nat.reduceAdd]
        repeat (rw [join_e]; try simp (disch := first | omega | with_unfolding_all exact id rfl | with_unfolding_all exact Nat.le_of_ble_eq_true rfl | (simp only [Jd, Je, Jr, Js, Jt, Nat.reduceAdd, allOne, oneCell, Bool.and_self, Jc]; first | done | omega)) only [neqb, rl13, rf13, ↓Qa, ↓Qb, Qd, Qe, Qf, Qg, Qh, Qi, Qj, Qk, Ql, Qm, Qn, Qo, Qp, Qq, Qr, Qs, Qt, Qu, Qv, Qw, Qx, Qy, ptrTo, Qz, QA, QB, QC, QD, QE, QF, QG, QH, QI, QJ, QK, QL, QM, QN, QO, QP, QQ, QR, QS, QT, QU, QV, QW, QX, QY, QZ, Ja, Jb, Jc, Jd, Je, Jf, Jg, Jh, Ji, Jj, Jk, Jl, Jm, Jn, Jo, Jp, Jq, Jr, Js, Jt, Nat.reduceAdd])
        refine same_sp hlf hwx (k3.mono e1113) (by have := hB.1.length_eq; omega) ?_
        have hiaA : iaA 2 1 (ptrTo m'.next) (.int .i64 (i : Int)) = some (.pointer (some ⟨m'.next, i, none⟩)) := by
          have := iaA_u (b := m'.next) (n := 2) (o := 0) (i := i) hi3
          rw [Nat.zero_add] at this
          exact this
        have hiaA' : iaA 2 1 (.pointer (some ⟨m'.next, 0, none⟩)) (.int .i64 (i : Int)) = some (.pointer (some ⟨m'.next, i, none⟩)) := hiaA
        have E713 : GtX (fun c => c = m'.next) m7 m13 := ⟨by omega, fun c hc hcx => (e1113.kept c (by omega)).trans ((e11.kept c (by omega) fun hx => by rcases hx with h | h <;> omega).trans (g710.kept c hc))⟩
        have qf13 : m13.rd m'.next = some ⟨1, [.int .i64 (if 1 ≤ i then mostX l false else 0), .int .i64 (if 2 ≤ i then mostX l true else 0)], none⟩ := (e1113.kept _ (by omega)).trans ((e11.kept _ (by omega) fun hx => by rcases hx with h | h <;> omega).trans ((g710.kept _ (by omega)).trans qf7))
        have hadd : ∀ K : Value → Option Unit, oInt .add .i64 (.int .i64 (i : Int)) (.int .i64 1) K = K (.int .i64 ((i + 1 : Nat) : Int)) := fun K => by rw [oInt_add ⟨by omega, by omega⟩]; rfl
        have hst : stw 1 L m13 m'.next i [.int .i64 (mostX l r)] (m13.rd m'.next) = some (Go.undef, m13.put m'.next (some ⟨1, ([.int .i64 (if 1 ≤ i then mostX l false else 0), .int .i64 (if 2 ≤ i then mostX l true else 0)] : List Value).set i (.int .i64 (mostX l r)), none⟩)) := by
          have := st_int (L := L) (q := i) (x := mostX l r) qf13 (by simp; omega) (by omega)
          rw [st1_u] at this
          exact this
        have hfinal : self [.int .i64 ((i + 1 : Nat) : Int)] (m13.put m'.next (some ⟨1, ([.int .i64 (if 1 ≤ i then mostX l false else 0), .int .i64 (if 2 ≤ i then mostX l true else 0)] : List Value).set i (.int .i64 (mostX l r)), none⟩)) = some () := by
          refine hself hi3 _ _ ⟨rfl, (e7.trans E713).put rfl _, ?_⟩
          rw [Mem.rd_put_eq _ _ (by omega)]
          match i, hi3 with
          | 0, _ => simp at hr2; subst hr2; rfl
          | 1, _ => simp at hr2; subst hr2; rfl
        try simp (disch := first | omega | with_unfolding_all exact id rfl | with_unfolding_all exact Nat.le_of_ble_eq_true rfl | (simp only [Jd, Je, Jr, Js, Jt, Nat.reduceAdd, allOne, oneCell, Bool.and_self, Jc]; first | done | omega)) only [neqb, hiaA, hiaA', hadd, ↓Qa, ↓Qb, Qd, Qe, Qf, Qg, Qh, Qi, Qj, Qk, Ql, Qm, Qn, Qo, Qp, Qq, Qr, Qs, Qt, Qu, Qv, Qw, Qx, Qy, ptrTo, Qz, QA, QB, QC, QD, QE, QF, QG, QH, QI, QJ, QK, QL, QM, QN, QO, QP, QQ, QR, QS, QT, QU, QV, QW, QX, QY, QZ, Ja, Jb, Jc, Jd, Je, Jf, Jg, Jh, Ji, Jj, Jk, Jl, Jm, Jn, Jo, Jp, Jq, Jr, Js, Jt, Nat.reduceAdd]
        repeat (rw [join_e]; try simp (disch := first | omega | with_unfolding_all exact id rfl | with_unfolding_all exact Nat.le_of_ble_eq_true rfl | (simp only [Jd, Je, Jr, Js, Jt, Nat.reduceAdd, allOne, oneCell, Bool.and_self, Jc]; first | done | omega)) only [neqb, hiaA, hiaA', hadd, ↓Qa, ↓Qb, Qd, Qe, Qf, Qg, Qh, Qi, Qj, Qk, Ql, Qm, Qn, Qo, Qp, Qq, Qr, Qs, Qt, Qu, Qv, Qw, Qx, Qy, ptrTo, Qz, QA, QB, QC, QD, QE, QF, QG, QH, QI, QJ, QK, QL, QM, QN, QO, QP, QQ, QR, QS, QT, QU, QV, QW, QX, QY, QZ, Ja, Jb, Jc, Jd, Je, Jf, Jg, Jh, Ji, Jj, Jk, Jl, Jm, Jn, Jo, Jp, Jq, Jr, Js, Jt, Nat.reduceAdd])
        try rw [hst, oRes_e]
        try rw [hadd]
        exact hfinal
    · have hi22 : i = 2 := by omega
      subst hi22
      clear hself
      have z1 : (if 1 ≤ 2 then mostX l false else 0) = mostX l false := rfl
      have z2 : (if 2 ≤ 2 then mostX l true else 0) = mostX l true := rfl
      rw [z1, z2] at qf7
      have i0 : iaA 2 1 (.pointer (some ⟨m'.next, 0, none⟩)) (.int .i64 0) = some (.pointer (some ⟨m'.next, 0, none⟩)) := by
        have := iaA_u (b := m'.next) (n := 2) (o := 0) (i := 0) (by omega)
        exact this
      have i1 : iaA 2 1 (.pointer (some ⟨m'.next, 0, none⟩)) (.int .i64 1) = some (.pointer (some ⟨m'.next, 1, none⟩)) := by
        have := iaA_u (b := m'.next) (n := 2) (o := 0) (i := 1) (by omega)
        exact this
      have r0 : rdo (m7.rd m'.next) 0 = some (.int .i64 (mostX l false)) := by rw [qf7]; rfl
      have r1 : rdo (m7.rd m'.next) 1 = some (.int .i64 (mostX l true)) := by rw [qf7]; rfl
      have hub := hus.bid_lt
      have hus7 : IL m7 us (isortI l) := hus6.keep fun c hc => e7.kept c (by have := hub c hc; omega) fun hx => by have := hub c hc; omega
      have hhb := halfS_bd hmem (l.length / 2) (by omega)
      have hmh := most_half hc l6
      have hfl := most_flat hc
      have hgp := most_gap hc
      have hz : 0 < (isortI l).length := by omega
      have hla : l.length - 1 < (isortI l).length := by omega
      have bz := hmem _ (List.getElem_mem hz)
      have bl := hmem _ (List.getElem_mem hla)
      have ez : (isortI l).getD 0 0 = (isortI l)[0] := by rw [List.getD_eq_getElem?_getD, List.getElem?_eq_getElem hz]; rfl
      have el : (isortI l).getD (l.length - 1) 0 = (isortI l)[l.length - 1] := by rw [List.getD_eq_getElem?_getD, List.getElem?_eq_getElem hla]; rfl
      rw [ez, el] at hgp
      have iz : ia 1 us (.int .i64 0) = some (ep 1 us 0) := hus7.ia hz
      have E7 : Gt m m7 := GtX.gt E6 e7 fun c hc => by have := e02.next; omega
      try simp (disch := first | omega | with_unfolding_all exact id rfl | with_unfolding_all exact Nat.le_of_ble_eq_true rfl | (simp only [Jd, Je, Jr, Js, Jt, Nat.reduceAdd, allOne, oneCell, Bool.and_self, Jc]; first | done | omega)) only [i1, r1, ↓Qa, ↓Qb, Qd, Qe, Qf, Qg, Qh, Qi, Qj, Qk, Ql, Qm, Qn, Qo, Qp, Qq, Qr, Qs, Qt, Qu, Qv, Qw, Qx, Qy, ptrTo, Qz, QA, QB, QC, QD, QE, QF, QG, QH, QI, QJ, QK, QL, QM, QN, QO, QP, QQ, QR, QS, QT, QU, QV, QW, QX, QY, QZ, Ja, Jb, Jc, Jd, Je, Jf, Jg, Jh, Ji, Jj, Jk, Jl, Jm, Jn, Jo, Jp, Jq, Jr, Js, Jt, Nat.reduceAdd]
      rw [oInt_mul ⟨by omega, by omega⟩]
      try simp (disch := first | omega | with_unfolding_all exact id rfl | with_unfolding_all exact Nat.le_of_ble_eq_true rfl | (simp only [Jd, Je, Jr, Js, Jt, Nat.reduceAdd, allOne, oneCell, Bool.and_self, Jc]; first | done | omega)) only [neqb, decide_eq_true hmh, ↓Qa, ↓Qb, Qd, Qe, Qf, Qg, Qh, Qi, Qj, Qk, Ql, Qm, Qn, Qo, Qp, Qq, Qr, Qs, Qt, Qu, Qv, Qw, Qx, Qy, ptrTo, Qz, QA, QB, QC, QD, QE, QF, QG, QH, QI, QJ, QK, QL, QM, QN, QO, QP, QQ, QR, QS, QT, QU, QV, QW, QX, QY, QZ, Ja, Jb, Jc, Jd, Je, Jf, Jg, Jh, Ji, Jj, Jk, Jl, Jm, Jn, Jo, Jp, Jq, Jr, Js, Jt, Nat.reduceAdd]
      repeat (rw [join_e]; try simp (disch := first | omega | with_unfolding_all exact id rfl | with_unfolding_all exact Nat.le_of_ble_eq_true rfl | (simp only [Jd, Je, Jr, Js, Jt, Nat.reduceAdd, allOne, oneCell, Bool.and_self, Jc]; first | done | omega)) only [i0, i1, r0, r1, decide_eq_true hfl, ↓Qa, ↓Qb, Qd, Qe, Qf, Qg, Qh, Qi, Qj, Qk, Ql, Qm, Qn, Qo, Qp, Qq, Qr, Qs, Qt, Qu, Qv, Qw, Qx, Qy, ptrTo, Qz, QA, QB, QC, QD, QE, QF, QG, QH, QI, QJ, QK, QL, QM, QN, QO, QP, QQ, QR, QS, QT, QU, QV, QW, QX, QY, QZ, Ja, Jb, Jc, Jd, Je, Jf, Jg, Jh, Ji, Jj, Jk, Jl, Jm, Jn, Jo, Jp, Jq, Jr, Js, Jt, Nat.reduceAdd])
      rw [oInt_sub ⟨by omega, by omega⟩, show (l.length : Int) - 1 = ((l.length - 1 : Nat) : Int) by omega]
      try simp (disch := first | omega | with_unfolding_all exact id rfl | with_unfolding_all exact Nat.le_of_ble_eq_true rfl | (simp only [Jd, Je, Jr, Js, Jt, Nat.reduceAdd, allOne, oneCell, Bool.and_self, Jc]; first | done | omega)) only [hus7.ia hla, hus7.ld hla, iz, hus7.ld hz, ↓Qa, ↓Qb, Qd, Qe, Qf, Qg, Qh, Qi, Qj, Qk, Ql, Qm, Qn, Qo, Qp, Qq, Qr, Qs, Qt, Qu, Qv, Qw, Qx, Qy, ptrTo, Qz, QA, QB, QC, QD, QE, QF, QG, QH, QI, QJ, QK, QL, QM, QN, QO, QP, QQ, QR, QS, QT, QU, QV, QW, QX, QY, QZ, Ja, Jb, Jc, Jd, Je, Jf, Jg, Jh, Ji, Jj, Jk, Jl, Jm, Jn, Jo, Jp, Jq, Jr, Js, Jt, Nat.reduceAdd]
      rw [oInt_sub ⟨by omega, by omega⟩, oInt_sub ⟨by omega, by omega⟩]
      try simp (disch := first | omega | with_unfolding_all exact id rfl | with_unfolding_all exact Nat.le_of_ble_eq_true rfl | (simp only [Jd, Je, Jr, Js, Jt, Nat.reduceAdd, allOne, oneCell, Bool.and_self, Jc]; first | done | omega)) only [decide_eq_true hgp, ↓Qa, ↓Qb, Qd, Qe, Qf, Qg, Qh, Qi, Qj, Qk, Ql, Qm, Qn, Qo, Qp, Qq, Qr, Qs, Qt, Qu, Qv, Qw, Qx, Qy, ptrTo, Qz, QA, QB, QC, QD, QE, QF, QG, QH, QI, QJ, QK, QL, QM, QN, QO, QP, QQ, QR, QS, QT, QU, QV, QW, QX, QY, QZ, Ja, Jb, Jc, Jd, Je, Jf, Jg, Jh, Ji, Jj, Jk, Jl, Jm, Jn, Jo, Jp, Jq, Jr, Js, Jt, Nat.reduceAdd]
      repeat (rw [join_e]; try simp (disch := first | omega | with_unfolding_all exact id rfl | with_unfolding_all exact Nat.le_of_ble_eq_true rfl | (simp only [Jd, Je, Jr, Js, Jt, Nat.reduceAdd, allOne, oneCell, Bool.and_self, Jc]; first | done | omega)) only [decide_eq_true hgp, ↓Qa, ↓Qb, Qd, Qe, Qf, Qg, Qh, Qi, Qj, Qk, Ql, Qm, Qn, Qo, Qp, Qq, Qr, Qs, Qt, Qu, Qv, Qw, Qx, Qy, ptrTo, Qz, QA, QB, QC, QD, QE, QF, QG, QH, QI, QJ, QK, QL, QM, QN, QO, QP, QQ, QR, QS, QT, QU, QV, QW, QX, QY, QZ, Ja, Jb, Jc, Jd, Je, Jf, Jg, Jh, Ji, Jj, Jk, Jl, Jm, Jn, Jo, Jp, Jq, Jr, Js, Jt, Nat.reduceAdd])
      rw [r15]
      exact SClosed_sp (cK := runT (tab lf) (n + 59)) (L := L) (hT.mono E7) (hk _ E7)
end
end Go.Vit
