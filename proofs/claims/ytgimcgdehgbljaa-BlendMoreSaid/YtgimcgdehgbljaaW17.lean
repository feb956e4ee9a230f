/- Walks: a recipe by numbers. -/
import Derived.Test.YtgimcgdehgbljaaW16
set_option linter.unusedSimpArgs false
set_option linter.unusedVariables false
set_option maxRecDepth 20000
namespace Go.Vit
open Go Go.Proofs
attribute [local irreducible] runT loopS
theorem u67 : Try.prog.underlying 67 = some (.array 10 5) := by kernel_rfl
theorem ts5 : tsize Try.prog 5 = some 1 := by kernel_rfl
theorem sl67 {b o q : Nat} (hq : q ≤ 10) : sl Try.prog 67 (.pointer (some ⟨b, o, none⟩)) none (some (.int .i64 (q : Int))) none = some (.slice (some ⟨b, o, some 0⟩) q 10) := by
  unfold sl aslice
  rw [u67]
  simp only [ts5, Option.map_some, Option.map_none]
  have h1 : abound (tri none (some (.int .i64 (q : Int))) none) (some (.tmp 1)) 10 = some q := by
    show anat (.int .i64 (Int.ofNat q)) = _
    simp only [anat, natK_eq]
  have h2 : abounds (tri none (some (.int .i64 (q : Int))) none) 10 10 none (some (.tmp 1)) none = some (0, q, 10) := by
    unfold abounds
    simp only [abound_none, h1, ble_t hq, ble_t (Nat.zero_le q), ble_t (Nat.le_refl 10), Bool.and_self]
  simp only [h2]
  rfl
/-- A recipe's numbers. -/
def mixC (a : Nat) (wl : List Nat) (c d : Nat) : List Value := .int .u8 (a : Int) :: ((wl.map fun (g : Nat) => .int .u8 (g : Int)) ++ [.int .u16 (c : Int), .int .u8 (d : Int)])
abbrev mixV (a : Nat) (wl : List Nat) (c d : Nat) : Value := .agg ⟨mixC a wl c d⟩
theorem mix_at {a c d : Nat} {wl : List Nat} {i : Nat} (h : i < wl.length) : (mixC a wl c d)[1 + i * 1]? = some (.int .u8 (wl[i] : Int)) := by
  unfold mixC
  rw [show 1 + i * 1 = i + 1 by omega, List.getElem?_cons_succ, List.getElem?_append_left (by rw [List.length_map]; exact h), List.getElem?_map, List.getElem?_eq_getElem h]
  rfl
theorem mix_lo {a c d : Nat} {wl : List Nat} (h : wl.length = 10) : (mixC a wl c d)[11]? = some (.int .u16 (c : Int)) := by
  unfold mixC
  rw [show 11 = 10 + 1 from rfl, List.getElem?_cons_succ, List.getElem?_append_right (by rw [List.length_map]; omega), List.length_map, h]
  rfl
theorem mix_wide {a c d : Nat} {wl : List Nat} (h : wl.length = 10) : (mixC a wl c d)[12]? = some (.int .u8 (d : Int)) := by
  unfold mixC
  rw [show 12 = 11 + 1 from rfl, List.getElem?_cons_succ, List.getElem?_append_right (by rw [List.length_map]; omega), List.length_map, h]
  rfl
theorem mix_len {a c d : Nat} {wl : List Nat} (h : wl.length = 10) : (mixC a wl c d).length = 13 := by
  unfold mixC; simp [h]
theorem mix_of {ns : List (IntKind × Int)} (h : ns.map (·.1) = [.u8, .u8, .u8, .u8, .u8, .u8, .u8, .u8, .u8, .u8, .u8, .u16, .u8] ∧ ∀ p ∈ ns, p.1.has p.2) : ∃ (a : Nat) (wl : List Nat) (c d : Nat), intsV ns = mixC a wl c d ∧ a < 256 ∧ wl.length = 10 ∧ (∀ g ∈ wl, g < 256) ∧ c < 65536 ∧ d < 256 := by
  obtain ⟨h1, h2⟩ := h
  have e := (List.take_append_drop 11 ns).symm
  have k1 : (ns.take 11).map (·.1) = List.replicate 11 .u8 := by rw [List.map_take, h1]; rfl
  have k2 : (ns.drop 11).map (·.1) = [.u16, .u8] := by rw [List.map_drop, h1]; rfl
  obtain ⟨l, q1, q2, q3⟩ := u8s_of (n := 11) k1 (fun p hp => h2 p (List.mem_of_mem_take hp))
  match l, q2 with
  | a :: wl, q2 =>
    match hd : ns.drop 11, k2 with
    | [(_, x), (_, y)], k2 =>
      simp only [List.map_cons, List.map_nil, List.cons.injEq, and_true] at k2
      obtain ⟨rfl, rfl⟩ := k2
      have hx := h2 (.u16, x) (List.mem_of_mem_drop (i := 11) (by rw [hd]; simp))
      have hy := h2 (.u8, y) (List.mem_of_mem_drop (i := 11) (by rw [hd]; simp))
      have hx1 : IntKind.u16.min ≤ x ∧ x ≤ IntKind.u16.max := hx
      have hy1 : IntKind.u8.min ≤ y ∧ y ≤ IntKind.u8.max := hy
      have hx2 : (0 : Int) ≤ x := hx1.1
      have hx3 : x ≤ (65535 : Int) := hx1.2
      have hy2 : (0 : Int) ≤ y := hy1.1
      have hy3 : y ≤ (255 : Int) := hy1.2
      refine ⟨a, wl, x.toNat, y.toNat, ?_, q3 _ (List.mem_cons_self ..), by simpa using q2, fun g hg => q3 g (List.mem_cons_of_mem _ hg), by omega, by omega⟩
      have hi : intsV ns = intsV (ns.take 11) ++ intsV (ns.drop 11) := by
        unfold intsV; rw [← List.map_append, List.take_append_drop]
      rw [hi, q1, hd]
      unfold mixC intsV
      rw [show ((x.toNat : Nat) : Int) = x by omega, show ((y.toNat : Nat) : Int) = y by omega]
      rfl
section
variable {lf n L : Nat} {m : Mem} {k : Value → Mem → Option Unit}
theorem made_sp {a c d most : Nat} {wl : List Nat} (hlf : 1000000 ≤ lf) (hL : L ≤ m.next) (ha : a < 256) (hwl : wl.length = 10) (hwg : ∀ g ∈ wl, g < 256) (hc : c < 65536) (hd : d < 256) (hm0 : 0 < most) (hm10 : most ≤ 10)
    (hk : ∀ wv m' ws (lo hi : Int), Gt m m' → IN m' wv ws → 1 ≤ ws.length → ws.length ≤ most → (∀ w ∈ ws, w ≤ 50) → -5 ≤ lo → lo ≤ hi → hi ≤ 320 → k (rcp wv lo hi) m' = some ()) :
    runT (tab lf) (n + 1) 52 [mixV a wl c d, .int .i64 (most : Int)] L m k = some () := by
  rw [r52]; dsimp only [S52, iofNat, inegSucc]
  rw [uc_e, uc_e, un0_e, abox_e, oRes_e, cells_agg]
  have g1 := Mem.gt_push m ⟨1, mixC a wl c d, none⟩
  have hA : At (m.push ⟨1, mixC a wl c d, none⟩) m.next (mixC a wl c d) := At.push m _
  have n1 : (m.push ⟨1, mixC a wl c d, none⟩).next = m.next + 1 := Mem.push_next _ _
  generalize m.push ⟨1, mixC a wl c d, none⟩ = m1 at g1 hA n1 ⊢
  unfold ptrTo
  have c0 : (mixC a wl c d)[0]? = some (.int .u8 (a : Int)) := rfl
  rw [anew_eq, oRes_e]
  have g2 := Mem.gt_push m1 ⟨1, [.slice none 0 0, .int .i64 0, .int .i64 0], none⟩
  have hB := At.push m1 [.slice none 0 0, .int .i64 0, .int .i64 0]
  have n2 : (m1.push ⟨1, [.slice none 0 0, .int .i64 0, .int .i64 0], none⟩).next = m1.next + 1 := Mem.push_next _ _
  have hA2 := hA.mono g2
  generalize m1.push ⟨1, [.slice none 0 0, .int .i64 0, .int .i64 0], none⟩ = m2 at g2 hB n2 hA2 ⊢
  rw [anew_eq, oRes_e]
  have g3 := Mem.gt_push m2 ⟨1, [.slice none 0 0, .int .i64 0, .int .i64 0], none⟩
  have hC := At.push m2 [.slice none 0 0, .int .i64 0, .int .i64 0]
  have n3 : (m2.push ⟨1, [.slice none 0 0, .int .i64 0, .int .i64 0], none⟩).next = m2.next + 1 := Mem.push_next _ _
  have hA3 := hA2.mono g3
  have hB3 := hB.mono g3
  generalize m2.push ⟨1, [.slice none 0 0, .int .i64 0, .int .i64 0], none⟩ = m3 at g3 hC n3 hA3 hB3 ⊢
  have G3 := (g1.trans g2).trans g3
  have hmod := Nat.mod_lt a hm0
  rw [fa_e, oOpt_e, fa_e, oOpt_e, ld1_u, hA3.rd, rdo_e, show 0 + 0 = 0 from rfl, c0, oOpt_e, oCv_nat (by omega), oInt_remN hm0, show (1 : Int) = ((1 : Nat) : Int) from rfl, oInt_addN (by omega)]
  have hq1 : 1 ≤ 1 + a % most := by omega
  have hq2 : 1 + a % most ≤ most := by have := Nat.mod_lt a hm0; omega
  generalize 1 + a % most = q at hq1 hq2 ⊢
  rw [sl67 (by omega), oOpt_e, ln_e, oOpt_e]
  refine loop_up q (fun i vs m' => ∃ w, vs = [.int .i64 (i : Int)] ∧ Gt m m' ∧ m3.next ≤ m'.next ∧ At m' m.next (mixC a wl c d) ∧ At m' m1.next [.slice none 0 0, .int .i64 0, .int .i64 0] ∧ At m' m2.next [w, .int .i64 0, .int .i64 0] ∧ GN m3.next m' w ((wl.take i).map (· % 51))) (by omega) ⟨_, rfl, G3, Nat.le_refl _, hA3, hB3, hC, GN.nil _ _⟩ ?_
  rintro i vs m4 hi' ⟨w, rfl, e4, n4, hA4, hB4, hC4, hw⟩ self hself
  have hlen : ((wl.take i).map (· % 51)).length = i := by rw [List.length_map, List.length_take]; omega
  have cw : ([w, .int .i64 0, .int .i64 0] : List Value)[0]? = some w := rfl
  rw [uc_e, oInt_lss]
  have c51 : (51 : Int) = ((51 : Nat) : Int) := rfl
  have c260 : (260 : Int) = ((260 : Nat) : Int) := rfl
  have c60 : (60 : Int) = ((60 : Nat) : Int) := rfl
  refine oIf_dec (fun h => ?_) (fun h => ?_)
  · have hil : i < wl.length := by omega
    have hg := hwg _ (List.getElem_mem hil)
    rw [ia_e (show i < q by omega), oOpt_e, ld1_u, hA4.rd, rdo_e, show 0 + 1 + i * 1 = 1 + i * 1 by omega, mix_at hil, oOpt_e, fa_e, oOpt_e, ld1_u, hC4.rd, rdo_e, show 0 + 0 = 0 from rfl, cw, oOpt_e, oCv_nat (by omega), c51, oInt_remN (by omega), bs22, oRes_e]
    obtain ⟨u, m5, s1, s2, s3, s4, s5⟩ := GN.snoc3 (P := Try.prog) (t := 22) (L := L) (m0 := m) (wl[i] % 51) ael22 (by omega) hw (by omega) (by omega) e4 (by omega)
    have hfw : ∀ b, bid w = some b → m3.next ≤ b := hw.fr
    have hC5 : m5.rd m2.next = some ⟨1, [w, .int .i64 0, .int .i64 0], none⟩ := (s5 _ (by omega) (fun hb => by have := hfw _ hb; omega)).trans hC4
    have hA5 := (s5 m.next (by omega) (fun hb => by have := hfw _ hb; omega)).trans hA4
    have hB5 := (s5 m1.next (by omega) (fun hb => by have := hfw _ hb; omega)).trans hB4
    obtain ⟨pu, cu, eu⟩ := s2.ex
    rw [s1, oRes_e, oOpt_e, st_set hC5 (Nat.zero_lt_succ _) (by omega) (by rw [eu]; rfl) (by rw [eu]; rfl), oRes_e, oInt_addN (by omega)]
    refine hself (by omega) _ _ ⟨u, rfl, Mem.put_gt s3 _ (by omega), ?_, (Mem.rd_put _ _ _ _ (by omega)).trans hA5, (Mem.rd_put _ _ _ _ (by omega)).trans hB5, Mem.rd_put_eq _ _ (Mem.rd_lt hC5), ?_⟩
    · rw [Mem.put_next']; omega
    · rw [List.take_add_one, List.getElem?_eq_getElem hil, Option.toList_some, List.map_append, List.map_cons, List.map_nil]
      exact (s2.keepL fun c h1 _ => Mem.rd_put _ _ _ _ (by omega)).le n4
  · have hiq : i = q := by omega
    subst hiq
    obtain ⟨pu, cu, eu⟩ := hw.ex
    have hlo : ((c % 260 : Nat) : Int) - 5 ≤ 254 := by omega
    rw [fa_e, oOpt_e, ld1_u, hA4.rd, rdo_e, show 0 + 11 = 11 from rfl, mix_lo hwl, oOpt_e, oCv_nat (by omega), c260, oInt_remN (by omega), oInt_sub ⟨by omega, by omega⟩]
    have hlo2 : -5 ≤ ((c % 260 : Nat) : Int) - 5 := by omega
    generalize ((c % 260 : Nat) : Int) - 5 = lo at hlo hlo2 ⊢
    rw [fa_e, oOpt_e, show 0 + 1 = 1 from rfl, st_int hC4 (by simp) (by omega), oRes_e]
    have hC5 : At (m4.put m2.next (some ⟨1, [w, .int .i64 0, .int .i64 0].set 1 (.int .i64 lo), none⟩)) m2.next (rcC w lo 0) := Mem.rd_put_eq _ _ (Mem.rd_lt hC4)
    have hA5 : At (m4.put m2.next (some ⟨1, [w, .int .i64 0, .int .i64 0].set 1 (.int .i64 lo), none⟩)) m.next (mixC a wl c d) := (Mem.rd_put _ _ _ _ (by omega)).trans hA4
    have hB5 : At (m4.put m2.next (some ⟨1, [w, .int .i64 0, .int .i64 0].set 1 (.int .i64 lo), none⟩)) m1.next [.slice none 0 0, .int .i64 0, .int .i64 0] := (Mem.rd_put _ _ _ _ (by omega)).trans hB4
    have e5 : Gt m (m4.put m2.next (some ⟨1, [w, .int .i64 0, .int .i64 0].set 1 (.int .i64 lo), none⟩)) := Mem.put_gt e4 _ (by omega)
    have hw5 : GN m3.next (m4.put m2.next (some ⟨1, [w, .int .i64 0, .int .i64 0].set 1 (.int .i64 lo), none⟩)) w ((wl.take i).map (· % 51)) := hw.keepL fun c h1 _ => Mem.rd_put _ _ _ _ (by omega)
    generalize m4.put m2.next (some ⟨1, [w, .int .i64 0, .int .i64 0].set 1 (.int .i64 lo), none⟩) = m5 at hC5 hA5 hB5 e5 hw5 ⊢
    have cl : (rcC w lo 0)[1]? = some (.int .i64 lo) := rfl
    rw [oOpt_e, ld1_u, hC5.rd, rdo_e, cl, oOpt_e, fa_e, oOpt_e, show 0 + 12 = 12 from rfl, ld1_u, hA5.rd, rdo_e, mix_wide hwl, oOpt_e, oCv_nat (by omega), c60, oInt_remN (by omega), oInt_add ⟨by omega, by omega⟩]
    have hhi : lo ≤ lo + ((d % 60 : Nat) : Int) ∧ lo + ((d % 60 : Nat) : Int) ≤ 320 := by omega
    generalize lo + ((d % 60 : Nat) : Int) = hi at hhi ⊢
    rw [fa_e, oOpt_e, show 0 + 2 = 2 from rfl, st_int hC5 (by simp) (by omega), oRes_e]
    have hC6 : At (m5.put m2.next (some ⟨1, (rcC w lo 0).set 2 (.int .i64 hi), none⟩)) m2.next (rcC w lo hi) := Mem.rd_put_eq _ _ hC5.lt
    have hB6 : At (m5.put m2.next (some ⟨1, (rcC w lo 0).set 2 (.int .i64 hi), none⟩)) m1.next [.slice none 0 0, .int .i64 0, .int .i64 0] := (Mem.rd_put _ _ _ _ (by omega)).trans hB5
    have e6 : Gt m (m5.put m2.next (some ⟨1, (rcC w lo 0).set 2 (.int .i64 hi), none⟩)) := Mem.put_gt e5 _ (by omega)
    have hw6 : GN m3.next (m5.put m2.next (some ⟨1, (rcC w lo 0).set 2 (.int .i64 hi), none⟩)) w ((wl.take i).map (· % 51)) := hw5.keepL fun c h1 _ => Mem.rd_put _ _ _ _ (by omega)
    generalize m5.put m2.next (some ⟨1, (rcC w lo 0).set 2 (.int .i64 hi), none⟩) = m6 at hC6 hB6 e6 hw6 ⊢
    have hst : st1 3 L m6 (.pointer (some ⟨m1.next, 0, none⟩)) (rcp w lo hi) = some (Go.undef, m6.put m1.next (some ⟨1, rcC w lo hi, none⟩)) := by
      rw [st1_u, hB6.rd, cells_agg, stw_e (s := 3) (by omega) rfl (Nat.le_refl _) (by rw [eu]; rfl)]
      rfl
    rw [ldN_u, hC6.rd, rdn3, oOpt_e, hst, oRes_e, ldN_u, Mem.rd_put_eq _ _ hB6.lt, rdn3, oOpt_e]
    refine hk w _ _ lo hi (Mem.put_gt e6 _ (by omega)) (hw6.keepL fun c h1 _ => Mem.rd_put _ _ _ _ (by omega)).inn (by omega) (by omega) (fun x hx => ?_) hlo2 hhi.1 hhi.2
    obtain ⟨y, _, rfl⟩ := List.mem_map.1 hx
    have := Nat.mod_lt y (show 0 < 51 by omega)
    omega
end
end Go.Vit
