/- Walks: parts by numbers. -/
import Derived.Test.YtcaoifacidnhcaaDoorW2
set_option linter.unusedSimpArgs false
set_option linter.unusedVariables false
set_option maxRecDepth 20000
namespace Go.Vit
open Go Go.Proofs
attribute [local irreducible] runT loopS
theorem u74 : Tryd.prog.underlying 74 = some (.array 4 73) := by kernel_rfl
theorem ts73 : tsize Tryd.prog 73 = some 1 := by kernel_rfl
theorem sl74 {b o q : Nat} (hq : q ≤ 4) : sl Tryd.prog 74 (.pointer (some ⟨b, o, none⟩)) none (some (.int .i64 (q : Int))) none = some (.slice (some ⟨b, o, some 0⟩) q 4) := by
  unfold sl aslice
  rw [u74]
  simp only [ts73, Option.map_some, Option.map_none]
  have h1 : abound (tri none (some (.int .i64 (q : Int))) none) (some (.tmp 1)) 4 = some q := by
    show anat (.int .i64 (Int.ofNat q)) = _
    simp only [anat, natK_eq]
  have h2 : abounds (tri none (some (.int .i64 (q : Int))) none) 4 4 none (some (.tmp 1)) none = some (0, q, 4) := by
    unfold abounds
    simp only [abound_none, h1, ble_t hq, ble_t (Nat.zero_le q), ble_t (Nat.le_refl 4), Bool.and_self]
  simp only [h2]
  rfl
theorem isort_nat (out : List Nat) : ∃ l : List Nat, isortI (ci out) = ci l ∧ l.Perm out ∧ l.Pairwise (· ≤ ·) := by
  have hp := isortI_perm (ci out)
  have hs := isortI_sorted (ci out)
  have hnn : ∀ x ∈ isortI (ci out), ∃ g : Nat, x = (g : Int) := fun x hx => by
    have := hp.mem_iff.1 hx
    simp only [ci, List.mem_map] at this
    obtain ⟨g, _, rfl⟩ := this
    exact ⟨g, rfl⟩
  have key : ∀ L : List Int, (∀ x ∈ L, ∃ g : Nat, x = (g : Int)) → ∃ l : List Nat, L = ci l := by
    intro L
    induction L with
    | nil => intro _; exact ⟨[], rfl⟩
    | cons x L ih =>
      intro h
      obtain ⟨g, rfl⟩ := h x (by simp)
      obtain ⟨l, rfl⟩ := ih fun y hy => h y (by simp [hy])
      exact ⟨g :: l, rfl⟩
  obtain ⟨l, hl⟩ := key _ hnn
  rw [hl] at hp hs
  refine ⟨l, hl, ?_, ?_⟩
  · have h0 := hp.map Int.toNat
    have h1 : (Int.toNat ∘ fun g : Nat => (g : Int)) = id := by funext g; rfl
    simpa [ci, h1] using h0
  · unfold ci at hs
    rw [List.pairwise_map] at hs
    exact hs.imp fun h => by omega
theorem val_of {l out : List Nat} (hp : l.Perm out) (hs : l.Pairwise (· ≤ ·)) (hlen : out.length ≤ 4) (hn : out.Nodup) (hr : ∀ p ∈ out, 2 ≤ p ∧ p ≤ 2000) : Val l := by
  refine ⟨by rw [hp.length_eq]; exact hlen, fun p h => hr p (hp.mem_iff.1 h), ?_⟩
  have hn' : l.Nodup := hp.nodup_iff.2 hn
  exact hs.imp₂ (fun a b h1 h2 => by omega) hn'
abbrev quad (bs : List Nat) : Value := .agg ⟨bs.map fun (g : Nat) => .int .u16 (g : Int)⟩
section
variable {lf n L : Nat} {m : Mem} {k : Value → Mem → Option Unit}
theorem some_sp {bs : List Nat} {q : Nat} (hlf : 1000000 ≤ lf) (hL : L ≤ m.next) (hbs : bs.length = 4) (hg : ∀ g ∈ bs, g < 65536) (hq : q ≤ 4)
    (hk : ∀ u m' l, Gt m m' → GN m.next m' u l → Val l → k u m' = some ()) : runT (tab lf) (n + 3) 50 [quad bs, .int .i64 (q : Int)] L m k = some () := by
  rw [r50]; dsimp only [S50, iofNat, inegSucc]
  have hb : At (m.push ⟨1, bs.map (fun (g : Nat) => .int .u16 (g : Int)), none⟩) m.next _ := At.push m _
  have g1 := Mem.gt_push m ⟨1, bs.map (fun (g : Nat) => .int .u16 (g : Int)), none⟩
  try simp (disch := first | omega | with_unfolding_all exact id rfl | with_unfolding_all exact Nat.le_of_ble_eq_true rfl | (simp only [Mem.push_next, Mem.put_next, List.length_cons, List.length_nil, Nat.zero_add, Nat.reduceAdd, allOne, oneCell, Bool.and_self, Bool.and_true]; first | done | omega)) only [sl74 hq, ln_e, ↓uc_e, ↓un0_e, ↓join_e, oOpt_e, oRes_e, oIf_t, oIf_f, oGT_t, oGT_f, oGT_u, oGF_t, oGF_f, oGF_u, oPick_t, oPick_f, oInt_eql, oInt_neq, oInt_lss, oInt_leq, oInt_gtr, oInt_geq, aun_not, aextract_e, fa_e, abox_e, ptrTo, oCallV_e, decide_true, decide_false, Bool.not_true, Bool.not_false, List.getElem?_cons_zero, List.getElem?_cons_succ, List.cons_append, List.nil_append, cells_agg, cells_int, cells_slice, cells_bool, cells_ptr, ld1_u, ldN_u, st1_u, rdo_e, rdn_e, stw_e, anew_eq, Mem.push_next, Mem.put_next, Mem.rd_push, Mem.rd_push_eq, Mem.rd_push_lt, Mem.rd_put_eq, Mem.rd_put, List.take_zero, List.drop_zero, List.take_succ_cons, List.drop_succ_cons, List.drop_nil, List.take_nil, List.append_nil, List.length_cons, List.length_nil, Nat.zero_add, Nat.reduceAdd]
  generalize m.push ⟨1, bs.map (fun (g : Nat) => .int .u16 (g : Int)), none⟩ = m1 at hb g1 ⊢
  have g1n := g1.next
  refine loop_up q (fun i vs m' => ∃ u out, vs = [u, .int .i64 (i : Int)] ∧ Gt m1 m' ∧ GN m1.next m' u out ∧ out.length ≤ i ∧ out.Nodup ∧ ∀ p ∈ out, 2 ≤ p ∧ p ≤ 2000) (by omega) ⟨_, [], rfl, Gt.refl _, GN.nil _ _, by simp, by simp, by simp⟩ ?_
  rintro i vs m2 hi ⟨u, out, rfl, e2, hu, hol, hnd, hrg⟩ self hself
  have hb2 := hb.mono e2
  have e2n := e2.next
  try simp (disch := first | omega | with_unfolding_all exact id rfl | with_unfolding_all exact Nat.le_of_ble_eq_true rfl | (simp only [Mem.push_next, Mem.put_next, List.length_cons, List.length_nil, Nat.zero_add, Nat.reduceAdd, allOne, oneCell, Bool.and_self, Bool.and_true]; first | done | omega)) only [↓uc_e, ↓un0_e, ↓join_e, oOpt_e, oRes_e, oIf_t, oIf_f, oGT_t, oGT_f, oGT_u, oGF_t, oGF_f, oGF_u, oPick_t, oPick_f, oInt_eql, oInt_neq, oInt_lss, oInt_leq, oInt_gtr, oInt_geq, aun_not, aextract_e, fa_e, abox_e, ptrTo, oCallV_e, decide_true, decide_false, Bool.not_true, Bool.not_false, List.getElem?_cons_zero, List.getElem?_cons_succ, List.cons_append, List.nil_append, cells_agg, cells_int, cells_slice, cells_bool, cells_ptr, ld1_u, ldN_u, st1_u, rdo_e, rdn_e, stw_e, anew_eq, Mem.push_next, Mem.put_next, Mem.rd_push, Mem.rd_push_eq, Mem.rd_push_lt, Mem.rd_put_eq, Mem.rd_put, List.take_zero, List.drop_zero, List.take_succ_cons, List.drop_succ_cons, List.drop_nil, List.take_nil, List.append_nil, List.length_cons, List.length_nil, Nat.zero_add, Nat.reduceAdd]
  refine oIf_dec (fun h => ?_) (fun h => ?_)
  · have hiq : i < q := by omega
    have hi4 : i < bs.length := by omega
    have hgi := hg _ (List.getElem_mem hi4)
    have hcell : (bs.map (fun (g : Nat) => Value.int .u16 (g : Int)))[0 + i * 1]? = some (.int .u16 (bs[i] : Int)) := by
      rw [show 0 + i * 1 = i by omega, List.getElem?_map, List.getElem?_eq_getElem hi4]; rfl
    rw [ia_e (sz := 1) hiq, oOpt_e, ld1_u, hb2.rd, rdo_e, hcell, oOpt_e, oCv_nat (by omega), show (1999 : Int) = ((1999 : Nat) : Int) from rfl, oInt_remN (by omega), show (2 : Int) = ((2 : Nat) : Int) from rfl, oInt_addN (by have := Nat.mod_lt bs[i] (show 0 < 1999 by omega); omega)]
    have hpr : 2 ≤ 2 + bs[i] % 1999 ∧ 2 + bs[i] % 1999 ≤ 2000 := by have := Nat.mod_lt bs[i] (show 0 < 1999 by omega); omega
    generalize 2 + bs[i] % 1999 = p at hpr ⊢
    refine contains_sp hlf hu.inn (by omega) ?_
    try simp (disch := first | omega | with_unfolding_all exact id rfl | with_unfolding_all exact Nat.le_of_ble_eq_true rfl | (simp only [Mem.push_next, Mem.put_next, List.length_cons, List.length_nil, Nat.zero_add, Nat.reduceAdd, allOne, oneCell, Bool.and_self, Bool.and_true]; first | done | omega)) only [↓uc_e, ↓un0_e, ↓join_e, oOpt_e, oRes_e, oIf_t, oIf_f, oGT_t, oGT_f, oGT_u, oGF_t, oGF_f, oGF_u, oPick_t, oPick_f, oInt_eql, oInt_neq, oInt_lss, oInt_leq, oInt_gtr, oInt_geq, aun_not, aextract_e, fa_e, abox_e, ptrTo, oCallV_e, decide_true, decide_false, Bool.not_true, Bool.not_false, List.getElem?_cons_zero, List.getElem?_cons_succ, List.cons_append, List.nil_append, cells_agg, cells_int, cells_slice, cells_bool, cells_ptr, ld1_u, ldN_u, st1_u, rdo_e, rdn_e, stw_e, anew_eq, Mem.push_next, Mem.put_next, Mem.rd_push, Mem.rd_push_eq, Mem.rd_push_lt, Mem.rd_put_eq, Mem.rd_put, List.take_zero, List.drop_zero, List.take_succ_cons, List.drop_succ_cons, List.drop_nil, List.take_nil, List.append_nil, List.length_cons, List.length_nil, Nat.zero_add, Nat.reduceAdd]
    refine oIf_ndec (fun hin => ?_) (fun hin => ?_)
    · obtain ⟨x2, m3, h8, h9, e7, h10⟩ := GN.snoc (P := Tryd.prog) (t := 30) (L := L) (m0 := m1) p ael30 (by omega) hu (by omega) (by omega) e2 (Nat.le_refl _)
      rw [bs30, oRes_e, h8, oRes_e]
      try simp (disch := first | omega | with_unfolding_all exact id rfl | with_unfolding_all exact Nat.le_of_ble_eq_true rfl | (simp only [Mem.push_next, Mem.put_next, List.length_cons, List.length_nil, Nat.zero_add, Nat.reduceAdd, allOne, oneCell, Bool.and_self, Bool.and_true]; first | done | omega)) only [↓uc_e, ↓un0_e, ↓join_e, oOpt_e, oRes_e, oIf_t, oIf_f, oGT_t, oGT_f, oGT_u, oGF_t, oGF_f, oGF_u, oPick_t, oPick_f, oInt_eql, oInt_neq, oInt_lss, oInt_leq, oInt_gtr, oInt_geq, aun_not, aextract_e, fa_e, abox_e, ptrTo, oCallV_e, decide_true, decide_false, Bool.not_true, Bool.not_false, List.getElem?_cons_zero, List.getElem?_cons_succ, List.cons_append, List.nil_append, cells_agg, cells_int, cells_slice, cells_bool, cells_ptr, ld1_u, ldN_u, st1_u, rdo_e, rdn_e, stw_e, anew_eq, Mem.push_next, Mem.put_next, Mem.rd_push, Mem.rd_push_eq, Mem.rd_push_lt, Mem.rd_put_eq, Mem.rd_put, List.take_zero, List.drop_zero, List.take_succ_cons, List.drop_succ_cons, List.drop_nil, List.take_nil, List.append_nil, List.length_cons, List.length_nil, Nat.zero_add, Nat.reduceAdd]
      rw [oInt_add ⟨by omega, by omega⟩]
      refine hself hiq _ _ ⟨x2, out ++ [p], rfl, e7, h9.le e2n, by simp; omega, ?_, ?_⟩
      · rw [List.nodup_append]
        exact ⟨hnd, by simp, fun a ha b hb2 => by simp at hb2; subst hb2; exact fun e => hin (e ▸ ha)⟩
      · intro a ha
        rcases List.mem_append.1 ha with ha | ha
        · exact hrg a ha
        · simp at ha; subst ha; exact hpr
    · try simp (disch := first | omega | with_unfolding_all exact id rfl | with_unfolding_all exact Nat.le_of_ble_eq_true rfl | (simp only [Mem.push_next, Mem.put_next, List.length_cons, List.length_nil, Nat.zero_add, Nat.reduceAdd, allOne, oneCell, Bool.and_self, Bool.and_true]; first | done | omega)) only [↓uc_e, ↓un0_e, ↓join_e, oOpt_e, oRes_e, oIf_t, oIf_f, oGT_t, oGT_f, oGT_u, oGF_t, oGF_f, oGF_u, oPick_t, oPick_f, oInt_eql, oInt_neq, oInt_lss, oInt_leq, oInt_gtr, oInt_geq, aun_not, aextract_e, fa_e, abox_e, ptrTo, oCallV_e, decide_true, decide_false, Bool.not_true, Bool.not_false, List.getElem?_cons_zero, List.getElem?_cons_succ, List.cons_append, List.nil_append, cells_agg, cells_int, cells_slice, cells_bool, cells_ptr, ld1_u, ldN_u, st1_u, rdo_e, rdn_e, stw_e, anew_eq, Mem.push_next, Mem.put_next, Mem.rd_push, Mem.rd_push_eq, Mem.rd_push_lt, Mem.rd_put_eq, Mem.rd_put, List.take_zero, List.drop_zero, List.take_succ_cons, List.drop_succ_cons, List.drop_nil, List.take_nil, List.append_nil, List.length_cons, List.length_nil, Nat.zero_add, Nat.reduceAdd]
      rw [oInt_add ⟨by omega, by omega⟩]
      exact hself hiq _ _ ⟨u, out, rfl, e2, hu, by omega, hnd, hrg⟩
  · rw [r71]
    refine sort_sp (L0 := m1.next) (m0 := m1) hu (by omega) e2 (Nat.le_refl _) (by rw [ci_length]; omega) fun m3 e3 h3 _ _ => ?_
    obtain ⟨l, hl, hp, hs⟩ := isort_nat out
    rw [hl] at h3
    exact hk u m3 l (g1.trans e3) (GN.le h3 g1n) (val_of hp hs (by omega) hnd hrg)
end
end Go.Vit
