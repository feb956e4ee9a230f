/- The law ShadeOrders: the contract and the card. -/
import Derived.Test.YtffomiamkiakcaaShadeOrdersAll
import Derived.Test.YtffomiamkiakcaaWorks
import Derived.Test.YtffomiamkiakcaaCoreD
set_option linter.unusedSimpArgs false
set_option linter.unusedVariables false
set_option maxRecDepth 1000000
namespace Go.Proofs.Ytffomiamkiakcaa.ShadeOrders
open Go Go.Vit Go.Proofs Go.Proofs.Ytffomiamkiakcaa Go.ChangeShapes Go.WideShapes Go.RowKit

theorem contract (H : Type) (enc : TypeId × Value → H) (W : World) (base : Nat) (args : Array Value) (ds gs : List (DataW H)) (before : List MemPlace)
    (hval : ∀ (j : Nat) t v, Try.f6.params[j]? = some t → args[j]? = some v → Value.okWide Try.prog W .any base t v)
    (hW : DataW.Whole enc Try.prog Try.f6.params.toList Rows.shadeOrdersSpec.vars false W args.toList ds gs before) (hL : laidMetH Try.prog Rows.shadeOrdersRow.laid W) :
    Calls Try.prog 6 args W fun e W' => ∃ v, e = .returned v ∧ Rows.shadeOrdersSpec.post enc Try.prog Try.f6 false true false false W args v W' := by
  have hW' := hW
  obtain ⟨p, q, hA, hV, rfl, hfz, hnd⟩ := hW
  have hA0 : DataW.TrodAll enc Try.prog W 0 (fun _ => true) true Try.f6.params.toList args.toList ds p := hA
  have hA : DataW.TrodAll enc Try.prog W 0 (fun _ => true) true Try.f6.params.toList args.toList ds p := hA
  rw [Try.params6] at hA hval
  obtain ⟨v0, vs0, d0, ds0, p0, q0, hargs, rfl, rfl, h0, hr0⟩ := trodAll_cons hA
  obtain ⟨v1, vs1, d1, ds1, p1, q1, rfl, rfl, rfl, h1, hr1⟩ := trodAll_cons hr0
  obtain ⟨v2, vs2, d2, ds2, p2, q2, rfl, rfl, rfl, h2, hr2⟩ := trodAll_cons hr1
  obtain ⟨v3, vs3, d3, ds3, p3, q3, rfl, rfl, rfl, h3, hr3⟩ := trodAll_cons hr2
  obtain ⟨rfl, rfl, rfl⟩ := trodAll_nil hr3
  obtain rfl : args = #[v0, v1, v2, v3] := by cases args; simp_all
  obtain ⟨rfl, rfl⟩ := trodVars_none hV
  have hs0 : ∀ U, Rel 0 mTab.next ⟨W, ltab Try.prog fsT⟩ U (fun b => es0[b]?) mTab W := fun U => Go.Vit.start W
  have hT0 : TabOk mTab mTab := ⟨Nat.le_refl _, fun _ _ => rfl⟩
  obtain ⟨l0, s0⟩ := open_is Try.underlying22 Try.underlying3 (by kernel_rfl) (hval 0 22 v0 rfl rfl) h0
  obtain ⟨x1, rfl, -, -, hx1⟩ := open_int Try.underlying3 (hval 1 3 v1 rfl rfl) h1
  obtain ⟨x2, rfl, -, -, hx2⟩ := open_int Try.underlying3 (hval 2 3 v2 rfl rfl) h2
  obtain ⟨x3, rfl, -, -, hx3⟩ := open_int Try.underlying3 (hval 3 3 v3 rfl rfl) h3
  obtain ⟨M0, κ0, w0, hs1, le0, gt0, vr0, il0, op0⟩ := s0.start hs0
  have hT1 := hT0.mono gt0
  have hT := hT1
  have hrun : Vit.runT (tab 1000000) 200 6 [w0, .int .i64 x1, .int .i64 x2, .int .i64 x3] M0.next M0 isTrue = some () := ordersL_sp (n := 160) (Nat.le_refl _) (Nat.le_refl _) hT il0 op0 (i64_fit hx1) (fun _ _ => rfl)
  refine (calls_of_runT (tab_ok 1000000) (args := [w0, .int .i64 x1, .int .i64 x2, .int .i64 x3]) (cargs := #[v0, .int .i64 x1, .int .i64 x2, .int .i64 x3]) prog_ok (calls_ok rfl) hs1 (VL.cons vr0 (VL.cons (.int _ _) (VL.cons (.int _ _) (VL.cons (.int _ _) (VL.nil _))))) hrun).mono fun e W' ⟨he, hs⟩ => ?_
  subst he
  refine ⟨_, rfl, post_stays (pv := []) hW' (fun _ _ _ => trodAll_cons_mk (shut_bool Try.underlying4 _) trodAll_mk0) (fun sp hsp => trodAll_stays (by kernel_rfl) (by kernel_rfl) (by kernel_rfl) hs (List.all_eq_true.1 (show (Try.f6.params.toList.all fun t => decide (t < Try.prog.types.size)) = true by kernel_rfl) · · |> of_decide_eq_true) hA0 (fun x hx => hsp x (List.mem_append_left _ hx))) (fun _ _ => rfl) rfl hs (ok_one (by kernel_rfl) rfl (okWide_bool_mk Try.underlying4 _))⟩

theorem laid_met (os : Os) : laidMet Try.prog Rows.shadeOrdersRow.laid ((laidWorld os).forCall (fun _ _ => 0) ⟨#[], #[Value.slice none 0 0, Value.int .i64 0, Value.int .i64 0, Value.int .i64 0], []⟩).memory :=
  laidMet_of_run' 8 (by kernel_rfl) (by kernel_rfl)
theorem reads (os : Os) {H : Type} (enc : TypeId × Value → H) : ∃ ds places, DataW.whole enc Try.prog ((laidWorld os).forCall (fun _ _ => 0) ⟨#[], #[Value.slice none 0 0, Value.int .i64 0, Value.int .i64 0, Value.int .i64 0], []⟩).memory Try.f6.params.toList Rows.shadeOrdersSpec.vars false #[Value.slice none 0 0, Value.int .i64 0, Value.int .i64 0, Value.int .i64 0].toList 8 = some (ds, [], places) :=
  ⟨[.nil, .lit (.int .i64 0), .lit (.int .i64 0), .lit (.int .i64 0)], [], by kernel_rfl⟩

theorem lifted (os : Os) (started : os.Started) (H : Type) (enc : TypeId × Value → H) (F : Stop.Interp) :
    ReturnsInHanded {} Try.checked os 6 .any ((OpenSpec.ofChange Rows.shadeOrdersSpec).preRow enc Try.prog Try.f6 Rows.shadeOrdersRow.domain false Rows.shadeOrdersRow.laid) (((OpenSpec.ofChange Rows.shadeOrdersSpec).at F).post enc Try.prog Try.f6 false true false false) := by
  obtain ⟨ds, places, hx⟩ := reads os enc
  refine returnsInHanded_of_row (C := Try.checked) (s := OpenSpec.ofChange Rows.shadeOrdersSpec) own started (by kernel_rfl) Try.func6
    (witness_row_at (enc := enc) (C := Try.checked) false (laidWorld os) #[Value.slice none 0 0, Value.int .i64 0, Value.int .i64 0, Value.int .i64 0] rfl (by kernel_rfl) (by kernel_rfl) (by kernel_rfl)
      (OpenSpec.preRow_of_cond 8 hx (by kernel_rfl) (fun k hk => by cases hk) (by kernel_rfl) (laid_met os))) ?_
  intro W base args ds gs before hval hW _ _ _ hL _ _
  exact contract H enc W base args ds gs before hval hW hL

theorem said : Rows.ShadeOrdersSaid :=
  OpenClaim.holds_of_cond 6 Try.f6 rfl rfl rfl rfl rfl rfl rfl ⟨rfl, rfl, rfl, rfl, rfl⟩ rfl rfl rfl rfl rfl (by kernel_rfl) Try.func6 (by kernel_rfl)
    (of_decide_eq_true (by kernel_rfl)) (by unfold Func.isWrapper; first | (rw [if_pos (by decide +kernel)]; kernel_rfl) | (rw [if_neg (by decide +kernel)]; exact ⟨rfl, rfl⟩))
    (fun os started H enc _ F => by rw [OpenClaim.pre_eq_preRow]; exact lifted os started H enc F)

end Go.Proofs.Ytffomiamkiakcaa.ShadeOrders
