/- The law ShadeWides: the contract and the card. -/
import Derived.Test.YtffomiamkiakcaaShadeWidesAll
import Derived.Test.YtffomiamkiakcaaWorks
import Derived.Test.YtffomiamkiakcaaCoreD
set_option linter.unusedSimpArgs false
set_option linter.unusedVariables false
set_option maxRecDepth 1000000
namespace Go.Proofs.Ytffomiamkiakcaa.ShadeWides
open Go Go.Vit Go.Proofs Go.Proofs.Ytffomiamkiakcaa Go.ChangeShapes Go.WideShapes Go.RowKit

theorem contract (H : Type) (enc : TypeId × Value → H) (W : World) (base : Nat) (args : Array Value) (ds gs : List (DataW H)) (before : List MemPlace)
    (hval : ∀ (j : Nat) t v, Try.f5.params[j]? = some t → args[j]? = some v → Value.okWide Try.prog W .any base t v)
    (hW : DataW.Whole enc Try.prog Try.f5.params.toList Rows.shadeWidesSpec.vars false W args.toList ds gs before) (hL : laidMetH Try.prog Rows.shadeWidesRow.laid W) :
    Calls Try.prog 5 args W fun e W' => ∃ v, e = .returned v ∧ Rows.shadeWidesSpec.post enc Try.prog Try.f5 false true false false W args v W' := by
  have hW' := hW
  obtain ⟨p, q, hA, hV, rfl, hfz, hnd⟩ := hW
  have hA0 : DataW.TrodAll enc Try.prog W 0 (fun _ => true) true Try.f5.params.toList args.toList ds p := hA
  have hA : DataW.TrodAll enc Try.prog W 0 (fun _ => true) true Try.f5.params.toList args.toList ds p := hA
  rw [Try.params5] at hA hval
  obtain ⟨v0, vs0, d0, ds0, p0, q0, hargs, rfl, rfl, h0, hr0⟩ := trodAll_cons hA
  obtain ⟨v1, vs1, d1, ds1, p1, q1, rfl, rfl, rfl, h1, hr1⟩ := trodAll_cons hr0
  obtain ⟨rfl, rfl, rfl⟩ := trodAll_nil hr1
  obtain rfl : args = #[v0, v1] := by cases args; simp_all
  obtain ⟨rfl, rfl⟩ := trodVars_none hV
  have hs0 : ∀ U, Rel 0 mTab.next ⟨W, ltab Try.prog fsT⟩ U (fun b => es0[b]?) mTab W := fun U => Go.Vit.start W
  have hT0 : TabOk mTab mTab := ⟨Nat.le_refl _, fun _ _ => rfl⟩
  obtain ⟨l0, s0⟩ := open_is Try.underlying22 Try.underlying3 (by kernel_rfl) (hval 0 22 v0 rfl rfl) h0
  obtain ⟨x1, rfl, -, -⟩ := open_bool Try.underlying4 (hval 1 4 v1 rfl rfl) h1
  obtain ⟨M0, κ0, w0, hs1, le0, gt0, vr0, il0, op0⟩ := s0.start hs0
  have hT1 := hT0.mono gt0
  have hT := hT1
  have hrun : Vit.runT (tab 1000000) 200 5 [w0, .bool x1] M0.next M0 isTrue = some () := widesL_sp (n := 180) (Nat.le_refl _) (Nat.le_refl _) hT il0 op0 (fun _ _ => rfl)
  refine (calls_of_runT (tab_ok 1000000) (args := [w0, .bool x1]) (cargs := #[v0, .bool x1]) prog_ok (calls_ok rfl) hs1 (VL.cons vr0 (VL.cons (.bool _) (VL.nil _))) hrun).mono fun e W' ⟨he, hs⟩ => ?_
  subst he
  refine ⟨_, rfl, post_stays (pv := []) hW' (fun _ _ _ => trodAll_cons_mk (shut_bool Try.underlying4 _) trodAll_mk0) (fun sp hsp => trodAll_stays (by kernel_rfl) (by kernel_rfl) (by kernel_rfl) hs (List.all_eq_true.1 (show (Try.f5.params.toList.all fun t => decide (t < Try.prog.types.size)) = true by kernel_rfl) · · |> of_decide_eq_true) hA0 (fun x hx => hsp x (List.mem_append_left _ hx))) (fun _ _ => rfl) rfl hs (ok_one (by kernel_rfl) rfl (okWide_bool_mk Try.underlying4 _))⟩

theorem laid_met (os : Os) : laidMet Try.prog Rows.shadeWidesRow.laid ((laidWorld os).forCall (fun _ _ => 0) ⟨#[], #[Value.slice none 0 0, Value.bool false], []⟩).memory :=
  laidMet_of_run' 8 (by kernel_rfl) (by kernel_rfl)
theorem reads (os : Os) {H : Type} (enc : TypeId × Value → H) : ∃ ds places, DataW.whole enc Try.prog ((laidWorld os).forCall (fun _ _ => 0) ⟨#[], #[Value.slice none 0 0, Value.bool false], []⟩).memory Try.f5.params.toList Rows.shadeWidesSpec.vars false #[Value.slice none 0 0, Value.bool false].toList 8 = some (ds, [], places) :=
  ⟨[.nil, .lit (.bool false)], [], by kernel_rfl⟩

theorem lifted (os : Os) (started : os.Started) (H : Type) (enc : TypeId × Value → H) (F : Stop.Interp) :
    ReturnsInHanded {} Try.checked os 5 .any ((OpenSpec.ofChange Rows.shadeWidesSpec).preRow enc Try.prog Try.f5 Rows.shadeWidesRow.domain false Rows.shadeWidesRow.laid) (((OpenSpec.ofChange Rows.shadeWidesSpec).at F).post enc Try.prog Try.f5 false true false false) := by
  obtain ⟨ds, places, hx⟩ := reads os enc
  refine returnsInHanded_of_row (C := Try.checked) (s := OpenSpec.ofChange Rows.shadeWidesSpec) own started (by kernel_rfl) Try.func5
    (witness_row_at (enc := enc) (C := Try.checked) false (laidWorld os) #[Value.slice none 0 0, Value.bool false] rfl (by kernel_rfl) (by kernel_rfl) (by kernel_rfl)
      (OpenSpec.preRow_of_cond 8 hx (by kernel_rfl) (fun k hk => by cases hk) (by kernel_rfl) (laid_met os))) ?_
  intro W base args ds gs before hval hW _ _ _ hL _ _
  exact contract H enc W base args ds gs before hval hW hL

theorem said : Rows.ShadeWidesSaid :=
  OpenClaim.holds_of_cond 5 Try.f5 rfl rfl rfl rfl rfl rfl rfl ⟨rfl, rfl, rfl, rfl, rfl⟩ rfl rfl rfl rfl rfl (by kernel_rfl) Try.func5 (by kernel_rfl)
    (of_decide_eq_true (by kernel_rfl)) (by unfold Func.isWrapper; first | (rw [if_pos (by decide +kernel)]; kernel_rfl) | (rw [if_neg (by decide +kernel)]; exact ⟨rfl, rfl⟩))
    (fun os started H enc _ F => by rw [OpenClaim.pre_eq_preRow]; exact lifted os started H enc F)

end Go.Proofs.Ytffomiamkiakcaa.ShadeWides
