/- The law ShadeProved: the contract and the card. -/
import Derived.Test.YtffomiamkiakcaaShadeProvedAll
import Derived.Test.YtffomiamkiakcaaWorks
import Derived.Test.YtffomiamkiakcaaCoreD
set_option linter.unusedSimpArgs false
set_option linter.unusedVariables false
set_option maxRecDepth 1000000
namespace Go.Proofs.Ytffomiamkiakcaa.ShadeProved
open Go Go.Vit Go.Proofs Go.Proofs.Ytffomiamkiakcaa Go.ChangeShapes Go.WideShapes Go.RowKit

theorem contract (H : Type) (enc : TypeId × Value → H) (W : World) (base : Nat) (args : Array Value) (ds gs : List (DataW H)) (before : List MemPlace)
    (hval : ∀ (j : Nat) t v, Try.f13.params[j]? = some t → args[j]? = some v → Value.okWide Try.prog W .any base t v)
    (hW : DataW.Whole enc Try.prog Try.f13.params.toList Rows.shadeProvedSpec.vars false W args.toList ds gs before) (hL : laidMetH Try.prog Rows.shadeProvedRow.laid W) :
    Calls Try.prog 13 args W fun e W' => ∃ v, e = .returned v ∧ Rows.shadeProvedSpec.post enc Try.prog Try.f13 false true false false W args v W' := by
  have hW' := hW
  obtain ⟨p, q, hA, hV, rfl, hfz, hnd⟩ := hW
  have hA0 : DataW.TrodAll enc Try.prog W 0 (fun _ => true) true Try.f13.params.toList args.toList ds p := hA
  have hA : DataW.TrodAll enc Try.prog W 0 (fun _ => true) true Try.f13.params.toList args.toList ds p := hA
  rw [Try.params13] at hA hval
  obtain ⟨v0, vs0, d0, ds0, p0, q0, hargs, rfl, rfl, h0, hr0⟩ := trodAll_cons hA
  obtain ⟨v1, vs1, d1, ds1, p1, q1, rfl, rfl, rfl, h1, hr1⟩ := trodAll_cons hr0
  obtain ⟨v2, vs2, d2, ds2, p2, q2, rfl, rfl, rfl, h2, hr2⟩ := trodAll_cons hr1
  obtain ⟨v3, vs3, d3, ds3, p3, q3, rfl, rfl, rfl, h3, hr3⟩ := trodAll_cons hr2
  obtain ⟨rfl, rfl, rfl⟩ := trodAll_nil hr3
  obtain rfl : args = #[v0, v1, v2, v3] := by cases args; simp_all
  obtain ⟨rfl, rfl⟩ := trodVars_none hV
  have hs0 : ∀ U, Rel 0 mTab.next ⟨W, ltab Try.prog fsT⟩ U (fun b => es0[b]?) mTab W := fun U => Go.Vit.start W
  have hT0 : TabOk mTab mTab := ⟨Nat.le_refl _, fun _ _ => rfl⟩
  obtain ⟨ns0, rfl, hk0⟩ := open_agg (ts := [5, 5, 5, 5, 5, 5, 5, 5]) (ks := [.u8, .u8, .u8, .u8, .u8, .u8, .u8, .u8]) (by kernel_rfl) (by kernel_rfl) (by kernel_rfl) (by kernel_rfl) (hval 0 44 v0 rfl rfl)
  obtain ⟨x1, rfl, -, -⟩ := open_bool Try.underlying4 (hval 1 4 v1 rfl rfl) h1
  obtain ⟨x2, rfl, -, -, hx2⟩ := open_int Try.underlying5 (hval 2 5 v2 rfl rfl) h2
  obtain ⟨ns3, rfl, hk3⟩ := open_agg (ts := [5, 5, 5, 5, 5, 5, 5]) (ks := [.u8, .u8, .u8, .u8, .u8, .u8, .u8]) (by kernel_rfl) (by kernel_rfl) (by kernel_rfl) (by kernel_rfl) (hval 3 42 v3 rfl rfl)
  have hT := hT0
  have hrun : Vit.runT (tab 1000000) 200 13 [.agg ⟨intsV ns0⟩, .bool x1, .int .u8 x2, .agg ⟨intsV ns3⟩] mTab.next mTab isTrue = some () := by obtain ⟨b0, gl, hsv, q0, q1, q2⟩ := tray_of hk0; obtain ⟨c2, rfl, hc2⟩ := u8_nat hx2; obtain ⟨bl7, hb1, hb2, hb3⟩ := u8s_of (n := 7) hk3.1 hk3.2; rw [hsv, hb1]; exact provedL_sp (n := 160) (Nat.le_refl _) (Nat.le_refl _) hT q0 q1 q2 hc2 hb2 hb3 (fun _ _ => rfl)
  refine (calls_of_runT (tab_ok 1000000) (args := [.agg ⟨intsV ns0⟩, .bool x1, .int .u8 x2, .agg ⟨intsV ns3⟩]) (cargs := #[.agg (intsV ns0).toArray, .bool x1, .int .u8 x2, .agg (intsV ns3).toArray]) prog_ok (calls_ok rfl) hs0 (VL.cons (VL.agg (VL.intsV _ ns0)) (VL.cons (.bool _) (VL.cons (.int _ _) (VL.cons (VL.agg (VL.intsV _ ns3)) (VL.nil _))))) hrun).mono fun e W' ⟨he, hs⟩ => ?_
  subst he
  refine ⟨_, rfl, post_stays (pv := []) hW' (fun _ _ _ => trodAll_cons_mk (shut_bool Try.underlying4 _) trodAll_mk0) (fun sp hsp => trodAll_stays (by kernel_rfl) (by kernel_rfl) (by kernel_rfl) hs (List.all_eq_true.1 (show (Try.f13.params.toList.all fun t => decide (t < Try.prog.types.size)) = true by kernel_rfl) · · |> of_decide_eq_true) hA0 (fun x hx => hsp x (List.mem_append_left _ hx))) (fun _ _ => rfl) rfl hs (ok_one (by kernel_rfl) rfl (okWide_bool_mk Try.underlying4 _))⟩

theorem laid_met (os : Os) : laidMet Try.prog Rows.shadeProvedRow.laid ((laidWorld os).forCall (fun _ _ => 0) ⟨#[], #[Value.agg #[.int .u8 0, .int .u8 0, .int .u8 0, .int .u8 0, .int .u8 0, .int .u8 0, .int .u8 0, .int .u8 0], Value.bool false, Value.int .u8 0, Value.agg #[.int .u8 0, .int .u8 0, .int .u8 0, .int .u8 0, .int .u8 0, .int .u8 0, .int .u8 0]], []⟩).memory :=
  laidMet_of_run' 8 (by kernel_rfl) (by kernel_rfl)
theorem reads (os : Os) {H : Type} (enc : TypeId × Value → H) : ∃ ds places, DataW.whole enc Try.prog ((laidWorld os).forCall (fun _ _ => 0) ⟨#[], #[Value.agg #[.int .u8 0, .int .u8 0, .int .u8 0, .int .u8 0, .int .u8 0, .int .u8 0, .int .u8 0, .int .u8 0], Value.bool false, Value.int .u8 0, Value.agg #[.int .u8 0, .int .u8 0, .int .u8 0, .int .u8 0, .int .u8 0, .int .u8 0, .int .u8 0]], []⟩).memory Try.f13.params.toList Rows.shadeProvedSpec.vars false #[Value.agg #[.int .u8 0, .int .u8 0, .int .u8 0, .int .u8 0, .int .u8 0, .int .u8 0, .int .u8 0, .int .u8 0], Value.bool false, Value.int .u8 0, Value.agg #[.int .u8 0, .int .u8 0, .int .u8 0, .int .u8 0, .int .u8 0, .int .u8 0, .int .u8 0]].toList 8 = some (ds, [], places) :=
  ⟨[.agg [.lit (.int .u8 0), .agg [.lit (.int .u8 0), .lit (.int .u8 0), .lit (.int .u8 0), .lit (.int .u8 0), .lit (.int .u8 0), .lit (.int .u8 0), .lit (.int .u8 0)]], .lit (.bool false), .lit (.int .u8 0), .agg [.lit (.int .u8 0), .lit (.int .u8 0), .lit (.int .u8 0), .lit (.int .u8 0), .lit (.int .u8 0), .lit (.int .u8 0), .lit (.int .u8 0)]], [], by kernel_rfl⟩

theorem lifted (os : Os) (started : os.Started) (H : Type) (enc : TypeId × Value → H) (F : Stop.Interp) :
    ReturnsInHanded {} Try.checked os 13 .any ((OpenSpec.ofChange Rows.shadeProvedSpec).preRow enc Try.prog Try.f13 Rows.shadeProvedRow.domain false Rows.shadeProvedRow.laid) (((OpenSpec.ofChange Rows.shadeProvedSpec).at F).post enc Try.prog Try.f13 false true false false) := by
  obtain ⟨ds, places, hx⟩ := reads os enc
  refine returnsInHanded_of_row (C := Try.checked) (s := OpenSpec.ofChange Rows.shadeProvedSpec) own started (by kernel_rfl) Try.func13
    (witness_row_at (enc := enc) (C := Try.checked) false (laidWorld os) #[Value.agg #[.int .u8 0, .int .u8 0, .int .u8 0, .int .u8 0, .int .u8 0, .int .u8 0, .int .u8 0, .int .u8 0], Value.bool false, Value.int .u8 0, Value.agg #[.int .u8 0, .int .u8 0, .int .u8 0, .int .u8 0, .int .u8 0, .int .u8 0, .int .u8 0]] rfl (by kernel_rfl) (by kernel_rfl) (by kernel_rfl)
      (OpenSpec.preRow_of_cond 8 hx (by kernel_rfl) (fun k hk => by cases hk) (by kernel_rfl) (laid_met os))) ?_
  intro W base args ds gs before hval hW _ _ _ hL _ _
  exact contract H enc W base args ds gs before hval hW hL

theorem said : Rows.ShadeProvedSaid :=
  OpenClaim.holds_of_cond 13 Try.f13 rfl rfl rfl rfl rfl rfl rfl ⟨rfl, rfl, rfl, rfl, rfl⟩ rfl rfl rfl rfl rfl (by kernel_rfl) Try.func13 (by kernel_rfl)
    (of_decide_eq_true (by kernel_rfl)) (by unfold Func.isWrapper; first | (rw [if_pos (by decide +kernel)]; kernel_rfl) | (rw [if_neg (by decide +kernel)]; exact ⟨rfl, rfl⟩))
    (fun os started H enc _ F => by rw [OpenClaim.pre_eq_preRow]; exact lifted os started H enc F)

end Go.Proofs.Ytffomiamkiakcaa.ShadeProved
