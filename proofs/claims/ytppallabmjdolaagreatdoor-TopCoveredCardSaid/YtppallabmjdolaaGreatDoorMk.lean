/- The even word of 8 boxes and 3 bands, made whatever the world is. -/
import Derived.Test.YtppallabmjdolaaGreatDoorBuilderHere
import Derived.WalkKit
import Derived.BigCall
namespace Go.Proofs
open Go.RowKit
theorem Tryz.wRune (B b : Nat) (bs : List Value) (r : Int) (hr0 : -2147483648 ≤ r) (hr1 : r ≤ 2147483647) (w : World) (h : Lib.IsBuilderF 206 5 B b bs w) (hlen : bs.length + 4 ≤ 140737488355328) (hBw : B ≤ w.heap.size) :
    Calls Tryz.prog 169 #[.pointer (some ⟨b, 0, none⟩), .int .i32 r] w fun e w' => e = .returned (.tuple #[.int .i64 (Lib.runeCells r).length, .nilIface]) ∧ (Lib.BuilderAtF 206 5 B b (.pointer (some ⟨b, 0, none⟩)) (bs ++ Lib.runeCells r) w' ∧ Below B w w' ∧ Lib.OthersKept 5 (some b) w w') := Any.Builder_WriteRune_k Tryz.lays168 Tryz.extraB B b bs r hr0 hr1 w h hlen hBw
theorem Tryz.wStr (B b : Nat) (l : List UInt8) (w : World) (h : Lib.IsBuilderF 206 5 B b (Lib.byteCells l) w) (hBw : B ≤ w.heap.size) :
    Calls Tryz.prog 170 #[.pointer (some ⟨b, 0, none⟩)] w fun e w' => e = .returned (.string ⟨l.toArray⟩) ∧ (Lib.IsBuilderF 206 5 B b (Lib.byteCells l) w' ∧ Below B w w' ∧ Lib.OthersKept 5 (some b) w w') := Any.Builder_String_any_k Tryz.lays169 Tryz.extraB B b l w h hBw
def mkL : List UInt8 := [97, 97, 98, 97, 97, 98, 97, 98]
theorem mk_step : ∀ i, i < 8 → Lib.byteCells (mkL.take i) ++ Lib.runeCells (if 8 ≤ 3 * (i : Int) % 8 + 3 then 98 else 97) = Lib.byteCells (mkL.take (i + 1)) := by
  intro i hi
  match i, hi with
  | 0, _ => rfl
  | 1, _ => rfl
  | 2, _ => rfl
  | 3, _ => rfl
  | 4, _ => rfl
  | 5, _ => rfl
  | 6, _ => rfl
  | 7, _ => rfl
set_option maxHeartbeats 8000000 in
set_option maxRecDepth 1000000 in
theorem Tryz.mk83 (w : World) : Calls Tryz.prog 126 #[.int .i64 8, .int .i64 3] w fun e w' => e = .returned (.tuple #[.string ⟨mkL.toArray⟩, .int .i64 0]) ∧ Below w.heap.size w w' := by
  go_enter Tryz.func126, Tryz.ntmps126
  go_wp2
  go_loopw [8, 17] (fun v8 v17 wr => ∃ i : Nat, i ≤ 8 ∧ v17 = .int .i64 (i : Int) ∧ v8 = .int .i64 ((3 * i % 8 : Nat) : Int) ∧ Lib.IsBuilderF 206 5 w.heap.size w.heap.size (Lib.byteCells (mkL.take i)) wr ∧ Below w.heap.size w wr) (fun _ v17 _ => 8 - (intOf v17).toNat)
  case atStart => exact ⟨0, by omega, rfl, rfl, Lib.IsBuilderF.of (Lib.fresh_isBuilder 206 5 w), (Below.refl _ w).alloc (Nat.le_refl _) _⟩
  case round =>
    obtain ⟨i, hi, rfl, rfl, hI, hbw⟩ := hrel
    have hsz := hbw.size
    have hml : (Lib.byteCells (mkL.take i)).length ≤ 8 := by rw [Lib.byteCells_length, List.length_take]; show min i 8 ≤ 8; omega
    by_cases h8 : i < 8
    · go_wp2_with (go_at_call 169; refine (Tryz.wRune w.heap.size w.heap.size _ _ (by omega) (by omega) _ hI (by omega) hsz).mono ?_; rintro e W1 ⟨rfl, h1, b1, k1⟩)
      · go_roundw
        case rel =>
          refine ⟨_, _, _, _, _, _, _, _, _, _, _, _, _, _, _, _, ⟨i + 1, by omega, ?_, ?_, ?_, hbw.trans b1⟩, rfl⟩
          · rfl
          · congr 1; omega
          · have := mk_step i h8
            rw [if_pos (by omega)] at this
            rw [← this]; exact Or.inr h1
        case measure => simp [intOf]; omega
      · go_roundw
        case rel =>
          refine ⟨_, _, _, _, _, _, _, _, _, _, _, _, _, _, _, _, ⟨i + 1, by omega, ?_, ?_, ?_, hbw.trans b1⟩, rfl⟩
          · rfl
          · congr 1; omega
          · have := mk_step i h8
            rw [if_neg (by omega)] at this
            rw [← this]; exact Or.inr h1
        case measure => simp [intOf]; omega
    · go_wp2_with (go_at_call 170; refine (Tryz.wStr w.heap.size w.heap.size _ _ hI hsz).mono ?_; rintro e W1 ⟨rfl, h1, b1, k1⟩)
      go_ret2
      have hi8 : i = 8 := by omega
      subst hi8
      exact ⟨rfl, hbw.trans b1⟩
end Go.Proofs
