/- Even words are made, and words checked, whatever the world is. -/
import Derived.Test.YtppallabmjdolaaDoorBuilderHere
import Derived.WalkKit
import Derived.BigCall
namespace Go.Proofs
open Go.RowKit
theorem Tryd.wRune (B b : Nat) (bs : List Value) (r : Int) (hr0 : -2147483648 ≤ r) (hr1 : r ≤ 2147483647) (w : World) (h : Lib.IsBuilderF 73 5 B b bs w) (hlen : bs.length + 4 ≤ 140737488355328) (hBw : B ≤ w.heap.size) :
    Calls Tryd.prog 37 #[.pointer (some ⟨b, 0, none⟩), .int .i32 r] w fun e w' => e = .returned (.tuple #[.int .i64 (Lib.runeCells r).length, .nilIface]) ∧ (Lib.BuilderAtF 73 5 B b (.pointer (some ⟨b, 0, none⟩)) (bs ++ Lib.runeCells r) w' ∧ Below B w w' ∧ Lib.OthersKept 5 (some b) w w') := Any.Builder_WriteRune_k Tryd.lays168 Tryd.extraB B b bs r hr0 hr1 w h hlen hBw
theorem Tryd.wStr (B b : Nat) (l : List UInt8) (w : World) (h : Lib.IsBuilderF 73 5 B b (Lib.byteCells l) w) (hBw : B ≤ w.heap.size) :
    Calls Tryd.prog 38 #[.pointer (some ⟨b, 0, none⟩)] w fun e w' => e = .returned (.string ⟨l.toArray⟩) ∧ (Lib.IsBuilderF 73 5 B b (Lib.byteCells l) w' ∧ Below B w w' ∧ Lib.OthersKept 5 (some b) w w') := Any.Builder_String_any_k Tryd.lays169 Tryd.extraB B b l w h hBw
def restN (n k : Nat) : Nat → Nat
  | 0 => 0
  | i + 1 => if n ≤ restN n k i + k then restN n k i + k - n else restN n k i + k
def wordN (n k : Nat) : Nat → List UInt8
  | 0 => []
  | i + 1 => wordN n k i ++ [if n ≤ restN n k i + k then 98 else 97]
theorem restN_lt {n k : Nat} (h1 : 1 ≤ n) (hk : k ≤ n) : ∀ i, restN n k i < n
  | 0 => h1
  | i + 1 => by
    have := restN_lt h1 hk i
    show (if n ≤ restN n k i + k then restN n k i + k - n else restN n k i + k) < n
    split <;> omega
theorem wordN_len (n k : Nat) : ∀ i, (wordN n k i).length = i
  | 0 => rfl
  | i + 1 => by
    show (wordN n k i ++ [_]).length = i + 1
    rw [List.length_append, wordN_len n k i]; rfl
theorem Tryd.given0 {n k : Nat} (h1 : 1 ≤ n) (h16 : n ≤ 16) (hk : k ≤ n) (w : World) : Calls Tryd.prog 36 #[.int .i64 (n : Int), .int .i64 (k : Int)] w fun e w' => e = .returned (.int .i64 0) ∧ w' = w := by
  go_enter Tryd.func36, Tryd.ntmps36
  go_wp2
  all_goals first | (exfalso; omega) | (go_ret; exact ⟨rfl, rfl⟩) | skip
theorem word_step {n k i : Nat} : Lib.byteCells (wordN n k i) ++ Lib.runeCells (if n ≤ restN n k i + k then 98 else 97) = Lib.byteCells (wordN n k (i + 1)) := by
  show _ = Lib.byteCells (wordN n k i ++ [if n ≤ restN n k i + k then 98 else 97])
  rw [Lib.byteCells_append]
  congr 1
  split <;> rfl
set_option maxHeartbeats 8000000 in
set_option maxRecDepth 1000000 in
theorem Tryd.mkA {n k : Nat} (h1 : 1 ≤ n) (h16 : n ≤ 16) (hk : k ≤ n) (w : World) : Calls Tryd.prog 12 #[.int .i64 (n : Int), .int .i64 (k : Int)] w fun e w' => e = .returned (.tuple #[.string ⟨(wordN n k n).toArray⟩, .int .i64 0]) ∧ Below w.heap.size w w' := by
  go_enter Tryd.func12, Tryd.ntmps12
  go_wp2_with (go_at_call 36; refine (Tryd.given0 h1 h16 hk _).mono ?_; rintro e w ⟨rfl, rfl⟩)
  go_loopw [8, 17] (fun v8 v17 wr => ∃ i : Nat, i ≤ n ∧ v17 = .int .i64 (i : Int) ∧ v8 = .int .i64 (restN n k i : Int) ∧ Lib.IsBuilderF 73 5 w.heap.size w.heap.size (Lib.byteCells (wordN n k i)) wr ∧ Below w.heap.size w wr) (fun _ v17 _ => n - (intOf v17).toNat)
  case atStart => exact ⟨0, by omega, rfl, rfl, Lib.IsBuilderF.of (Lib.fresh_isBuilder 73 5 w), (Below.refl _ w).alloc (Nat.le_refl _) _⟩
  case round =>
    obtain ⟨i, hi, rfl, rfl, hI, hbw⟩ := hrel
    have hsz := hbw.size
    have hml : (Lib.byteCells (wordN n k i)).length ≤ 16 := by rw [Lib.byteCells_length, wordN_len]; omega
    have hrl := restN_lt h1 hk i
    by_cases h8 : i < n
    · go_wp2_with (go_at_call 37; refine (Tryd.wRune w.heap.size w.heap.size _ _ (by omega) (by omega) _ hI (by omega) hsz).mono ?_; rintro e W1 ⟨rfl, g1, b1, k1⟩)
      · go_roundw
        case rel =>
          refine ⟨i + 1, by omega, ?_, ?_, ?_, hbw.trans b1⟩
          · rfl
          · show _ = Value.int .i64 ((if n ≤ restN n k i + k then restN n k i + k - n else restN n k i + k : Nat) : Int)
            rw [if_pos (by omega)]; congr 1; omega
          · have := word_step (n := n) (k := k) (i := i)
            rw [if_pos (by omega)] at this
            rw [← this]; exact Or.inr g1
        case measure => simp [intOf]; omega
      · go_roundw
        case rel =>
          refine ⟨i + 1, by omega, ?_, ?_, ?_, hbw.trans b1⟩
          · rfl
          · show _ = Value.int .i64 ((if n ≤ restN n k i + k then restN n k i + k - n else restN n k i + k : Nat) : Int)
            rw [if_neg (by omega)]; congr 1
          · have := word_step (n := n) (k := k) (i := i)
            rw [if_neg (by omega)] at this
            rw [← this]; exact Or.inr g1
        case measure => simp [intOf]; omega
    · go_wp2_with (go_at_call 38; refine (Tryd.wStr w.heap.size w.heap.size _ _ hI hsz).mono ?_; rintro e W1 ⟨rfl, g1, b1, k1⟩)
      go_ret2
      have hi8 : i = n := by omega
      subst hi8
      exact ⟨rfl, hbw.trans b1⟩
set_option maxHeartbeats 8000000 in
set_option maxRecDepth 1000000 in
theorem Tryd.chk0 {l : List UInt8} (h1 : 1 ≤ l.length) (h16 : l.length ≤ 16) (hl : ∀ c ∈ l, c = 97 ∨ c = 98) (w : World) : Calls Tryd.prog 41 #[.string ⟨l.toArray⟩] w fun e w' => e = .returned (.int .i64 0) ∧ Below w.heap.size w w' := by
  have hsz : (⟨l.toArray⟩ : ByteArray).size = l.length := rfl
  go_enter Tryd.func41, Tryd.ntmps41
  go_wp2
  · exfalso
    rename_i h
    rw [List.isEmpty_iff] at h
    rw [h] at h1; simp at h1
  · go_loopw [] (fun wr => ∃ pos : Nat, pos ≤ l.length ∧ wr.heap[w.heap.size]? = some (.stringIter ⟨l.toArray⟩ pos) ∧ Below w.heap.size w wr) (fun wr => l.length - wr.iterPos w.heap.size)
    case atStart =>
      refine ⟨0, by omega, ?_, (Below.refl _ w).alloc (Nat.le_refl _) _⟩
      have := World.iter_heap w (⟨l.toArray⟩ : ByteArray) 0
      simpa using this
    case round =>
      obtain ⟨pos, hpl, hit, hbw⟩ := hrel
      have hwsz : w.heap.size < wr.heap.size := (Array.getElem?_eq_some_iff.1 hit).1
      by_cases hp : pos < l.length
      · have hps : pos < (⟨l.toArray⟩ : ByteArray).size := hp
        have hnx : ∀ ty, (Instr.next (.pointer (some ⟨w.heap.size, 0, none⟩)) true ty).run Tryd.prog wr = _ := fun ty => Lib.run_next_any_at wr w.heap.size ⟨l.toArray⟩ pos ty hit hps
        have hcm : l[pos] ∈ l := List.getElem_mem hp
        have hbyte : (⟨l.toArray⟩ : ByteArray)[pos] = l[pos] := rfl
        have hc := hl _ hcm
        have hdec := decode_ascii (⟨l.toArray⟩ : ByteArray) pos hps (by rw [hbyte]; rcases hc with h | h <;> rw [h] <;> decide)
        rw [hbyte] at hdec
        have hd1 : (Utf8.decode (⟨l.toArray⟩ : ByteArray) pos).1 = l[pos].toNat := by rw [hdec]
        have hd2 : (Utf8.decode (⟨l.toArray⟩ : ByteArray) pos).2 = 1 := by rw [hdec]
        have hit2 := Lib.iterAt_heap wr w.heap.size (⟨l.toArray⟩ : ByteArray) pos (pos + 1) hit
        have hbw2 := Lib.below_iterAt hbw (k := w.heap.size) (by omega) (⟨l.toArray⟩ : ByteArray) (pos + 1)
        rw [hd1, hd2] at hnx
        have hn : l[pos].toNat = 97 ∨ l[pos].toNat = 98 := by rcases hc with h | h <;> rw [h] <;> decide
        generalize l[pos].toNat = c at hnx hn
        rcases hn with rfl | rfl
        · go_wp2
          go_roundw
          case rel => exact ⟨pos + 1, by omega, hit2, hbw2⟩
          case measure =>
            simp only [World.iterPos, hit2, hit]
            omega
        · go_wp2
          go_roundw
          case rel => exact ⟨pos + 1, by omega, hit2, hbw2⟩
          case measure =>
            simp only [World.iterPos, hit2, hit]
            omega
      · have hnx : ∀ ty, (Instr.next (.pointer (some ⟨w.heap.size, 0, none⟩)) true ty).run Tryd.prog wr = _ := fun ty => Lib.run_next_end_at wr w.heap.size ⟨l.toArray⟩ pos ty hit hp
        go_wp2
        go_ret
        exact ⟨rfl, hbw⟩
end Go.Proofs
