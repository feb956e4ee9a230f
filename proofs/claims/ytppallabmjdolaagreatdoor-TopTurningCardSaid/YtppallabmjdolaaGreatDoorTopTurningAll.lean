/- All inputs of the law TopTurning. -/
import Derived.Test.YtppallabmjdolaaGreatDoorTopTurningRun0
import Derived.Test.YtppallabmjdolaaGreatDoorTopTurningRun1
import Derived.Test.YtppallabmjdolaaGreatDoorTopTurningRun2
import Derived.Test.YtppallabmjdolaaGreatDoorTopTurningRun3
import Derived.Test.YtppallabmjdolaaGreatDoorTopTurningRun4
import Derived.Test.YtppallabmjdolaaGreatDoorTopTurningRun5
import Derived.Test.YtppallabmjdolaaGreatDoorTopTurningRun6
import Derived.Test.YtppallabmjdolaaGreatDoorTopTurningRun7
import Derived.Test.YtppallabmjdolaaGreatDoorTopTurningRun8
import Derived.Test.YtppallabmjdolaaGreatDoorTopTurningRun9
import Derived.Test.YtppallabmjdolaaGreatDoorTopTurningRun10
import Derived.Test.YtppallabmjdolaaGreatDoorTopTurningRun11
import Derived.Test.YtppallabmjdolaaGreatDoorTopTurningRun12
import Derived.Test.YtppallabmjdolaaGreatDoorTopTurningRun13
import Derived.Test.YtppallabmjdolaaGreatDoorTopTurningRun14
import Derived.Test.YtppallabmjdolaaGreatDoorTopTurningRun15
import Derived.Test.YtppallabmjdolaaGreatDoorTopTurningRun16
import Derived.Test.YtppallabmjdolaaGreatDoorTopTurningRun17
import Derived.Test.YtppallabmjdolaaGreatDoorTopTurningRun18
import Derived.Test.YtppallabmjdolaaGreatDoorTopTurningRun19
import Derived.Test.YtppallabmjdolaaGreatDoorTopTurningRun20
import Derived.Test.YtppallabmjdolaaGreatDoorTopTurningRun21
import Derived.Test.YtppallabmjdolaaGreatDoorTopTurningRun22
import Derived.Test.YtppallabmjdolaaGreatDoorTopTurningRun23
import Derived.Test.YtppallabmjdolaaGreatDoorCoreD
set_option linter.unusedSimpArgs false
set_option linter.unusedVariables false
set_option maxRecDepth 1000000
namespace Go.Proofs.YtppallabmjdolaaGreatDoor.TopTurning
open Go Go.Vit Go.Proofs
theorem rw8 {lf n : Nat} : Vit.runT (tabR (β := Unit) lf) (n + 1) 8 = S8 lf (Vit.runT (tabR lf) n) := by kernel_rfl
noncomputable def memOf (n : Int) : Mem := (Vit.runT (tabR (β := Mem) 1000000) 199 47 [.int .i64 n] mTab.next mTab (fun _ m => some m)).getD mTab
theorem pre0 (K : Value → Option Unit) : (oCv .i64 (.int .u8 (.ofNat 0)) fun t4 => oInt .rem .i64 t4 (.int .i64 (.ofNat 7)) fun t5 => oInt .add .i64 (.int .i64 (.ofNat 1)) t5 K) = K (.int .i64 (.ofNat 1)) := by kernel_rfl
theorem h0 (K : Value → Mem → Option Unit) : Vit.runT (tabR 1000000) 199 47 [.int .i64 (.ofNat 1)] mTab.next mTab K = K (.tuple ⟨[.int .i64 (.ofNat 1), .int .i64 (.ofNat 0)]⟩) (memOf (.ofNat 1)) := by kernel_rfl
theorem pre1 (K : Value → Option Unit) : (oCv .i64 (.int .u8 (.ofNat 1)) fun t4 => oInt .rem .i64 t4 (.int .i64 (.ofNat 7)) fun t5 => oInt .add .i64 (.int .i64 (.ofNat 1)) t5 K) = K (.int .i64 (.ofNat 2)) := by kernel_rfl
theorem h1 (K : Value → Mem → Option Unit) : Vit.runT (tabR 1000000) 199 47 [.int .i64 (.ofNat 2)] mTab.next mTab K = K (.tuple ⟨[.int .i64 (.ofNat 1), .int .i64 (.ofNat 0)]⟩) (memOf (.ofNat 2)) := by kernel_rfl
theorem pre2 (K : Value → Option Unit) : (oCv .i64 (.int .u8 (.ofNat 2)) fun t4 => oInt .rem .i64 t4 (.int .i64 (.ofNat 7)) fun t5 => oInt .add .i64 (.int .i64 (.ofNat 1)) t5 K) = K (.int .i64 (.ofNat 3)) := by kernel_rfl
theorem h2 (K : Value → Mem → Option Unit) : Vit.runT (tabR 1000000) 199 47 [.int .i64 (.ofNat 3)] mTab.next mTab K = K (.tuple ⟨[.int .i64 (.ofNat 2), .int .i64 (.ofNat 0)]⟩) (memOf (.ofNat 3)) := by kernel_rfl
theorem pre3 (K : Value → Option Unit) : (oCv .i64 (.int .u8 (.ofNat 3)) fun t4 => oInt .rem .i64 t4 (.int .i64 (.ofNat 7)) fun t5 => oInt .add .i64 (.int .i64 (.ofNat 1)) t5 K) = K (.int .i64 (.ofNat 4)) := by kernel_rfl
theorem h3 (K : Value → Mem → Option Unit) : Vit.runT (tabR 1000000) 199 47 [.int .i64 (.ofNat 4)] mTab.next mTab K = K (.tuple ⟨[.int .i64 (.ofNat 5), .int .i64 (.ofNat 0)]⟩) (memOf (.ofNat 4)) := by kernel_rfl
theorem pre4 (K : Value → Option Unit) : (oCv .i64 (.int .u8 (.ofNat 4)) fun t4 => oInt .rem .i64 t4 (.int .i64 (.ofNat 7)) fun t5 => oInt .add .i64 (.int .i64 (.ofNat 1)) t5 K) = K (.int .i64 (.ofNat 5)) := by kernel_rfl
theorem h4 (K : Value → Mem → Option Unit) : Vit.runT (tabR 1000000) 199 47 [.int .i64 (.ofNat 5)] mTab.next mTab K = K (.tuple ⟨[.int .i64 (.ofNat 16), .int .i64 (.ofNat 0)]⟩) (memOf (.ofNat 5)) := by kernel_rfl
theorem pre5 (K : Value → Option Unit) : (oCv .i64 (.int .u8 (.ofNat 5)) fun t4 => oInt .rem .i64 t4 (.int .i64 (.ofNat 7)) fun t5 => oInt .add .i64 (.int .i64 (.ofNat 1)) t5 K) = K (.int .i64 (.ofNat 6)) := by kernel_rfl
theorem h5 (K : Value → Mem → Option Unit) : Vit.runT (tabR 1000000) 199 47 [.int .i64 (.ofNat 6)] mTab.next mTab K = K (.tuple ⟨[.int .i64 (.ofNat 61), .int .i64 (.ofNat 0)]⟩) (memOf (.ofNat 6)) := by kernel_rfl
theorem pre6 (K : Value → Option Unit) : (oCv .i64 (.int .u8 (.ofNat 6)) fun t4 => oInt .rem .i64 t4 (.int .i64 (.ofNat 7)) fun t5 => oInt .add .i64 (.int .i64 (.ofNat 1)) t5 K) = K (.int .i64 (.ofNat 7)) := by kernel_rfl
theorem h6 (K : Value → Mem → Option Unit) : Vit.runT (tabR 1000000) 199 47 [.int .i64 (.ofNat 7)] mTab.next mTab K = K (.tuple ⟨[.int .i64 (.ofNat 272), .int .i64 (.ofNat 0)]⟩) (memOf (.ofNat 7)) := by kernel_rfl
section
attribute [local irreducible] Vit.runT loopS
theorem same_a {a lf n L : Nat} {y : Int} {m : Mem} {k : Value → Mem → Option Unit} (ha : a < 256) :
    Vit.runT (tabR lf) (n + 1) 8 [.int .u8 (a : Int), .int .u16 y] L m k = Vit.runT (tabR lf) (n + 1) 8 [.int .u8 ((a % 7 : Nat) : Int), .int .u16 y] L m k := by
  have h6 := Nat.mod_lt a (show 0 < 7 by omega)
  rw [rw8]
  have key : ∀ (b : Nat) (_ : b < 256) (K : Value → Option Unit), (oCv .i64 (.int .u8 (b : Int)) fun t4 => oInt .rem .i64 t4 (.int .i64 (.ofNat 7)) K) = K (.int .i64 ((b % 7 : Nat) : Int)) := fun b hb K => by
    rw [oCv_nat (by omega), show Int.ofNat 7 = ((7 : Nat) : Int) from rfl, oInt_remN (by omega)]
  refine (key a ha _).trans (Eq.trans ?_ (key (a % 7) (by omega) _).symm)
  rw [Nat.mod_mod]
theorem u16_nat {x : Int} (h : (Lit.int .u16 x).wf = true) : ∃ a : Nat, x = a ∧ a < 65536 := by
  have h1 : IntKind.u16.min ≤ x ∧ x ≤ IntKind.u16.max := by simpa [Lit.wf] using h
  have h2 : (0 : Int) ≤ x := h1.1
  have h3 : x ≤ (65535 : Int) := h1.2
  exact ⟨x.toNat, by omega, by omega⟩

theorem same_0 {b : Nat} (hb : b < 65536) : Vit.runT (tabR 1000000) 200 8 [.int .u8 (.ofNat 0), .int .u16 (b : Int)] mTab.next mTab isTrue = Vit.runT (tabR 1000000) 200 8 [.int .u8 (.ofNat 0), .int .u16 ((b % 1 : Nat) : Int)] mTab.next mTab isTrue := by
  have hm := Nat.mod_lt b (show 0 < 1 by omega)
  rw [rw8]
  have key2 : ∀ (x : Nat) (_ : x < 65536) (K : Value → Option Unit), (oCv .i64 (.int .u16 (x : Int)) fun t18 => oInt .rem .i64 t18 (.int .i64 (.ofNat 1)) K) = K (.int .i64 ((x % 1 : Nat) : Int)) := fun x hx K => by
    rw [oCv_nat (by omega), show Int.ofNat 1 = ((1 : Nat) : Int) from rfl, oInt_remN (by omega)]
  unfold S8
  rw [uc_e, uc_e, uc_e, uc_e, un0_e, un0_e, pre0, pre0, h0, h0]
  refine (key2 b hb _).trans (Eq.trans ?_ (key2 (b % 1) (by omega) _).symm)
  rw [Nat.mod_mod]
theorem same_1 {b : Nat} (hb : b < 65536) : Vit.runT (tabR 1000000) 200 8 [.int .u8 (.ofNat 1), .int .u16 (b : Int)] mTab.next mTab isTrue = Vit.runT (tabR 1000000) 200 8 [.int .u8 (.ofNat 1), .int .u16 ((b % 1 : Nat) : Int)] mTab.next mTab isTrue := by
  have hm := Nat.mod_lt b (show 0 < 1 by omega)
  rw [rw8]
  have key2 : ∀ (x : Nat) (_ : x < 65536) (K : Value → Option Unit), (oCv .i64 (.int .u16 (x : Int)) fun t18 => oInt .rem .i64 t18 (.int .i64 (.ofNat 1)) K) = K (.int .i64 ((x % 1 : Nat) : Int)) := fun x hx K => by
    rw [oCv_nat (by omega), show Int.ofNat 1 = ((1 : Nat) : Int) from rfl, oInt_remN (by omega)]
  unfold S8
  rw [uc_e, uc_e, uc_e, uc_e, un0_e, un0_e, pre1, pre1, h1, h1]
  refine (key2 b hb _).trans (Eq.trans ?_ (key2 (b % 1) (by omega) _).symm)
  rw [Nat.mod_mod]
theorem same_2 {b : Nat} (hb : b < 65536) : Vit.runT (tabR 1000000) 200 8 [.int .u8 (.ofNat 2), .int .u16 (b : Int)] mTab.next mTab isTrue = Vit.runT (tabR 1000000) 200 8 [.int .u8 (.ofNat 2), .int .u16 ((b % 2 : Nat) : Int)] mTab.next mTab isTrue := by
  have hm := Nat.mod_lt b (show 0 < 2 by omega)
  rw [rw8]
  have key2 : ∀ (x : Nat) (_ : x < 65536) (K : Value → Option Unit), (oCv .i64 (.int .u16 (x : Int)) fun t18 => oInt .rem .i64 t18 (.int .i64 (.ofNat 2)) K) = K (.int .i64 ((x % 2 : Nat) : Int)) := fun x hx K => by
    rw [oCv_nat (by omega), show Int.ofNat 2 = ((2 : Nat) : Int) from rfl, oInt_remN (by omega)]
  unfold S8
  rw [uc_e, uc_e, uc_e, uc_e, un0_e, un0_e, pre2, pre2, h2, h2]
  refine (key2 b hb _).trans (Eq.trans ?_ (key2 (b % 2) (by omega) _).symm)
  rw [Nat.mod_mod]
theorem same_3 {b : Nat} (hb : b < 65536) : Vit.runT (tabR 1000000) 200 8 [.int .u8 (.ofNat 3), .int .u16 (b : Int)] mTab.next mTab isTrue = Vit.runT (tabR 1000000) 200 8 [.int .u8 (.ofNat 3), .int .u16 ((b % 5 : Nat) : Int)] mTab.next mTab isTrue := by
  have hm := Nat.mod_lt b (show 0 < 5 by omega)
  rw [rw8]
  have key2 : ∀ (x : Nat) (_ : x < 65536) (K : Value → Option Unit), (oCv .i64 (.int .u16 (x : Int)) fun t18 => oInt .rem .i64 t18 (.int .i64 (.ofNat 5)) K) = K (.int .i64 ((x % 5 : Nat) : Int)) := fun x hx K => by
    rw [oCv_nat (by omega), show Int.ofNat 5 = ((5 : Nat) : Int) from rfl, oInt_remN (by omega)]
  unfold S8
  rw [uc_e, uc_e, uc_e, uc_e, un0_e, un0_e, pre3, pre3, h3, h3]
  refine (key2 b hb _).trans (Eq.trans ?_ (key2 (b % 5) (by omega) _).symm)
  rw [Nat.mod_mod]
theorem same_4 {b : Nat} (hb : b < 65536) : Vit.runT (tabR 1000000) 200 8 [.int .u8 (.ofNat 4), .int .u16 (b : Int)] mTab.next mTab isTrue = Vit.runT (tabR 1000000) 200 8 [.int .u8 (.ofNat 4), .int .u16 ((b % 16 : Nat) : Int)] mTab.next mTab isTrue := by
  have hm := Nat.mod_lt b (show 0 < 16 by omega)
  rw [rw8]
  have key2 : ∀ (x : Nat) (_ : x < 65536) (K : Value → Option Unit), (oCv .i64 (.int .u16 (x : Int)) fun t18 => oInt .rem .i64 t18 (.int .i64 (.ofNat 16)) K) = K (.int .i64 ((x % 16 : Nat) : Int)) := fun x hx K => by
    rw [oCv_nat (by omega), show Int.ofNat 16 = ((16 : Nat) : Int) from rfl, oInt_remN (by omega)]
  unfold S8
  rw [uc_e, uc_e, uc_e, uc_e, un0_e, un0_e, pre4, pre4, h4, h4]
  refine (key2 b hb _).trans (Eq.trans ?_ (key2 (b % 16) (by omega) _).symm)
  rw [Nat.mod_mod]
theorem same_5 {b : Nat} (hb : b < 65536) : Vit.runT (tabR 1000000) 200 8 [.int .u8 (.ofNat 5), .int .u16 (b : Int)] mTab.next mTab isTrue = Vit.runT (tabR 1000000) 200 8 [.int .u8 (.ofNat 5), .int .u16 ((b % 61 : Nat) : Int)] mTab.next mTab isTrue := by
  have hm := Nat.mod_lt b (show 0 < 61 by omega)
  rw [rw8]
  have key2 : ∀ (x : Nat) (_ : x < 65536) (K : Value → Option Unit), (oCv .i64 (.int .u16 (x : Int)) fun t18 => oInt .rem .i64 t18 (.int .i64 (.ofNat 61)) K) = K (.int .i64 ((x % 61 : Nat) : Int)) := fun x hx K => by
    rw [oCv_nat (by omega), show Int.ofNat 61 = ((61 : Nat) : Int) from rfl, oInt_remN (by omega)]
  unfold S8
  rw [uc_e, uc_e, uc_e, uc_e, un0_e, un0_e, pre5, pre5, h5, h5]
  refine (key2 b hb _).trans (Eq.trans ?_ (key2 (b % 61) (by omega) _).symm)
  rw [Nat.mod_mod]
theorem same_6 {b : Nat} (hb : b < 65536) : Vit.runT (tabR 1000000) 200 8 [.int .u8 (.ofNat 6), .int .u16 (b : Int)] mTab.next mTab isTrue = Vit.runT (tabR 1000000) 200 8 [.int .u8 (.ofNat 6), .int .u16 ((b % 272 : Nat) : Int)] mTab.next mTab isTrue := by
  have hm := Nat.mod_lt b (show 0 < 272 by omega)
  rw [rw8]
  have key2 : ∀ (x : Nat) (_ : x < 65536) (K : Value → Option Unit), (oCv .i64 (.int .u16 (x : Int)) fun t18 => oInt .rem .i64 t18 (.int .i64 (.ofNat 272)) K) = K (.int .i64 ((x % 272 : Nat) : Int)) := fun x hx K => by
    rw [oCv_nat (by omega), show Int.ofNat 272 = ((272 : Nat) : Int) from rfl, oInt_remN (by omega)]
  unfold S8
  rw [uc_e, uc_e, uc_e, uc_e, un0_e, un0_e, pre6, pre6, h6, h6]
  refine (key2 b hb _).trans (Eq.trans ?_ (key2 (b % 272) (by omega) _).symm)
  rw [Nat.mod_mod]
end
def Runs (a b : Nat) : Prop := Vit.runT (tabR 1000000) 200 8 [.int .u8 (.ofNat a), .int .u16 (.ofNat b)] mTab.next mTab isTrue = some ()
theorem of_all {a lo st : Nat} (h : ((List.range st).all fun t => okU (Vit.runT (tabR 1000000) 200 8 [.int .u8 (.ofNat a), .int .u16 (.ofNat (Nat.add lo t))] mTab.next mTab isTrue)) = true) {b : Nat} (h1 : lo ≤ b) (h2 : b < lo + st) : Runs a b := by
  have := List.all_eq_true.1 h (b - lo) (List.mem_range.2 (by omega))
  have e : Nat.add lo (b - lo) = b := by show lo + (b - lo) = b; omega
  rw [e] at this
  exact okU_e this
theorem case0 {b : Nat} (hb : b < 1) : Runs 0 b := by
  exact of_all r0_0 (by omega) (by omega)
theorem case1 {b : Nat} (hb : b < 1) : Runs 1 b := by
  exact of_all r1_0 (by omega) (by omega)
theorem case2 {b : Nat} (hb : b < 2) : Runs 2 b := by
  exact of_all r2_0 (by omega) (by omega)
theorem case3 {b : Nat} (hb : b < 5) : Runs 3 b := by
  exact of_all r3_0 (by omega) (by omega)
theorem case4 {b : Nat} (hb : b < 16) : Runs 4 b := by
  exact of_all r4_0 (by omega) (by omega)
theorem case5 {b : Nat} (hb : b < 61) : Runs 5 b := by
  by_cases g0 : b < 21
  · exact of_all r5_0 (by omega) (by omega)
  by_cases g21 : b < 42
  · exact of_all r5_21 (by omega) (by omega)
  exact of_all r5_42 (by omega) (by omega)
theorem case6 {b : Nat} (hb : b < 272) : Runs 6 b := by
  by_cases g0 : b < 14
  · exact of_all r6_0 (by omega) (by omega)
  by_cases g14 : b < 28
  · exact of_all r6_14 (by omega) (by omega)
  by_cases g28 : b < 42
  · exact of_all r6_28 (by omega) (by omega)
  by_cases g42 : b < 56
  · exact of_all r6_42 (by omega) (by omega)
  by_cases g56 : b < 70
  · exact of_all r6_56 (by omega) (by omega)
  by_cases g70 : b < 84
  · exact of_all r6_70 (by omega) (by omega)
  by_cases g84 : b < 98
  · exact of_all r6_84 (by omega) (by omega)
  by_cases g98 : b < 112
  · exact of_all r6_98 (by omega) (by omega)
  by_cases g112 : b < 126
  · exact of_all r6_112 (by omega) (by omega)
  by_cases g126 : b < 140
  · exact of_all r6_126 (by omega) (by omega)
  by_cases g140 : b < 154
  · exact of_all r6_140 (by omega) (by omega)
  by_cases g154 : b < 168
  · exact of_all r6_154 (by omega) (by omega)
  by_cases g168 : b < 182
  · exact of_all r6_168 (by omega) (by omega)
  by_cases g182 : b < 196
  · exact of_all r6_182 (by omega) (by omega)
  by_cases g196 : b < 210
  · exact of_all r6_196 (by omega) (by omega)
  by_cases g210 : b < 224
  · exact of_all r6_210 (by omega) (by omega)
  by_cases g224 : b < 238
  · exact of_all r6_224 (by omega) (by omega)
  by_cases g238 : b < 252
  · exact of_all r6_238 (by omega) (by omega)
  by_cases g252 : b < 266
  · exact of_all r6_252 (by omega) (by omega)
  exact of_all r6_266 (by omega) (by omega)
theorem all {x y : Int} (hx : 0 ≤ x ∧ x < 256) (hy : 0 ≤ y ∧ y < 65536) : Vit.runT (tabR 1000000) 200 8 [.int .u8 x, .int .u16 y] mTab.next mTab isTrue = some () := by
  obtain ⟨a, rfl⟩ : ∃ a : Nat, x = a := ⟨x.toNat, by omega⟩
  obtain ⟨b, rfl⟩ : ∃ b : Nat, y = b := ⟨y.toNat, by omega⟩
  rw [same_a (by omega)]
  have h7 := Nat.mod_lt a (show 0 < 7 by omega)
  generalize a % 7 = c at h7
  match c, h7 with
  | 0, _ => exact (same_0 (by omega)).trans (case0 (Nat.mod_lt b (show 0 < 1 by omega)))
  | 1, _ => exact (same_1 (by omega)).trans (case1 (Nat.mod_lt b (show 0 < 1 by omega)))
  | 2, _ => exact (same_2 (by omega)).trans (case2 (Nat.mod_lt b (show 0 < 2 by omega)))
  | 3, _ => exact (same_3 (by omega)).trans (case3 (Nat.mod_lt b (show 0 < 5 by omega)))
  | 4, _ => exact (same_4 (by omega)).trans (case4 (Nat.mod_lt b (show 0 < 16 by omega)))
  | 5, _ => exact (same_5 (by omega)).trans (case5 (Nat.mod_lt b (show 0 < 61 by omega)))
  | 6, _ => exact (same_6 (by omega)).trans (case6 (Nat.mod_lt b (show 0 < 272 by omega)))
  | c + 7, h => exact absurd h (by omega)
end Go.Proofs.YtppallabmjdolaaGreatDoor.TopTurning
