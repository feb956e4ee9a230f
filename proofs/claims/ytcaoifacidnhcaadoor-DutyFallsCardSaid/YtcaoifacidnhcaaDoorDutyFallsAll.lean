/- All inputs of the law DutyFalls. -/
import Derived.Test.YtcaoifacidnhcaaDoorDutyFallsRun0
import Derived.Test.YtcaoifacidnhcaaDoorDutyFallsRun1
import Derived.Test.YtcaoifacidnhcaaDoorDutyFallsRun2
import Derived.Test.YtcaoifacidnhcaaDoorDutyFallsRun3
set_option linter.unusedVariables false
namespace Go.Proofs.YtcaoifacidnhcaaDoor.DutyFalls
open Go Go.Vit Go.Proofs
def Runs (A B : Nat) : Prop := ∀ x y : Nat, R8 1000000 (Vit.runT (tabR 1000000) 59) mTab.next isTrue (fr (.ofNat A) (.ofNat B)) (gMade (gBox mTab x y) x y (.ofNat A) (.ofNat B)) = some ()
theorem case2 : ∀ A : Nat, A < 1 → Runs (A + 1) 2
  | 0, _ => e1_2
  | A + 1, h => absurd h (by omega)
theorem case3 : ∀ A : Nat, A < 2 → Runs (A + 1) 3
  | 0, _ => e1_3
  | 1, _ => e2_3
  | A + 2, h => absurd h (by omega)
theorem case4 : ∀ A : Nat, A < 3 → Runs (A + 1) 4
  | 0, _ => e1_4
  | 1, _ => e2_4
  | 2, _ => e3_4
  | A + 3, h => absurd h (by omega)
theorem case5 : ∀ A : Nat, A < 4 → Runs (A + 1) 5
  | 0, _ => e1_5
  | 1, _ => e2_5
  | 2, _ => e3_5
  | 3, _ => e4_5
  | A + 4, h => absurd h (by omega)
theorem case6 : ∀ A : Nat, A < 5 → Runs (A + 1) 6
  | 0, _ => e1_6
  | 1, _ => e2_6
  | 2, _ => e3_6
  | 3, _ => e4_6
  | 4, _ => e5_6
  | A + 5, h => absurd h (by omega)
theorem case7 : ∀ A : Nat, A < 6 → Runs (A + 1) 7
  | 0, _ => e1_7
  | 1, _ => e2_7
  | 2, _ => e3_7
  | 3, _ => e4_7
  | 4, _ => e5_7
  | 5, _ => e6_7
  | A + 6, h => absurd h (by omega)
theorem case8 : ∀ A : Nat, A < 7 → Runs (A + 1) 8
  | 0, _ => e1_8
  | 1, _ => e2_8
  | 2, _ => e3_8
  | 3, _ => e4_8
  | 4, _ => e5_8
  | 5, _ => e6_8
  | 6, _ => e7_8
  | A + 7, h => absurd h (by omega)
theorem case9 : ∀ A : Nat, A < 8 → Runs (A + 1) 9
  | 0, _ => e1_9
  | 1, _ => e2_9
  | 2, _ => e3_9
  | 3, _ => e4_9
  | 4, _ => e5_9
  | 5, _ => e6_9
  | 6, _ => e7_9
  | 7, _ => e8_9
  | A + 8, h => absurd h (by omega)
theorem case10 : ∀ A : Nat, A < 9 → Runs (A + 1) 10
  | 0, _ => e1_10
  | 1, _ => e2_10
  | 2, _ => e3_10
  | 3, _ => e4_10
  | 4, _ => e5_10
  | 5, _ => e6_10
  | 6, _ => e7_10
  | 7, _ => e8_10
  | 8, _ => e9_10
  | A + 9, h => absurd h (by omega)
theorem case11 : ∀ A : Nat, A < 10 → Runs (A + 1) 11
  | 0, _ => e1_11
  | 1, _ => e2_11
  | 2, _ => e3_11
  | 3, _ => e4_11
  | 4, _ => e5_11
  | 5, _ => e6_11
  | 6, _ => e7_11
  | 7, _ => e8_11
  | 8, _ => e9_11
  | 9, _ => e10_11
  | A + 10, h => absurd h (by omega)
theorem case12 : ∀ A : Nat, A < 11 → Runs (A + 1) 12
  | 0, _ => e1_12
  | 1, _ => e2_12
  | 2, _ => e3_12
  | 3, _ => e4_12
  | 4, _ => e5_12
  | 5, _ => e6_12
  | 6, _ => e7_12
  | 7, _ => e8_12
  | 8, _ => e9_12
  | 9, _ => e10_12
  | 10, _ => e11_12
  | A + 11, h => absurd h (by omega)
theorem case13 : ∀ A : Nat, A < 12 → Runs (A + 1) 13
  | 0, _ => e1_13
  | 1, _ => e2_13
  | 2, _ => e3_13
  | 3, _ => e4_13
  | 4, _ => e5_13
  | 5, _ => e6_13
  | 6, _ => e7_13
  | 7, _ => e8_13
  | 8, _ => e9_13
  | 9, _ => e10_13
  | 10, _ => e11_13
  | 11, _ => e12_13
  | A + 12, h => absurd h (by omega)
theorem case14 : ∀ A : Nat, A < 13 → Runs (A + 1) 14
  | 0, _ => e1_14
  | 1, _ => e2_14
  | 2, _ => e3_14
  | 3, _ => e4_14
  | 4, _ => e5_14
  | 5, _ => e6_14
  | 6, _ => e7_14
  | 7, _ => e8_14
  | 8, _ => e9_14
  | 9, _ => e10_14
  | 10, _ => e11_14
  | 11, _ => e12_14
  | 12, _ => e13_14
  | A + 13, h => absurd h (by omega)
theorem case15 : ∀ A : Nat, A < 14 → Runs (A + 1) 15
  | 0, _ => e1_15
  | 1, _ => e2_15
  | 2, _ => e3_15
  | 3, _ => e4_15
  | 4, _ => e5_15
  | 5, _ => e6_15
  | 6, _ => e7_15
  | 7, _ => e8_15
  | 8, _ => e9_15
  | 9, _ => e10_15
  | 10, _ => e11_15
  | 11, _ => e12_15
  | 12, _ => e13_15
  | 13, _ => e14_15
  | A + 14, h => absurd h (by omega)
theorem case16 : ∀ A : Nat, A < 15 → Runs (A + 1) 16
  | 0, _ => e1_16
  | 1, _ => e2_16
  | 2, _ => e3_16
  | 3, _ => e4_16
  | 4, _ => e5_16
  | 5, _ => e6_16
  | 6, _ => e7_16
  | 7, _ => e8_16
  | 8, _ => e9_16
  | 9, _ => e10_16
  | 10, _ => e11_16
  | 11, _ => e12_16
  | 12, _ => e13_16
  | 13, _ => e14_16
  | 14, _ => e15_16
  | A + 15, h => absurd h (by omega)
theorem case17 : ∀ A : Nat, A < 16 → Runs (A + 1) 17
  | 0, _ => e1_17
  | 1, _ => e2_17
  | 2, _ => e3_17
  | 3, _ => e4_17
  | 4, _ => e5_17
  | 5, _ => e6_17
  | 6, _ => e7_17
  | 7, _ => e8_17
  | 8, _ => e9_17
  | 9, _ => e10_17
  | 10, _ => e11_17
  | 11, _ => e12_17
  | 12, _ => e13_17
  | 13, _ => e14_17
  | 14, _ => e15_17
  | 15, _ => e16_17
  | A + 16, h => absurd h (by omega)
theorem case18 : ∀ A : Nat, A < 17 → Runs (A + 1) 18
  | 0, _ => e1_18
  | 1, _ => e2_18
  | 2, _ => e3_18
  | 3, _ => e4_18
  | 4, _ => e5_18
  | 5, _ => e6_18
  | 6, _ => e7_18
  | 7, _ => e8_18
  | 8, _ => e9_18
  | 9, _ => e10_18
  | 10, _ => e11_18
  | 11, _ => e12_18
  | 12, _ => e13_18
  | 13, _ => e14_18
  | 14, _ => e15_18
  | 15, _ => e16_18
  | 16, _ => e17_18
  | A + 17, h => absurd h (by omega)
theorem case19 : ∀ A : Nat, A < 18 → Runs (A + 1) 19
  | 0, _ => e1_19
  | 1, _ => e2_19
  | 2, _ => e3_19
  | 3, _ => e4_19
  | 4, _ => e5_19
  | 5, _ => e6_19
  | 6, _ => e7_19
  | 7, _ => e8_19
  | 8, _ => e9_19
  | 9, _ => e10_19
  | 10, _ => e11_19
  | 11, _ => e12_19
  | 12, _ => e13_19
  | 13, _ => e14_19
  | 14, _ => e15_19
  | 15, _ => e16_19
  | 16, _ => e17_19
  | 17, _ => e18_19
  | A + 18, h => absurd h (by omega)
theorem case20 : ∀ A : Nat, A < 19 → Runs (A + 1) 20
  | 0, _ => e1_20
  | 1, _ => e2_20
  | 2, _ => e3_20
  | 3, _ => e4_20
  | 4, _ => e5_20
  | 5, _ => e6_20
  | 6, _ => e7_20
  | 7, _ => e8_20
  | 8, _ => e9_20
  | 9, _ => e10_20
  | 10, _ => e11_20
  | 11, _ => e12_20
  | 12, _ => e13_20
  | 13, _ => e14_20
  | 14, _ => e15_20
  | 15, _ => e16_20
  | 16, _ => e17_20
  | 17, _ => e18_20
  | 18, _ => e19_20
  | A + 19, h => absurd h (by omega)
theorem case21 : ∀ A : Nat, A < 20 → Runs (A + 1) 21
  | 0, _ => e1_21
  | 1, _ => e2_21
  | 2, _ => e3_21
  | 3, _ => e4_21
  | 4, _ => e5_21
  | 5, _ => e6_21
  | 6, _ => e7_21
  | 7, _ => e8_21
  | 8, _ => e9_21
  | 9, _ => e10_21
  | 10, _ => e11_21
  | 11, _ => e12_21
  | 12, _ => e13_21
  | 13, _ => e14_21
  | 14, _ => e15_21
  | 15, _ => e16_21
  | 16, _ => e17_21
  | 17, _ => e18_21
  | 18, _ => e19_21
  | 19, _ => e20_21
  | A + 20, h => absurd h (by omega)
theorem case22 : ∀ A : Nat, A < 21 → Runs (A + 1) 22
  | 0, _ => e1_22
  | 1, _ => e2_22
  | 2, _ => e3_22
  | 3, _ => e4_22
  | 4, _ => e5_22
  | 5, _ => e6_22
  | 6, _ => e7_22
  | 7, _ => e8_22
  | 8, _ => e9_22
  | 9, _ => e10_22
  | 10, _ => e11_22
  | 11, _ => e12_22
  | 12, _ => e13_22
  | 13, _ => e14_22
  | 14, _ => e15_22
  | 15, _ => e16_22
  | 16, _ => e17_22
  | 17, _ => e18_22
  | 18, _ => e19_22
  | 19, _ => e20_22
  | 20, _ => e21_22
  | A + 21, h => absurd h (by omega)
theorem case23 : ∀ A : Nat, A < 22 → Runs (A + 1) 23
  | 0, _ => e1_23
  | 1, _ => e2_23
  | 2, _ => e3_23
  | 3, _ => e4_23
  | 4, _ => e5_23
  | 5, _ => e6_23
  | 6, _ => e7_23
  | 7, _ => e8_23
  | 8, _ => e9_23
  | 9, _ => e10_23
  | 10, _ => e11_23
  | 11, _ => e12_23
  | 12, _ => e13_23
  | 13, _ => e14_23
  | 14, _ => e15_23
  | 15, _ => e16_23
  | 16, _ => e17_23
  | 17, _ => e18_23
  | 18, _ => e19_23
  | 19, _ => e20_23
  | 20, _ => e21_23
  | 21, _ => e22_23
  | A + 22, h => absurd h (by omega)
theorem case24 : ∀ A : Nat, A < 23 → Runs (A + 1) 24
  | 0, _ => e1_24
  | 1, _ => e2_24
  | 2, _ => e3_24
  | 3, _ => e4_24
  | 4, _ => e5_24
  | 5, _ => e6_24
  | 6, _ => e7_24
  | 7, _ => e8_24
  | 8, _ => e9_24
  | 9, _ => e10_24
  | 10, _ => e11_24
  | 11, _ => e12_24
  | 12, _ => e13_24
  | 13, _ => e14_24
  | 14, _ => e15_24
  | 15, _ => e16_24
  | 16, _ => e17_24
  | 17, _ => e18_24
  | 18, _ => e19_24
  | 19, _ => e20_24
  | 20, _ => e21_24
  | 21, _ => e22_24
  | 22, _ => e23_24
  | A + 23, h => absurd h (by omega)
theorem case25 : ∀ A : Nat, A < 24 → Runs (A + 1) 25
  | 0, _ => e1_25
  | 1, _ => e2_25
  | 2, _ => e3_25
  | 3, _ => e4_25
  | 4, _ => e5_25
  | 5, _ => e6_25
  | 6, _ => e7_25
  | 7, _ => e8_25
  | 8, _ => e9_25
  | 9, _ => e10_25
  | 10, _ => e11_25
  | 11, _ => e12_25
  | 12, _ => e13_25
  | 13, _ => e14_25
  | 14, _ => e15_25
  | 15, _ => e16_25
  | 16, _ => e17_25
  | 17, _ => e18_25
  | 18, _ => e19_25
  | 19, _ => e20_25
  | 20, _ => e21_25
  | 21, _ => e22_25
  | 22, _ => e23_25
  | 23, _ => e24_25
  | A + 24, h => absurd h (by omega)
theorem case26 : ∀ A : Nat, A < 25 → Runs (A + 1) 26
  | 0, _ => e1_26
  | 1, _ => e2_26
  | 2, _ => e3_26
  | 3, _ => e4_26
  | 4, _ => e5_26
  | 5, _ => e6_26
  | 6, _ => e7_26
  | 7, _ => e8_26
  | 8, _ => e9_26
  | 9, _ => e10_26
  | 10, _ => e11_26
  | 11, _ => e12_26
  | 12, _ => e13_26
  | 13, _ => e14_26
  | 14, _ => e15_26
  | 15, _ => e16_26
  | 16, _ => e17_26
  | 17, _ => e18_26
  | 18, _ => e19_26
  | 19, _ => e20_26
  | 20, _ => e21_26
  | 21, _ => e22_26
  | 22, _ => e23_26
  | 23, _ => e24_26
  | 24, _ => e25_26
  | A + 25, h => absurd h (by omega)
theorem case27 : ∀ A : Nat, A < 26 → Runs (A + 1) 27
  | 0, _ => e1_27
  | 1, _ => e2_27
  | 2, _ => e3_27
  | 3, _ => e4_27
  | 4, _ => e5_27
  | 5, _ => e6_27
  | 6, _ => e7_27
  | 7, _ => e8_27
  | 8, _ => e9_27
  | 9, _ => e10_27
  | 10, _ => e11_27
  | 11, _ => e12_27
  | 12, _ => e13_27
  | 13, _ => e14_27
  | 14, _ => e15_27
  | 15, _ => e16_27
  | 16, _ => e17_27
  | 17, _ => e18_27
  | 18, _ => e19_27
  | 19, _ => e20_27
  | 20, _ => e21_27
  | 21, _ => e22_27
  | 22, _ => e23_27
  | 23, _ => e24_27
  | 24, _ => e25_27
  | 25, _ => e26_27
  | A + 26, h => absurd h (by omega)
theorem case28 : ∀ A : Nat, A < 27 → Runs (A + 1) 28
  | 0, _ => e1_28
  | 1, _ => e2_28
  | 2, _ => e3_28
  | 3, _ => e4_28
  | 4, _ => e5_28
  | 5, _ => e6_28
  | 6, _ => e7_28
  | 7, _ => e8_28
  | 8, _ => e9_28
  | 9, _ => e10_28
  | 10, _ => e11_28
  | 11, _ => e12_28
  | 12, _ => e13_28
  | 13, _ => e14_28
  | 14, _ => e15_28
  | 15, _ => e16_28
  | 16, _ => e17_28
  | 17, _ => e18_28
  | 18, _ => e19_28
  | 19, _ => e20_28
  | 20, _ => e21_28
  | 21, _ => e22_28
  | 22, _ => e23_28
  | 23, _ => e24_28
  | 24, _ => e25_28
  | 25, _ => e26_28
  | 26, _ => e27_28
  | A + 27, h => absurd h (by omega)
theorem case29 : ∀ A : Nat, A < 28 → Runs (A + 1) 29
  | 0, _ => e1_29
  | 1, _ => e2_29
  | 2, _ => e3_29
  | 3, _ => e4_29
  | 4, _ => e5_29
  | 5, _ => e6_29
  | 6, _ => e7_29
  | 7, _ => e8_29
  | 8, _ => e9_29
  | 9, _ => e10_29
  | 10, _ => e11_29
  | 11, _ => e12_29
  | 12, _ => e13_29
  | 13, _ => e14_29
  | 14, _ => e15_29
  | 15, _ => e16_29
  | 16, _ => e17_29
  | 17, _ => e18_29
  | 18, _ => e19_29
  | 19, _ => e20_29
  | 20, _ => e21_29
  | 21, _ => e22_29
  | 22, _ => e23_29
  | 23, _ => e24_29
  | 24, _ => e25_29
  | 25, _ => e26_29
  | 26, _ => e27_29
  | 27, _ => e28_29
  | A + 28, h => absurd h (by omega)
theorem case30 : ∀ A : Nat, A < 29 → Runs (A + 1) 30
  | 0, _ => e1_30
  | 1, _ => e2_30
  | 2, _ => e3_30
  | 3, _ => e4_30
  | 4, _ => e5_30
  | 5, _ => e6_30
  | 6, _ => e7_30
  | 7, _ => e8_30
  | 8, _ => e9_30
  | 9, _ => e10_30
  | 10, _ => e11_30
  | 11, _ => e12_30
  | 12, _ => e13_30
  | 13, _ => e14_30
  | 14, _ => e15_30
  | 15, _ => e16_30
  | 16, _ => e17_30
  | 17, _ => e18_30
  | 18, _ => e19_30
  | 19, _ => e20_30
  | 20, _ => e21_30
  | 21, _ => e22_30
  | 22, _ => e23_30
  | 23, _ => e24_30
  | 24, _ => e25_30
  | 25, _ => e26_30
  | 26, _ => e27_30
  | 27, _ => e28_30
  | 28, _ => e29_30
  | A + 29, h => absurd h (by omega)
theorem cases : ∀ A B : Nat, B < 29 → A < B + 1 → Runs (A + 1) (B + 2)
  | A, 0, _, h => case2 A (by omega)
  | A, 1, _, h => case3 A (by omega)
  | A, 2, _, h => case4 A (by omega)
  | A, 3, _, h => case5 A (by omega)
  | A, 4, _, h => case6 A (by omega)
  | A, 5, _, h => case7 A (by omega)
  | A, 6, _, h => case8 A (by omega)
  | A, 7, _, h => case9 A (by omega)
  | A, 8, _, h => case10 A (by omega)
  | A, 9, _, h => case11 A (by omega)
  | A, 10, _, h => case12 A (by omega)
  | A, 11, _, h => case13 A (by omega)
  | A, 12, _, h => case14 A (by omega)
  | A, 13, _, h => case15 A (by omega)
  | A, 14, _, h => case16 A (by omega)
  | A, 15, _, h => case17 A (by omega)
  | A, 16, _, h => case18 A (by omega)
  | A, 17, _, h => case19 A (by omega)
  | A, 18, _, h => case20 A (by omega)
  | A, 19, _, h => case21 A (by omega)
  | A, 20, _, h => case22 A (by omega)
  | A, 21, _, h => case23 A (by omega)
  | A, 22, _, h => case24 A (by omega)
  | A, 23, _, h => case25 A (by omega)
  | A, 24, _, h => case26 A (by omega)
  | A, 25, _, h => case27 A (by omega)
  | A, 26, _, h => case28 A (by omega)
  | A, 27, _, h => case29 A (by omega)
  | A, 28, _, h => case30 A (by omega)
  | A, B + 29, h, _ => absurd h (by omega)
theorem q8 {lf n : Nat} : Vit.runT (tabR (β := Unit) lf) (n + 1) 8 = S8 lf (Vit.runT (tabR lf) n) := by kernel_rfl
section
attribute [local irreducible] Vit.runT loopS
theorem open_law {a b lf n L : Nat} {m : Mem} (k : Value → Mem → Option Unit) (ha : a < 256) (hb : b < 256) (hL : L ≤ m.next)
    (hk : R8 lf (Vit.runT (tabR lf) (n + 2)) L k (fr ((1 + a % (1 + b % 29) : Nat) : Int) ((2 + b % 29 : Nat) : Int)) (gMade (gBox m a b) a b ((1 + a % (1 + b % 29) : Nat) : Int) ((2 + b % 29 : Nat) : Int)) = some ()) :
    Vit.runT (tabR lf) (n + 3) 8 [bytes2 a b] L m k = some () := by
  rw [q8]
  unfold S8
  rw [uc_e, un0_e, abox_e, oRes_e]
  show (oOpt (ldN (gBox m a b) 2 (ptrTo m.next)) fun t4 => Vit.runT (tabR lf) (n + 2) 43 [t4] L (gBox m a b) (R8 lf (Vit.runT (tabR lf) (n + 2)) L k)) = some ()
  rw [show ldN (gBox m a b) 2 (ptrTo m.next) = some (bytes2 a b) from by
    unfold gBox ptrTo
    rw [ldN_u, Mem.rd_push, rdn_e _ _ _ _ (by simp)]
    rfl]
  rw [oOpt_e]
  exact made_sp ha hb (by show L ≤ m.next + 1; omega) hk
end
theorem runs {a b : Nat} (ha : a < 256) (hb : b < 256) : Vit.runT (tabR 1000000) 60 8 [bytes2 a b] mTab.next mTab isTrue = some () := by
  have h29 := Nat.mod_lt b (show 0 < 29 by omega)
  have h2 := Nat.mod_lt a (show 0 < 1 + b % 29 by omega)
  refine open_law isTrue ha hb (Nat.le_refl _) ?_
  have := cases (a % (1 + b % 29)) (b % 29) h29 (by omega) a b
  rw [show a % (1 + b % 29) + 1 = 1 + a % (1 + b % 29) by omega, show b % 29 + 2 = 2 + b % 29 by omega] at this
  exact this
end Go.Proofs.YtcaoifacidnhcaaDoor.DutyFalls
