/- The law TopGapped: its walk. -/
import Derived.Test.YtppallabmjdolaaGreatDoorG4
set_option linter.unusedSimpArgs false
set_option linter.unusedVariables false
set_option maxRecDepth 20000
namespace Go.Vit
open Go Go.Proofs
attribute [local irreducible] runT loopS
section
variable {lf n L : Nat} {m : Mem} {k : Value → Mem → Option Unit}
/-- A wrapper by numbers. -/
theorem wound_sp {a s t : Nat} (hlf : 1000000 ≤ lf) (hL : L ≤ m.next) (ha : a < 256) (hs : s < 256) (ht : t < 256)
    (hk : ∀ (M S T : Nat) m', Gt m m' → 0 < M → M ≤ 60 → S < M → 1 ≤ T → (∀ j, 0 < j → j < T → j * S % M ≠ 0) → k (wrV M S T) m' = some ()) :
    runT (tab lf) (n + 1) 26 [.int .u8 (a : Int), .int .u8 (s : Int), .int .u8 (t : Int), .int .i64 60] L m k = some () := by
  rw [r26]; dsimp only [S26, iofNat, inegSucc]
  rw [uc_e, uc_e, uc_e, uc_e, un0_e, anew_eq, oRes_e, oCv_nat (by omega), show (60 : Int) = ((60 : Nat) : Int) from rfl, oInt_remN (by omega), show (1 : Int) = ((1 : Nat) : Int) from rfl, oInt_addN (by omega), bu57a, oOpt_e]
  obtain ⟨M, hM⟩ : ∃ M, M = 1 + a % 60 := ⟨_, rfl⟩
  have hM0 : 0 < M := by omega
  have hM6 : M ≤ 60 := by omega
  rw [← hM]
  have e1 := Mem.gt_push m ⟨1, [.int .i64 0, .int .i64 0, .int .i64 0], none⟩
  have q1 := Mem.rd_push m ⟨1, [.int .i64 0, .int .i64 0, .int .i64 0], none⟩
  have n1 : (m.push ⟨1, [.int .i64 0, .int .i64 0, .int .i64 0], none⟩).next = m.next + 1 := Mem.push_next _ _
  generalize m.push ⟨1, [.int .i64 0, .int .i64 0, .int .i64 0], none⟩ = m1 at e1 q1 n1 ⊢
  rw [anew_eq, oRes_e]
  have hL1 : L ≤ m1.next := by omega
  have hst : st1 3 L (m1.push ⟨1, [.int .i64 0, .int .i64 0, .int .i64 0], none⟩) (ptrTo m1.next) (.agg ⟨[.int .i64 (M : Int), .int .i64 0, .int .i64 0]⟩) = some (Go.undef, (m1.push ⟨1, [.int .i64 0, .int .i64 0, .int .i64 0], none⟩).put m1.next (some ⟨1, wrC M 0 0, none⟩)) := by
    show st1 3 L _ (.pointer (some ⟨m1.next, 0, none⟩)) _ = _
    rw [st1_u, Mem.rd_push]
    exact stw_e hL1 rfl (Nat.le_refl _) rfl
  rw [hst, oRes_e]
  have e2 : Gt m1 ((m1.push ⟨1, [.int .i64 0, .int .i64 0, .int .i64 0], none⟩).put m1.next (some ⟨1, wrC M 0 0, none⟩)) := Mem.put_gt (Mem.gt_push _ _) _ (Nat.le_refl _)
  have q2 : ((m1.push ⟨1, [.int .i64 0, .int .i64 0, .int .i64 0], none⟩).put m1.next (some ⟨1, wrC M 0 0, none⟩)).rd m1.next = some ⟨1, wrC M 0 0, none⟩ := Mem.rd_put_eq _ _ (by rw [Mem.push_next]; omega)
  have n2 : ((m1.push ⟨1, [.int .i64 0, .int .i64 0, .int .i64 0], none⟩).put m1.next (some ⟨1, wrC M 0 0, none⟩)).next = m1.next + 1 := rfl
  generalize (m1.push ⟨1, [.int .i64 0, .int .i64 0, .int .i64 0], none⟩).put m1.next (some ⟨1, wrC M 0 0, none⟩) = m2 at e2 q2 n2 ⊢
  obtain ⟨S, hS⟩ : ∃ S, S = s % M := ⟨_, rfl⟩
  have hSM : S < M := by rw [hS]; exact Nat.mod_lt _ hM0
  have f0 : fa 0 (ptrTo m1.next) = some (.pointer (some ⟨m1.next, 0, none⟩)) := rfl
  have f1 : fa 1 (ptrTo m1.next) = some (.pointer (some ⟨m1.next, 1, none⟩)) := rfl
  have f2 : fa 2 (ptrTo m1.next) = some (.pointer (some ⟨m1.next, 2, none⟩)) := rfl
  have l0 : ∀ (M' : Mem) (S T : Nat), M'.rd m1.next = some ⟨1, wrC M S T, none⟩ → ld1 M' (.pointer (some ⟨m1.next, 0, none⟩)) = some (.int .i64 (M : Int)) := fun M' S T h => by rw [ld1_u, h]; rfl
  have l1 : ∀ (M' : Mem) (S T : Nat), M'.rd m1.next = some ⟨1, wrC M S T, none⟩ → ld1 M' (.pointer (some ⟨m1.next, 1, none⟩)) = some (.int .i64 (S : Int)) := fun M' S T h => by rw [ld1_u, h]; rfl
  rw [oCv_nat (by omega), f0, oOpt_e, l0 m2 0 0 q2, oOpt_e, oInt_remN hM0, ← hS, f1, oOpt_e, st_int q2 (by show 1 < 3; omega) hL1, oRes_e]
  rw [show (wrC M 0 0).set 1 (Value.int .i64 (S : Int)) = wrC M S 0 from rfl]
  have e3 : Gt m1 (m2.put m1.next (some ⟨1, wrC M S 0, none⟩)) := Mem.put_gt e2 _ (Nat.le_refl _)
  have q3 : (m2.put m1.next (some ⟨1, wrC M S 0, none⟩)).rd m1.next = some ⟨1, wrC M S 0, none⟩ := Mem.rd_put_eq _ _ (by omega)
  have n3 : (m2.put m1.next (some ⟨1, wrC M S 0, none⟩)).next = m2.next := rfl
  generalize m2.put m1.next (some ⟨1, wrC M S 0, none⟩) = m3 at e3 q3 n3 ⊢
  rw [oOpt_e, l1 m3 S 0 q3, oOpt_e]
  refine loop_up M (fun i vs m' => i < M ∧ vs = [.int .i64 ((i + 1 : Nat) : Int), .int .i64 (((i + 1) * S % M : Nat) : Int)] ∧ m' = m3 ∧ ∀ j, 0 < j → j < i + 1 → j * S % M ≠ 0) (by omega) ⟨hM0, by rw [show (0 + 1) * S % M = S by rw [Nat.zero_add, Nat.one_mul, Nat.mod_eq_of_lt hSM]], rfl, fun j h1 h2 => by omega⟩ ?_
  rintro i vs m' hi ⟨hiM, rfl, rfl, hno⟩ self hself
  have hlm := Nat.mod_lt ((i + 1) * S) hM0
  rw [uc_e, uc_e, oInt_neq]
  refine oIf_ndec (fun h => ?_) (fun h => ?_)
  · have h0 : (i + 1) * S % M ≠ 0 := by omega
    have hi2 : i + 1 < M := by
      by_cases hh : i + 1 = M
      · rw [hh, Nat.mul_mod_right] at h0; exact absurd rfl h0
      · omega
    have hx : ((i + 1) * S % M + S) % M = (i + 1 + 1) * S % M := by
      rw [Nat.succ_mul (i + 1) S, Nat.add_mod ((i + 1) * S) S M, Nat.mod_eq_of_lt hSM]
    rw [oInt_addN (by omega), oOpt_e, l1 m' S 0 q3, oOpt_e, oInt_addN (by omega), oOpt_e, l0 m' S 0 q3, oOpt_e, oInt_remN hM0, hx]
    refine hself (by omega) _ _ ⟨hi2, rfl, rfl, fun j h1 h2 => ?_⟩
    by_cases hj : j = i + 1
    · rw [hj]; exact h0
    · exact hno j h1 (by omega)
  · obtain ⟨T, hT⟩ : ∃ T, T = 1 + t % (i + 1) := ⟨_, rfl⟩
    have hTl := Nat.mod_lt t (show 0 < i + 1 by omega)
    rw [oCv_nat (by omega), oInt_remN (by omega), oInt_addN (by omega), ← hT, f2, oOpt_e, st_int q3 (by show 2 < 3; omega) hL1, oRes_e]
    rw [show (wrC M S 0).set 2 (Value.int .i64 (T : Int)) = wrC M S T from rfl]
    have e4 : Gt m1 (m'.put m1.next (some ⟨1, wrC M S T, none⟩)) := Mem.put_gt e3 _ (Nat.le_refl _)
    have q4 : (m'.put m1.next (some ⟨1, wrC M S T, none⟩)).rd m1.next = some ⟨1, wrC M S T, none⟩ := Mem.rd_put_eq _ _ (by omega)
    generalize m'.put m1.next (some ⟨1, wrC M S T, none⟩) = m4 at e4 q4 ⊢
    have n4 := e4.next
    have hr : ∀ (M' : Mem) (b : Nat), M'.rd b = some ⟨1, wrC M S T, none⟩ → ldN M' 3 (ptrTo b) = some (wrV M S T) := fun M' b h => by
      show ldN M' 3 (.pointer (some ⟨b, 0, none⟩)) = _
      rw [ldN_u, h]; kernel_rfl
    have q14 := (e4.kept _ (by omega)).trans q1
    have hst2 : st1 3 L m4 (ptrTo m.next) (wrV M S T) = some (Go.undef, m4.put m.next (some ⟨1, wrC M S T, none⟩)) := by
      show st1 3 L m4 (.pointer (some ⟨m.next, 0, none⟩)) _ = _
      rw [st1_u, q14]
      exact stw_e hL rfl (Nat.le_refl _) rfl
    rw [hr m4 _ q4, oOpt_e, hst2, oRes_e, hr _ _ (Mem.rd_put_eq _ _ (by omega)), oOpt_e]
    exact hk M S T _ (Mem.put_gt (e1.trans e4) _ (Nat.le_refl _)) hM0 hM6 hSM (by omega) fun j h1 h2 => hno j h1 (by omega)
end
end Go.Vit
