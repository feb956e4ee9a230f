/- Functions of plain values whose calls are known in any world; the even word of the examples stands so. -/
import Derived.Test.YtppallabmjdolaaGreatDoorMk
import Derived.Test.YtppallabmjdolaaGreatDoorTab
import Derived.Test.YtppallabmjdolaaGreatDoorCoreD
set_option linter.unusedSimpArgs false
set_option linter.unusedVariables false
set_option maxRecDepth 100000
namespace Go.Vit
open Go Go.Proofs Go.RowKit
structure WorldOk (P : Program) (g : Nat) (f : PF) : Prop where
  body : ∃ fn, P.funcs[g]? = some fn ∧ fn.body.isNone = false
  args : ∀ az v, f az = some v → plainLD az = true
  out : ∀ az v, f az = some v → plainD v = true
  call : ∀ az v, f az = some v → ∀ w : World, Calls P g az.toArray w fun e w' => e = .returned v ∧ Below w.heap.size w w'
theorem worldL_ok {P : Program} {G R : Nat} {B : Base} {S2 : CallT} {l : List (Nat × PF)} (hS2 : FOk P G R B S2) (hall : ∀ g f, pfind l g = some f → WorldOk P g f) : FOk P G R B (pureLC l S2) := by
  have opn : ∀ h args L m v m', pureLC l S2 h args L m = some (v, m') → S2 h args L m = some (v, m') ∨ (∃ f, pfind l h = some f ∧ f args = some v ∧ m' = m) := by
    intro h args L m v m' hh
    unfold pureLC at hh
    split at hh
    · rename_i f hf
      split at hh
      · rename_i u hu; cases hh; exact .inr ⟨f, hf, hu, rfl⟩
      · cases hh
    · exact .inl hh
  refine ⟨fun f args L m v m' hm hL h => ?_, fun f args L m v m' h => ?_, fun g args L m v m' h U ι w cargs hrel hR hLm hU hargs => ?_⟩
  · rcases opn _ _ _ _ _ _ h with h | ⟨_, _, _, rfl⟩
    · exact hS2.ext _ _ _ _ _ _ hm hL h
    · exact ⟨Nat.le_refl _, trivial, fun _ _ _ => rfl⟩
  · rcases opn _ _ _ _ _ _ h with h | ⟨f, hf, _, _⟩
    · exact hS2.fn _ _ _ _ _ _ h
    · exact (hall _ _ hf).body
  · rcases opn _ _ _ _ _ _ h with h | ⟨f, hf, hv, rfl⟩
    · exact hS2.ok _ _ _ _ _ _ h _ _ _ _ hrel hR hLm hU hargs
    · have hok := hall _ _ hf
      have hpa := hok.args _ _ hv
      have hca : cargs.toList = args := plain_VL hargs hpa
      have hca2 : cargs = args.toArray := by rw [← hca]
      rw [hca2]
      refine (hok.call _ _ hv w).mono fun e W' ⟨he, g3⟩ => ?_
      have hblk : ∀ k, k < w.heap.size → W'.heap[k]? = w.heap[k]? := fun k hk => g3.block k hk
      exact ⟨_, ι, he, plainD_VR ι (hok.out _ _ hv), hrel.stays g3.size hblk, ⟨Inj.le_refl _, fun b _ _ => Nat.lt_or_ge b _, fun b e h h' => (by rw [h] at h'; cases h'), Nat.le_refl _, fun _ _ _ => rfl, g3.os, g3.tape, g3.output, g3.size, fun k hk _ => hblk k hk⟩⟩
theorem SSort_good3 {β : Type} {P : Program} {FSl : Nat → List Nat} {G lf : Nat} (f : FuncId) (sp : FuncId → Bool) (hsp : sp f = true) (hgl : f < RB := by exact Nat.le_of_ble_eq_true rfl) : Good (β := β) P FSl G lf sp (sortC f) f SSort := by
  rcases SSort_good (β := β) (P := P) (FSl := FSl) (G := G) (lf := lf) f hgl with ⟨_, _, h⟩ | ⟨_, h, _⟩ | ⟨d, hd, _⟩
  · exact .inl ⟨hgl, hsp, h⟩
  · have h : Nat.beq f f = false := h
    rw [Nat.beq_refl] at h; cases h
  · exact absurd hgl (by rw [hd]; exact Nat.not_lt.2 (Nat.le_add_right _ _))
/-- The even word of 8 boxes and 3 bands. -/
def mkF : PF := fun az => match ints2 az with
  | some (a, b) => match ieq a 8 && ieq b 3 with
    | true => some (.tuple ⟨[.string ⟨⟨mkL⟩⟩, .int .i64 (.ofNat 0)]⟩)
    | false => none
  | none => none
def pL : List (Nat × PF) := [(126, mkF)]
theorem mkF_some {az : List Value} {v : Value} (h : mkF az = some v) : az = [.int .i64 8, .int .i64 3] ∧ v = .tuple ⟨[.string ⟨⟨mkL⟩⟩, .int .i64 (.ofNat 0)]⟩ := by
  unfold mkF at h
  split at h
  · rename_i a b hab
    split at h
    · rename_i he
      rw [Bool.and_eq_true] at he
      cases h
      have h1 := ints2_some hab
      have h2 : a = 8 := ieq_ok he.1
      have h3 : b = 3 := ieq_ok he.2
      subst h2; subst h3
      exact ⟨h1, rfl⟩
    · cases h
  · cases h
theorem mk_ok : WorldOk Tryz.prog 126 mkF where
  body := ⟨_, Tryz.func126, by kernel_rfl⟩
  args := fun az v h => by obtain ⟨rfl, rfl⟩ := mkF_some h; rfl
  out := fun az v h => by obtain ⟨rfl, rfl⟩ := mkF_some h; rfl
  call := fun az v h w => by obtain ⟨rfl, rfl⟩ := mkF_some h; exact Tryz.mk83 w
theorem pL_ok : ∀ g f, pfind pL g = some f → WorldOk Tryz.prog g f := by
  intro g f h
  unfold pL pfind at h
  split at h
  · rename_i hb
    cases h
    have : 126 = g := Nat.eq_of_beq_eq_true hb
    exact this ▸ mk_ok
  · cases h
end Go.Vit
