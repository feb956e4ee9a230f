/- A closed call that was reckoned, in a form that the kernel can run: the tables are compared. -/
import Derived.Test.YtgimcgdehgbljaaVitX
set_option linter.unusedSimpArgs false
set_option linter.unusedVariables false
namespace Go.Vit
open Go

def sameV (v u : Value) : Bool := match v with
  | .int k n => match u with
    | .int k' n' => match Nat.beq (kix k) (kix k') with
      | true => ieq n n'
      | false => false
    | _ => false
  | _ => false
def sameL : List Value → List Value → Bool
  | [], l => match l with
    | [] => true
    | _ => false
  | v :: vs, l => match l with
    | [] => false
    | u :: us => match sameV v u with
      | true => sameL vs us
      | false => false
def sameB (a b : Option Blk) : Bool := match a with
  | some x => match x.ents with
    | none => match b with
      | some y => match y.ents with
        | none => match Nat.beq x.esz y.esz with
          | true => sameL x.cells y.cells
          | false => false
        | some _ => false
      | none => false
    | some _ => false
  | none => false
def sameM (m0 m : Mem) : Nat → Bool
  | 0 => true
  | n + 1 => match sameB (m0.rd n) (m.rd n) with
    | true => sameM m0 m n
    | false => false
theorem sameV_eq {v u : Value} (h : sameV v u = true) : v = u := by
  unfold sameV at h
  split at h
  · split at h
    · split at h
      · rename_i hk
        obtain rfl := kix_inj hk
        rw [ieq_eq] at h
        rw [eq_of_beq h]
      · cases h
    · cases h
  · cases h
theorem sameL_eq : ∀ {l r : List Value}, sameL l r = true → l = r
  | [], [], _ => rfl
  | [], _ :: _, h => by cases h
  | v :: vs, [], h => by cases h
  | v :: vs, u :: us, h => by
    simp only [sameL] at h
    split at h
    · rename_i hv
      rw [sameV_eq hv, sameL_eq h]
    · cases h
theorem sameB_eq {a b : Option Blk} (h : sameB a b = true) : a = b := by
  unfold sameB at h
  split at h
  · rename_i x
    split at h
    · rename_i hx
      split at h
      · rename_i y
        split at h
        · rename_i hy
          split at h
          · rename_i he
            have h1 := Nat.eq_of_beq_eq_true he
            have h2 := sameL_eq h
            cases x; cases y
            simp only at h1 h2 hx hy
            subst h1 h2 hx hy
            rfl
          · cases h
        · cases h
      · cases h
    · cases h
  · cases h
theorem sameM_eq {m0 m : Mem} : ∀ {n g : Nat}, sameM m0 m n = true → g < n → m.rd g = m0.rd g
  | n + 1, g, h, hg => by
    simp only [sameM] at h
    split at h
    · rename_i hb
      by_cases hgn : g = n
      · subst hgn; exact (sameB_eq hb).symm
      · exact sameM_eq h (by omega)
    · cases h
def tabB (m0 m : Mem) : Bool := match Nat.ble m0.next m.next with
  | true => sameM m0 m m0.next
  | false => false
theorem tabB_ok {m0 m : Mem} (h : tabB m0 m = true) : TabOk m0 m := by
  unfold tabB at h
  split at h
  · rename_i hb
    exact ⟨Nat.le_of_ble_eq_true hb, fun g hg => sameM_eq h hg⟩
  · cases h
def SRun {β : Type} (m0 : Mem) : FnK β := fun _ args L m k => match args with
  | [] => match tabB m0 m with
    | true => k (.bool true) m
    | false => none
  | _ => none
theorem SRun_good {β : Type} {P : Program} {FSl : Nat → List Nat} {G lf : Nat} {m0 : Mem} (g : FuncId) (sp : FuncId → Bool) (S : CallT) (hsp : sp g = true) (hgl : g < RB := by exact Nat.le_of_ble_eq_true rfl) : Good (β := β) P FSl G lf sp (closedC m0 g S) g (SRun m0) := by
  refine .inl ⟨hgl, hsp, fun cK args L m k r h => ?_⟩
  unfold SRun at h
  split at h
  · split at h
    · rename_i hb
      refine ⟨.bool true, m, ?_, h⟩
      simp only [closedC, Nat.beq_refl, closedA, if_pos (tabB_ok hb)]
    · cases h
  · cases h
end Go.Vit
