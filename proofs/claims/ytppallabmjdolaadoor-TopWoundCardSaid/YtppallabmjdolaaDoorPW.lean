/- Functions of plain values whose calls are known in any world; the even word of the examples stands so. -/
import Derived.Test.YtppallabmjdolaaDoorMk
import Derived.Test.YtppallabmjdolaaDoorTab
import Derived.Test.YtppallabmjdolaaDoorCoreD
set_option linter.unusedSimpArgs false
set_option linter.unusedVariables false
set_option maxRecDepth 100000
namespace Go.Vit
open Go Go.Proofs Go.RowKit
structure WorldOk (P : Program) (g : Nat) (f : PF) : Prop where
  body : ∃ fn, P.funcs[g]? = some fn ∧ fn.body.isNone = false
  args : ∀ az v, f az = some v → plainLD az = true
  out : ∀ az v, f az = some v → plainD v = true
  call : ∀ az v, f az = some v → ∀ w : World, Calls P g az.toArray w fun e w' => e = .returned v ∧ Below w.heap.size w w'
theorem worldL_ok {P : Program} {G R : Nat} {B : Base} {S2 : CallT} {l : List (Nat × PF)} (hS2 : FOk P G R B S2) (hall : ∀ g f, pfind l g = some f → WorldOk P g f) : FOk P G R B (pureLC l S2) := by
  have opn : ∀ h args L m v m', pureLC l S2 h args L m = some (v, m') → S2 h args L m = some (v, m') ∨ (∃ f, pfind l h = some f ∧ f args = some v ∧ m' = m) := by
    intro h args L m v m' hh
    unfold pureLC at hh
    split at hh
    · rename_i f hf
      split at hh
      · rename_i u hu; cases hh; exact .inr ⟨f, hf, hu, rfl⟩
      · cases hh
    · exact .inl hh
  refine ⟨fun f args L m v m' hm hL h => ?_, fun f args L m v m' h => ?_, fun g args L m v m' h U ι w cargs hrel hR hLm hU hargs => ?_⟩
  · rcases opn _ _ _ _ _ _ h with h | ⟨_, _, _, rfl⟩
    · exact hS2.ext _ _ _ _ _ _ hm hL h
    · exact ⟨Nat.le_refl _, trivial, fun _ _ _ => rfl⟩
  · rcases opn _ _ _ _ _ _ h with h | ⟨f, hf, _, _⟩
    · exact hS2.fn _ _ _ _ _ _ h
    · exact (hall _ _ hf).body
  · rcases opn _ _ _ _ _ _ h with h | ⟨f, hf, hv, rfl⟩
    · exact hS2.ok _ _ _ _ _ _ h _ _ _ _ hrel hR hLm hU hargs
    · have hok := hall _ _ hf
      have hpa := hok.args _ _ hv
      have hca : cargs.toList = args := plain_VL hargs hpa
      have hca2 : cargs = args.toArray := by rw [← hca]
      rw [hca2]
      refine (hok.call _ _ hv w).mono fun e W' ⟨he, g3⟩ => ?_
      have hblk : ∀ k, k < w.heap.size → W'.heap[k]? = w.heap[k]? := fun k hk => g3.block k hk
      exact ⟨_, ι, he, plainD_VR ι (hok.out _ _ hv), hrel.stays g3.size hblk, ⟨Inj.le_refl _, fun b _ _ => Nat.lt_or_ge b _, fun b e h h' => (by rw [h] at h'; cases h'), Nat.le_refl _, fun _ _ _ => rfl, g3.os, g3.tape, g3.output, g3.size, fun k hk _ => hblk k hk⟩⟩
theorem SSort_good3 {β : Type} {P : Program} {FSl : Nat → List Nat} {G lf : Nat} (f : FuncId) (sp : FuncId → Bool) (hsp : sp f = true) (hgl : f < RB := by exact Nat.le_of_ble_eq_true rfl) : Good (β := β) P FSl G lf sp (sortC f) f SSort := by
  rcases SSort_good (β := β) (P := P) (FSl := FSl) (G := G) (lf := lf) f hgl with ⟨_, _, h⟩ | ⟨_, h, _⟩ | ⟨d, hd, _⟩
  · exact .inl ⟨hgl, hsp, h⟩
  · have h : Nat.beq f f = false := h
    rw [Nat.beq_refl] at h; cases h
  · exact absurd hgl (by rw [hd]; exact Nat.not_lt.2 (Nat.le_add_right _ _))
def wordE (n k : Nat) : Nat → Nat × List UInt8
  | 0 => (0, [])
  | i + 1 => match wordE n k i with
    | (r, l) => match Nat.ble n (r + k) with
      | true => (r + k - n, l ++ [98])
      | false => (r + k, l ++ [97])
theorem wordE_eq (n k : Nat) : ∀ i, wordE n k i = (restN n k i, wordN n k i)
  | 0 => rfl
  | i + 1 => by
    show (match wordE n k i with
      | (r, l) => match Nat.ble n (r + k) with
        | true => (r + k - n, l ++ [98])
        | false => (r + k, l ++ [97])) = ((if n ≤ restN n k i + k then restN n k i + k - n else restN n k i + k), wordN n k i ++ [if n ≤ restN n k i + k then 98 else 97])
    rw [wordE_eq n k i]
    cases h : Nat.ble n (restN n k i + k) with
    | true =>
      have h' := Nat.le_of_ble_eq_true h
      simp only [h, if_pos h']
    | false =>
      have h' : ¬ n ≤ restN n k i + k := fun hh => by rw [Nat.ble_eq_true_of_le hh] at h; cases h
      simp only [h, if_neg h']
/-- The even words. -/
def mkF : PF := fun az => match ints2 az with
  | some (.ofNat n, .ofNat k) => match Nat.ble 1 n && (Nat.ble n 16 && Nat.ble k n) with
    | true => some (.tuple ⟨[.string ⟨⟨(wordE n k n).2⟩⟩, .int .i64 (.ofNat 0)]⟩)
    | false => none
  | _ => none
def okW (l : List UInt8) : Bool := Nat.ble 1 l.length && (Nat.ble l.length 16 && l.all fun c => Nat.beq c.toNat 97 || Nat.beq c.toNat 98)
/-- Words of two letters. -/
def chF : PF := fun az => match az with
  | [.string s] => match okW s.data.toList with
    | true => some (.int .i64 (.ofNat 0))
    | false => none
  | _ => none
def pL : List (Nat × PF) := [(12, mkF), (41, chF)]
theorem mkF_some {az : List Value} {v : Value} (h : mkF az = some v) : ∃ n k : Nat, 1 ≤ n ∧ n ≤ 16 ∧ k ≤ n ∧ az = [.int .i64 (n : Int), .int .i64 (k : Int)] ∧ v = .tuple ⟨[.string ⟨⟨wordN n k n⟩⟩, .int .i64 (.ofNat 0)]⟩ := by
  unfold mkF at h
  split at h
  · rename_i n k hab
    split at h
    · rename_i he
      rw [Bool.and_eq_true, Bool.and_eq_true] at he
      cases h
      exact ⟨n, k, Nat.le_of_ble_eq_true he.1, Nat.le_of_ble_eq_true he.2.1, Nat.le_of_ble_eq_true he.2.2, ints2_some hab, by rw [wordE_eq]⟩
    · cases h
  · cases h
theorem mk_ok : WorldOk Tryd.prog 12 mkF where
  body := ⟨_, Tryd.func12, by kernel_rfl⟩
  args := fun az v h => by obtain ⟨n, k, _, _, _, rfl, rfl⟩ := mkF_some h; rfl
  out := fun az v h => by obtain ⟨n, k, _, _, _, rfl, rfl⟩ := mkF_some h; rfl
  call := fun az v h w => by obtain ⟨n, k, h1, h2, h3, rfl, rfl⟩ := mkF_some h; exact Tryd.mkA h1 h2 h3 w
theorem chF_some {az : List Value} {v : Value} (h : chF az = some v) : ∃ s : ByteArray, okW s.data.toList = true ∧ az = [.string s] ∧ v = .int .i64 (.ofNat 0) := by
  unfold chF at h
  split at h
  · rename_i s
    split at h
    · rename_i he
      cases h
      exact ⟨s, he, rfl, rfl⟩
    · cases h
  · cases h
theorem ch_ok : WorldOk Tryd.prog 41 chF where
  body := ⟨_, Tryd.func41, by kernel_rfl⟩
  args := fun az v h => by obtain ⟨s, _, rfl, rfl⟩ := chF_some h; rfl
  out := fun az v h => by obtain ⟨s, _, rfl, rfl⟩ := chF_some h; rfl
  call := fun az v h w => by
    obtain ⟨s, h1, rfl, rfl⟩ := chF_some h
    unfold okW at h1
    rw [Bool.and_eq_true, Bool.and_eq_true, List.all_eq_true] at h1
    have hc := Tryd.chk0 (l := s.data.toList) (Nat.le_of_ble_eq_true h1.1) (Nat.le_of_ble_eq_true h1.2.1) (fun c hc => by
      have := h1.2.2 c hc
      rw [Bool.or_eq_true] at this
      rcases this with h | h
      · exact .inl (UInt8.toNat_inj.1 (Nat.eq_of_beq_eq_true h))
      · exact .inr (UInt8.toNat_inj.1 (Nat.eq_of_beq_eq_true h))) w
    rw [Array.toArray_toList] at hc
    exact hc
theorem pL_ok : ∀ g f, pfind pL g = some f → WorldOk Tryd.prog g f := by
  intro g f h
  unfold pL pfind at h
  split at h
  · rename_i hb
    cases h
    have : 12 = g := Nat.eq_of_beq_eq_true hb
    exact this ▸ mk_ok
  · unfold pfind at h
    split at h
    · rename_i hb
      cases h
      have : 41 = g := Nat.eq_of_beq_eq_true hb
      exact this ▸ ch_ok
    · cases h
end Go.Vit
