/- The shallow form: whole functions, a table of them, and what a run of it says. -/
import Derived.Test.YticlkfhmmcepjaaDoorVitT
import Derived.Test.YticlkfhmmcepjaaDoorVitQ
set_option linter.unusedSimpArgs false
set_option linter.unusedVariables false
namespace Go.Vit
open Go

def kAll (P : Program) (f : FuncId) : List Nat := match P.funcs[f]? with
  | some fn => List.range fn.ntmps
  | none => []

theorem initPs_range (args : List Value) : ∀ (n a i : Nat), i < n → lget (initPs args (List.range' a n)) i = some ((args[a + i]?).getD Go.undef)
  | 0, a, i, h => by omega
  | n + 1, a, i, h => by
    rw [range_cons]
    simp only [initPs]
    cases i with
    | zero =>
      simp only [lget, lget_eq, Nat.add_zero]
      cases args[a]? <;> rfl
    | succ i =>
      simp only [lget]
      rw [initPs_range args n (a + 1) i (by omega)]
      rw [show a + 1 + i = a + (i + 1) by omega]
theorem initPs_len (args : List Value) : ∀ (l : List Nat), (initPs args l).length = l.length
  | [] => rfl
  | t :: l => by simp [initPs, initPs_len args l]
theorem un0_some {β : Type} {l : List Value} {k : Option β} {r : β} (h : un0 l k = some r) : l = [] ∧ k = some r := by
  unfold un0 at h
  split at h
  · exact ⟨rfl, h⟩
  · cases h

section
variable {β : Type} {P : Program} {G lf : Nat} {callK : CallK β} {call : CallT}

theorem bindA_ok {N : Nat} {args : List Value} {r : β} {k : Frm → Option β} : ∀ (n s : Nat) (l : List Value) (fr : Frm), l = args.drop s → s + n ≤ N → s ≤ args.length → Sub N fr ⟨initPs args (List.range N), []⟩ → bindA s n l fr k = some r →
    args.length = s + n ∧ ∃ fr', Sub N fr' ⟨initPs args (List.range N), []⟩ ∧ k fr' = some r
  | 0, s, l, fr, hl, hn, hsl, hs, h => by
    simp only [bindA, deep_eq] at h
    obtain ⟨h1, h2⟩ := un0_some h
    rw [h1] at hl
    have := List.drop_eq_nil_iff.1 hl.symm
    exact ⟨by omega, fr, hs, h2⟩
  | n + 1, s, l, fr, hl, hn, hsl, hs, h => by
    simp only [bindA, deep_eq] at h
    obtain ⟨a, l', rfl, h⟩ := uc_some h
    have ha : args[s]? = some a := by
      have := congrArg (·[0]?) hl
      simpa using this.symm
    have hlt : s < args.length := (List.getElem?_eq_some_iff.1 ha).1
    have hl' : l' = args.drop (s + 1) := by
      have := congrArg List.tail hl
      simpa using this
    have hget : lget (initPs args (List.range N)) s = some a := by
      rw [List.range_eq_range', initPs_range args N 0 s (by omega)]
      simp [ha]
    obtain ⟨h1, h2⟩ := bindA_ok n (s + 1) l' ((s, a) :: fr) hl' (by omega) (by omega) (hs.cons ⟨by omega, hget⟩) h
    exact ⟨by omega, h2⟩

theorem denLd_some {m : Mem} {t : TypeId} {x : Value} {k : Value → Option β} {r : β} (h : denLd P m t x k = some r) : ∃ v, aload P m t x = some v ∧ k v = some r := by
  simp only [denLd, deep_eq] at h
  split at h
  · rename_i ht
    obtain ⟨v, h2, h⟩ := oOpt_some h
    refine ⟨v, ?_, h⟩
    unfold ld1 at h2
    split at h2
    · simp only [aload, ht]; exact h2
    · cases h2
  · rename_i ht
    split at h
    · rename_i s hs
      obtain ⟨v, h2, h⟩ := oOpt_some h
      refine ⟨v, ?_, h⟩
      unfold ldN at h2
      split at h2
      · simp only [aload, ht, hs]; exact h2
      · cases h2
    · cases h
  · cases h

theorem denRes_ok {N : Nat} {fr : Frm} {fr1 : Fr} (hs : Sub N fr fr1) {m : Mem} {r : β} : ∀ (l : List ResultVar) (k : List Value → Option β), denRes P l fr m k = some r → ∃ vs, resA P (List.range N) fr1 m l = some vs ∧ k vs = some r
  | [], k, h => ⟨[], rfl, h⟩
  | .tmp t :: l, k, h => by
    simp only [denRes, deep_eq] at h
    split at h
    · rename_i v hv
      obtain ⟨vs, h1, h2⟩ := denRes_ok hs l _ h
      exact ⟨v :: vs, by simp only [resA, hs.fget hv, h1], h2⟩
    · cases h
  | .cell a t :: l, k, h => by
    simp only [denRes, deep_eq] at h
    split at h
    · rename_i x hx
      obtain ⟨v, h0, h⟩ := denLd_some h
      obtain ⟨vs, h1, h2⟩ := denRes_ok hs l _ h
      exact ⟨v :: vs, by simp only [resA, hs.fget hx, h0, h1], h2⟩
    · cases h

theorem denF_ok (hc : CallSim callK call) {ka : Kat} {f : FuncId} {args : List Value} {L : Nat} {m : Mem} {k : Value → Mem → Option β} {r : β} (h : denF P G ka lf callK f args L m k = some r) :
    ∃ v m', evF P G (kAll P) lf call f args L m = some (v, m') ∧ k v m' = some r := by
  unfold denF at h
  split at h
  · cases h
  · rename_i fn hfn
    split at h
    · cases h
    · rename_i c hb
      split at h
      · cases h
      · rename_i hN
        have hN := Nat.le_of_ble_eq_true hN
        obtain ⟨h1, fr, h2, h3⟩ := bindA_ok (N := fn.ntmps) (args := args) _ 0 args [] rfl (by simpa using hN) (Nat.zero_le _) ⟨by simp [initPs_len], fun t v hv => by cases hv⟩ h
        obtain ⟨e, fr', fr1', m', g1, g2, g3, g4⟩ := den_ok hc _ _ _ _ _ _ _ _ h2 h3
        have hK : kAll P f = List.range fn.ntmps := by simp only [kAll, hfn]
        have hlen : Nat.ble args.length fn.ntmps = true := by
          rw [Nat.ble_eq]
          rw [h1]
          simpa using hN
        have fin : e ≤ 1 → (denRes P fn.results.toList fr' m' fun vs => k (oneOr vs) m') = some r → ∃ v m', evF P G (kAll P) lf call f args L m = some (v, m') ∧ k v m' = some r := fun he h4 => by
          obtain ⟨vs, h5, h6⟩ := denRes_ok g2 _ _ h4
          refine ⟨oneOr vs, m', ?_, h6⟩
          have hle : Nat.ble e 1 = true := by rw [Nat.ble_eq]; exact he
          simp only [evF, hfn, hb, hlen, hK, g1, hle, h5]
        rcases g4 with ⟨rfl, h4⟩ | ⟨rfl, h4⟩ | ⟨id, kk, _, h5, _⟩
        · exact fin (by omega) h4
        · exact fin (by omega) h4
        · cases h5
end

/-! ### A table of functions -/
def callM (sp : FuncId → Bool) (S : CallT) (P : Program) (G lf : Nat) : Nat → CallT
  | 0 => noCalls
  | n + 1 => fun f args L m => match sp f with
    | true => S f args L m
    | false => evF P G (kAll P) lf (callM sp S P G lf n) f args L m
theorem callM_ok {P : Program} {G R lf : Nat} {B : World} {sp : FuncId → Bool} {S : CallT} (hS : CallOk P G R B S) (hP : Prog P) : ∀ n, CallOk P G R B (callM sp S P G lf n) := by
  intro n
  induction n with
  | zero => exact noCalls_ok
  | succ n ih =>
    have hF := evF_ok hP (kAll P) lf ih
    have opn : ∀ f args L m v m', callM sp S P G lf (n + 1) f args L m = some (v, m') → S f args L m = some (v, m') ∨ evF P G (kAll P) lf (callM sp S P G lf n) f args L m = some (v, m') := by
      intro f args L m v m' h
      simp only [callM] at h
      split at h
      · exact .inl h
      · exact .inr h
    refine ⟨fun f args L m v m' hm hL h => ?_, fun f args L m v m' h => ?_, fun f args L m v m' h => ?_⟩ <;> rcases opn _ _ _ _ _ _ h with h | h
    · exact hS.ext _ _ _ _ _ _ hm hL h
    · exact hF.ext _ _ _ _ _ _ hm hL h
    · exact hS.fn _ _ _ _ _ _ h
    · exact hF.fn _ _ _ _ _ _ h
    · exact hS.ok _ _ _ _ _ _ h
    · exact hF.ok _ _ _ _ _ _ h

abbrev FnK (β : Type) := CallK β → List Value → Nat → Mem → (Value → Mem → Option β) → Option β
inductive Bt (β : Type) where
  | e
  | n (key : Nat) (x : FnK β) (l r : Bt β)
def Bt.find {β : Type} (t : Bt β) (f : Nat) : Option (FnK β) := match t with
  | .e => none
  | .n key x l r => match Nat.beq key f with
    | true => some x
    | false => match Nat.blt f key with
      | true => Bt.find l f
      | false => Bt.find r f
def Bt.All {β : Type} (good : Nat → FnK β → Prop) : Bt β → Prop
  | .e => True
  | .n key x l r => good key x ∧ Bt.All good l ∧ Bt.All good r
theorem Bt.find_all {β : Type} {good : Nat → FnK β → Prop} {f : Nat} {x : FnK β} : ∀ {t : Bt β}, t.All good → t.find f = some x → good f x
  | .e, _, h => by cases h
  | .n key y l r, ha, h => by
    obtain ⟨h1, h2, h3⟩ := ha
    simp only [Bt.find] at h
    split at h
    · rename_i hb
      obtain rfl := Nat.eq_of_beq_eq_true hb
      cases h
      exact h1
    · split at h
      · exact Bt.find_all h2 h
      · exact Bt.find_all h3 h
/-- A text is a function's: its body in the shallow form, or what is known of it. -/
def Good {β : Type} (P : Program) (G lf : Nat) (sp : FuncId → Bool) (S : CallT) (f : Nat) (x : FnK β) : Prop :=
  (sp f = true ∧ ∀ cK args L m k r, x cK args L m k = some r → ∃ v m', S f args L m = some (v, m') ∧ k v m' = some r) ∨
  (sp f = false ∧ ∃ ka, ∀ cK args L m k, x cK args L m k = denF P G ka lf cK f args L m k)
def runT {β : Type} (t : Bt β) : Nat → CallK β
  | 0 => fun _ _ _ _ _ => none
  | n + 1 => fun f args L m k => match t.find f with
    | some x => x (runT t n) args L m k
    | none => none
theorem runT_sim {β : Type} {P : Program} {G lf : Nat} {sp : FuncId → Bool} {S : CallT} {t : Bt β} (ht : t.All (Good P G lf sp S)) : ∀ n, CallSim (runT t n) (callM sp S P G lf n)
  | 0 => fun f args L m k r h => by cases h
  | n + 1 => fun f args L m k r h => by
    simp only [runT] at h
    split at h
    · rename_i x hx
      rcases Bt.find_all ht hx with ⟨h1, h2⟩ | ⟨h1, ka, h2⟩
      · obtain ⟨v, m', h3, h4⟩ := h2 _ _ _ _ _ _ h
        exact ⟨v, m', by simp only [callM, h1]; exact h3, h4⟩
      · rw [h2] at h
        obtain ⟨v, m', h3, h4⟩ := denF_ok (runT_sim ht n) h
        exact ⟨v, m', by simp only [callM, h1]; exact h3, h4⟩
    · cases h
def isTrue (v : Value) (_ : Mem) : Option Unit := match v with
  | .bool true => some ()
  | _ => none
theorem calls_of_runT {P : Program} {G lf : Nat} {sp : FuncId → Bool} {S : CallT} {t : Bt Unit} (ht : t.All (Good P G lf sp S)) {m : Mem} {W : World} {ι : Inj} (hP : Prog P) (hS : CallOk P G m.next W S) {n : Nat} {f : FuncId} {args : List Value} {cargs : Array Value}
    (hrel : Rel G m.next W 65536 ι m W) (hargs : VL ι args cargs.toList) (h : runT t n f args m.next m isTrue = some ()) :
    Calls P f cargs W fun e W' => e = .returned (.bool true) ∧ Stays W W' := by
  obtain ⟨v, m', h1, h2⟩ := runT_sim ht n _ _ _ _ _ _ h
  have hc := callM_ok (G := G) (R := m.next) (B := W) (sp := sp) (lf := lf) hS hP n
  have hext := hc.ext _ _ _ _ _ _ hrel.ok (Nat.le_refl _) h1
  refine (hc.ok _ _ _ _ _ _ h1 65536 ι W cargs hrel (Nat.le_refl _) (Nat.le_refl _) hext.ok hargs).mono fun e W' ⟨u, κ, he, g1, g2, g3⟩ => ?_
  unfold isTrue at h2
  split at h2
  · cases g1
    exact ⟨he, g3.stays (Nat.le_refl _)⟩
  · cases h2
end Go.Vit
