/- Walking a range over a function; frames that leave out some blocks. -/
import Derived.Test.YtgimcgdehgbljaaVitAE
set_option linter.unusedSimpArgs false
set_option linter.unusedVariables false
namespace Go.Vit
open Go
/-- Old blocks are kept, but those of X. -/
structure GtX (X : Nat → Prop) (m m' : Mem) : Prop where
  next : m.next ≤ m'.next
  kept : ∀ c, c < m.next → ¬ X c → m'.rd c = m.rd c
section
variable {X : Nat → Prop}
theorem GtX.of {m m' : Mem} (e : Gt m m') : GtX X m m' := ⟨e.next, fun c hc _ => e.kept c hc⟩
theorem GtX.refl (m : Mem) : GtX X m m := ⟨Nat.le_refl _, fun _ _ _ => rfl⟩
theorem GtX.trans {a b c : Mem} (h : GtX X a b) (h' : GtX X b c) : GtX X a c := ⟨Nat.le_trans h.next h'.next, fun x hx hn => (h'.kept x (Nat.lt_of_lt_of_le hx h.next) hn).trans (h.kept x hx hn)⟩
theorem GtX.put {a m : Mem} (h : GtX X a m) {b : Nat} (hb : X b) (k : Option Blk) : GtX X a (m.put b k) := ⟨h.next, fun x hx hn => (Mem.rd_put _ _ _ _ (fun (e : b = x) => hn (by rw [← e]; exact hb))).trans (h.kept x hx hn)⟩
/-- All of X is newer: nothing old was touched. -/
theorem GtX.gt {a m m' : Mem} (e : Gt a m) (h : GtX X m m') (hX : ∀ c, X c → a.next ≤ c) : Gt a m' :=
  ⟨Nat.le_trans e.next h.next, fun c hc => (h.kept c (Nat.lt_of_lt_of_le hc e.next) (fun hx => by have := hX c hx; omega)).trans (e.kept c hc)⟩
theorem At.monoX {m m' : Mem} {b : Nat} {cs : List Value} (h : At m b cs) (e : GtX X m m') (hb : ¬ X b) : At m' b cs := (e.kept b h.lt hb).trans h
theorem IN.monoX {m m' : Mem} {v : Value} {l : List Nat} (h : IN m v l) (e : GtX X m m') (hb : 0 < l.length → ∀ c, bid v = some c → ¬ X c) : IN m' v l := by
  by_cases h0 : 0 < l.length
  · exact h.keep fun c hc => e.kept c (Sl.bid_lt h (by rw [ci_length]; exact h0) c hc) (hb h0 c hc)
  · have : l = [] := List.length_eq_zero_iff.1 (by omega)
    subst this
    exact ⟨by have := h.1; rcases h.2 with rfl | ⟨b, o, x, c, rfl⟩ <;> rfl, h.2⟩
end
theorem GN.keepL {L : Nat} {m m' : Mem} {v : Value} {l : List Nat} (h : GN L m v l) (hk : ∀ c, L ≤ c → c < m.next → m'.rd c = m.rd c) : GN L m' v l := by
  rcases h with h | ⟨b, h1, h2, h3, h4⟩
  · exact .inl h
  · exact .inr ⟨b, h1, h2, (hk b h1 (Mem.rd_lt h3)).trans h3, h4⟩
variable {β : Type}
/-- The value that a loop over a function hands on. -/
abbrev yv (y : Nat) : Value := .func (.yield y) #[] #[]
/-- A loop's record: ready, busy. -/
def Rdy (f : Nat) (m : Mem) (y : Nat) (cs : List Value) : Prop := m.rd y = some ⟨Nat.succ (Nat.mul 2 f), cs, some []⟩
def Bsy (f : Nat) (m : Mem) (y : Nat) (cs : List Value) : Prop := m.rd y = some ⟨Nat.succ (Nat.succ (Nat.mul 2 f)), cs, some []⟩
theorem Rdy.lt {f : Nat} {m : Mem} {y : Nat} {cs : List Value} (h : Rdy f m y cs) : y < m.next := Mem.rd_lt h
theorem Bsy.lt {f : Nat} {m : Mem} {y : Nat} {cs : List Value} (h : Bsy f m y cs) : y < m.next := Mem.rd_lt h
theorem loopB_e {m : Mem} {y s : Nat} {cs : List Value} (h : m.rd y = some ⟨s, cs, some []⟩) : loopB m y s = some cs := by
  unfold loopB
  simp only [h, Nat.beq_refl]
theorem oYv_e {L y : Nat} (h : L ≤ y) (k : Nat → Option β) : oYv (yv y) L k = k y := by
  show (match Nat.ble L y with | true => k y | false => none) = _
  rw [Nat.ble_eq_true_of_le h]
theorem oBusy_e {f y : Nat} {m : Mem} {cs : List Value} (h : Rdy f m y cs) (k : Mem → Option β) : oBusy f y m k = k (m.put y (some ⟨Nat.succ (Nat.succ (Nat.mul 2 f)), cs, some []⟩)) := by
  unfold oBusy
  rw [loopB_e h]
theorem oReady_e {f y : Nat} {m : Mem} {cs : List Value} (h : Bsy f m y cs) (k : Mem → Option β) : oReady f y m k = k (m.put y (some ⟨Nat.succ (Nat.mul 2 f), cs, some []⟩)) := by
  unfold oReady
  rw [loopB_e h]
theorem oCallV_y {f y : Nat} {m : Mem} {cs : List Value} (h : Rdy f m y cs) (call : CallK β) (vs : List Value) (L : Nat) (k : Value → Mem → Option β) :
    oCallV call (yv y) vs L m k = call (Nat.add RB f) (yv y :: (cs ++ vs)) L m k := by
  have h1 : ayield m (yv y) vs = some (Nat.add RB f, yv y :: (cs ++ vs)) := by
    have h2 : Nat.beq (Nat.mod (Nat.mul 2 f) 2) 0 = true := by
      show Nat.beq (2 * f % 2) 0 = true
      rw [show 2 * f % 2 = 0 by omega]; rfl
    have h3 : Nat.div (Nat.mul 2 f) 2 = f := by
      show 2 * f / 2 = f
      omega
    unfold ayield yv
    unfold Rdy at h
    simp only [h, h2, h3]
  show (match ayield m (yv y) vs with | some (g, as) => call g as L m k | none => none) = _
  rw [h1]
/-- A loop over a function is left. -/
def oEnd (f y : Nat) (m : Mem) (k : Mem → Option β) : Option β := match loopB m y (Nat.succ (Nat.mul 2 f)) with
  | none => none
  | some _ => k (m.put y none)
theorem oEnd_e {f y : Nat} {m : Mem} {cs : List Value} (h : Rdy f m y cs) (k : Mem → Option β) : oEnd f y m k = k (m.put y none) := by
  unfold oEnd
  rw [loopB_e h]
theorem oRange_e (call : CallK β) (f : Nat) (h : FuncId) (cs vs : List Value) (L : Nat) (m : Mem) (k : Mem → Option β) (hf : Nat.blt h RB = true) :
    oRange call f (.func (.func h) #[] ⟨cs⟩) vs L m k = call h (yv m.next :: cs) L (m.push ⟨Nat.succ (Nat.mul 2 f), vs, some []⟩) fun _ m2 => oEnd f m.next m2 k := by
  unfold oRange
  have h1 : atarget (.func (.func h) #[] ⟨cs⟩) = some (h, cs) := by
    show (match Nat.blt h RB with | true => some (h, cs) | false => none) = _
    rw [hf]
  rw [h1]
  simp only [natK_eq, Mem.new_eq]
  rfl
end Go.Vit
