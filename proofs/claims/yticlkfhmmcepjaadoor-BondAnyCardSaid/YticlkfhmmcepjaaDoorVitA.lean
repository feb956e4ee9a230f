/- Abstract states: values over abstract blocks, memory, and how they stand to the machine's own. -/
import Derived.WalkKit
import Derived.WalkLawsBesides
namespace Go.Vit
open Go

structure Ent where
  cb : Nat
  base : Nat
  extra : Nat

abbrev Inj := Nat → Option Ent

def Inj.le (i j : Inj) : Prop := ∀ b e, i b = some e → j b = some e
theorem Inj.le_refl (i : Inj) : i.le i := fun _ _ h => h
theorem Inj.le_trans {i j k : Inj} (h : i.le j) (h' : j.le k) : i.le k := fun b e x => h' b e (h b e x)

/-- An abstract value and the machine's value that it stands for. In an abstract slice the third part of the address marks one whose capacity is known. -/
inductive VR (ι : Inj) : Value → Value → Prop
  | bool (b : Bool) : VR ι (.bool b) (.bool b)
  | int (k : IntKind) (n : Int) : VR ι (.int k n) (.int k n)
  | string (s : ByteArray) : VR ι (.string s) (.string s)
  | nilPtr : VR ι (.pointer none) (.pointer none)
  | ptr (b o : Nat) (e : Ent) : ι b = some e → VR ι (.pointer (some ⟨b, o, none⟩)) (.pointer (some ⟨e.cb, e.base + o, none⟩))
  | nilSlice : VR ι (.slice none 0 0) (.slice none 0 0)
  | slOpen (b o n c : Nat) (e : Ent) : ι b = some e → VR ι (.slice (some ⟨b, o, none⟩) n c) (.slice (some ⟨e.cb, e.base + o, none⟩) n (c + e.extra))
  | slExact (b o n c : Nat) (e : Ent) : ι b = some e → VR ι (.slice (some ⟨b, o, some 0⟩) n c) (.slice (some ⟨e.cb, e.base + o, none⟩) n c)
  | slEnd (b o q c : Nat) (e : Ent) : ι b = some e → VR ι (.slice (some ⟨b, o, some 1⟩) 0 0) (.slice (some ⟨e.cb, q, none⟩) 0 c)
  | nilMap : VR ι (.map none) (.map none)
  | map (b : Nat) (e : Ent) : ι b = some e → VR ι (.map (some b)) (.map (some e.cb))
  | nilFunc : VR ι .nilFunc .nilFunc
  | nilIface : VR ι .nilIface .nilIface
  | iface (t : TypeId) (v u : Value) : VR ι v u → VR ι (.iface t v) (.iface t u)
  | func (f : FuncId) (cs ds : Array Value) : cs.size = ds.size → (∀ (i : Nat) (v u : Value), cs[i]? = some v → ds[i]? = some u → VR ι v u) → VR ι (.func (.func f) #[] cs) (.func (.func f) #[] ds)
  | agg (cs ds : Array Value) : cs.size = ds.size → (∀ (i : Nat) (v u : Value), cs[i]? = some v → ds[i]? = some u → VR ι v u) → VR ι (.agg cs) (.agg ds)
  | tuple (cs ds : Array Value) : cs.size = ds.size → (∀ (i : Nat) (v u : Value), cs[i]? = some v → ds[i]? = some u → VR ι v u) → VR ι (.tuple cs) (.tuple ds)

theorem VR.mono {ι κ : Inj} (h : ι.le κ) {v u : Value} (r : VR ι v u) : VR κ v u := by
  induction r with
  | bool b => exact .bool b
  | int k n => exact .int k n
  | string s => exact .string s
  | nilPtr => exact .nilPtr
  | ptr b o e he => exact .ptr b o e (h _ _ he)
  | nilSlice => exact .nilSlice
  | slOpen b o n c e he => exact .slOpen b o n c e (h _ _ he)
  | slExact b o n c e he => exact .slExact b o n c e (h _ _ he)
  | slEnd b o q c e he => exact .slEnd b o q c e (h _ _ he)
  | nilMap => exact .nilMap
  | map b e he => exact .map b e (h _ _ he)
  | nilFunc => exact .nilFunc
  | nilIface => exact .nilIface
  | iface t v u _ ih => exact .iface t v u ih
  | func f cs ds hs _ ih => exact .func f cs ds hs ih
  | agg cs ds hs _ ih => exact .agg cs ds hs ih
  | tuple cs ds hs _ ih => exact .tuple cs ds hs ih

/-- Lists of values, one by one. -/
def VL (ι : Inj) (xs ys : List Value) : Prop := xs.length = ys.length ∧ ∀ (i : Nat) (v u : Value), xs[i]? = some v → ys[i]? = some u → VR ι v u
theorem VL.nil (ι : Inj) : VL ι [] [] := ⟨rfl, by simp⟩
theorem VL.cons {ι : Inj} {x y : Value} {xs ys : List Value} (h : VR ι x y) (hs : VL ι xs ys) : VL ι (x :: xs) (y :: ys) := by
  refine ⟨by simp [hs.1], fun i v u hv hu => ?_⟩
  cases i with
  | zero => simp at hv hu; subst hv; subst hu; exact h
  | succ i => simp at hv hu; exact hs.2 i v u hv hu
theorem VL.mono {ι κ : Inj} (h : ι.le κ) {xs ys : List Value} (r : VL ι xs ys) : VL κ xs ys := ⟨r.1, fun i v u a b => (r.2 i v u a b).mono h⟩
theorem VL.get {ι : Inj} {xs ys : List Value} (h : VL ι xs ys) {i : Nat} {v : Value} (hv : xs[i]? = some v) : ∃ u, ys[i]? = some u ∧ VR ι v u := by
  have hi : i < xs.length := (List.getElem?_eq_some_iff.1 hv).1
  have : i < ys.length := h.1 ▸ hi
  exact ⟨ys[i], by simp [this], h.2 i v _ hv (by simp [this])⟩
theorem VL.tail {ι : Inj} {x y : Value} {xs ys : List Value} (h : VL ι (x :: xs) (y :: ys)) : VR ι x y ∧ VL ι xs ys :=
  ⟨h.2 0 x y rfl rfl, by simpa using h.1, fun i v u a b => h.2 (i + 1) v u (by simpa using a) (by simpa using b)⟩
theorem VL.inv_cons {ι : Inj} {x : Value} {xs ys : List Value} (h : VL ι (x :: xs) ys) : ∃ y zs, ys = y :: zs ∧ VR ι x y ∧ VL ι xs zs := by
  cases ys with
  | nil => simp [VL] at h
  | cons y zs => exact ⟨y, zs, rfl, h.tail⟩
theorem VL.inv_nil {ι : Inj} {ys : List Value} (h : VL ι [] ys) : ys = [] := by
  cases ys with
  | nil => rfl
  | cons y zs => simp [VL] at h
theorem VL.append {ι : Inj} {xs ys xs' ys' : List Value} (h : VL ι xs ys) (h' : VL ι xs' ys') : VL ι (xs ++ xs') (ys ++ ys') := by
  refine ⟨by simp [h.1, h'.1], fun i v u hv hu => ?_⟩
  by_cases hi : i < xs.length
  · rw [List.getElem?_append_left hi] at hv
    rw [List.getElem?_append_left (h.1 ▸ hi)] at hu
    exact h.2 i v u hv hu
  · rw [List.getElem?_append_right (by omega)] at hv
    rw [List.getElem?_append_right (by rw [← h.1]; omega), ← h.1] at hu
    exact h'.2 _ v u hv hu
theorem VL.take {ι : Inj} {xs ys : List Value} (h : VL ι xs ys) (n : Nat) : VL ι (xs.take n) (ys.take n) := by
  refine ⟨by simp [h.1], fun i v u hv hu => ?_⟩
  rw [List.getElem?_take] at hv hu
  split at hv
  · rename_i hi; simp [hi] at hu; exact h.2 i v u hv hu
  · cases hv
theorem VL.drop {ι : Inj} {xs ys : List Value} (h : VL ι xs ys) (n : Nat) : VL ι (xs.drop n) (ys.drop n) := by
  refine ⟨by simp [h.1], fun i v u hv hu => ?_⟩
  rw [List.getElem?_drop] at hv hu
  exact h.2 _ v u hv hu
theorem VL.set {ι : Inj} {xs ys : List Value} (h : VL ι xs ys) (n : Nat) {v u : Value} (hv : VR ι v u) : VL ι (xs.set n v) (ys.set n u) := by
  refine ⟨by simp [h.1], fun i a b ha hb => ?_⟩
  rw [List.getElem?_set] at ha hb
  by_cases hn : n = i
  · subst hn
    simp at ha hb
    obtain ⟨_, rfl⟩ := ha
    obtain ⟨_, rfl⟩ := hb
    exact hv
  · simp [hn] at ha hb; exact h.2 i a b ha hb
theorem VL.of_agg {ι : Inj} {cs : Array Value} {u : Value} (h : VR ι (.agg cs) u) : ∃ ds, u = .agg ds ∧ VL ι cs.toList ds.toList := by
  cases h with
  | agg _ ds hs hr => exact ⟨ds, rfl, by simpa using hs, fun i v u a b => hr i v u (by simpa using a) (by simpa using b)⟩
theorem VL.of_tuple {ι : Inj} {cs : Array Value} {u : Value} (h : VR ι (.tuple cs) u) : ∃ ds, u = .tuple ds ∧ VL ι cs.toList ds.toList := by
  cases h with
  | tuple _ ds hs hr => exact ⟨ds, rfl, by simpa using hs, fun i v u a b => hr i v u (by simpa using a) (by simpa using b)⟩
theorem VL.agg {ι : Inj} {cs ds : Array Value} (h : VL ι cs.toList ds.toList) : VR ι (.agg cs) (.agg ds) :=
  .agg _ _ (by simpa using h.1) fun i v u a b => h.2 i v u (by simpa using a) (by simpa using b)
theorem VL.tuple {ι : Inj} {cs ds : Array Value} (h : VL ι cs.toList ds.toList) : VR ι (.tuple cs) (.tuple ds) :=
  .tuple _ _ (by simpa using h.1) fun i v u a b => h.2 i v u (by simpa using a) (by simpa using b)
theorem VR.undef (ι : Inj) : VR ι Go.undef Go.undef := .tuple _ _ rfl (by simp)
/-- The cells of a value. -/
theorem VR.cells {ι : Inj} {v u : Value} (h : VR ι v u) : VL ι v.cells.toList u.cells.toList := by
  cases h with
  | agg cs ds hs hr => exact ⟨by simpa [Value.cells] using hs, fun i v u a b => hr i v u (by simpa [Value.cells] using a) (by simpa [Value.cells] using b)⟩
  | _ =>
    simp only [Value.cells]
    exact VL.cons (by constructor <;> assumption) (VL.nil ι)

/-- One cell's value (no aggregate). -/
def oneCell : Value → Bool
  | .agg _ | .tuple _ => false
  | _ => true
theorem VR.oneCell {ι : Inj} {v u : Value} (h : VR ι v u) : oneCell u = oneCell v := by cases h <;> rfl

/-- A value without addresses stands for itself. -/
def plain : Value → Bool
  | .bool _ | .int _ _ | .string _ | .pointer none | .nilFunc | .nilIface | .map none | .slice none 0 0 => true
  | _ => false
theorem VR.plain (ι : Inj) {v : Value} (h : plain v = true) : VR ι v v := by
  unfold Go.Vit.plain at h
  split at h <;> first | constructor | cases h

/-! ### Memory -/
structure Blk where
  esz : Nat
  cells : List Value
  ents : Option (List (Value × Value))

inductive Tr where
  | e
  | l (v : Option Blk)
  | n (a b : Tr)

def Tr.get : Nat → Tr → Nat → Option Blk
  | 0, t, _ => match t with
    | .l v => v
    | _ => none
  | d + 1, t, i => match t with
    | .n a b => if Nat.beq (Nat.mod i 2) 0 then Tr.get d a (Nat.div i 2) else Tr.get d b (Nat.div i 2)
    | _ => none
def Tr.set : Nat → Tr → Nat → Option Blk → Tr
  | 0, _, _, v => .l v
  | d + 1, t, i, v => match t with
    | .n a b => if Nat.beq (Nat.mod i 2) 0 then .n (Tr.set d a (Nat.div i 2) v) b else .n a (Tr.set d b (Nat.div i 2) v)
    | _ => if Nat.beq (Nat.mod i 2) 0 then .n (Tr.set d .e (Nat.div i 2) v) .e else .n .e (Tr.set d .e (Nat.div i 2) v)
theorem Tr.get_e (d i : Nat) : Tr.get d .e i = none := by cases d <;> rfl
theorem Tr.get_set_same (v : Option Blk) : ∀ (d : Nat) (t : Tr) (i : Nat), Tr.get d (Tr.set d t i v) i = v
  | 0, _, _ => rfl
  | d + 1, t, i => by
    cases t <;> simp only [Tr.set] <;> split <;> rename_i h <;> simp only [Tr.get, h, if_true, Bool.false_eq_true, if_false] <;> exact Tr.get_set_same v d _ _
theorem Tr.get_set_ne (v : Option Blk) : ∀ (d : Nat) (t : Tr) (i j : Nat), i < 2 ^ d → j < 2 ^ d → i ≠ j → Tr.get d (Tr.set d t i v) j = Tr.get d t j
  | 0, _, i, j, hi, hj, hn => by simp at hi hj; omega
  | d + 1, t, i, j, hi, hj, hn => by
    have hi' : i / 2 < 2 ^ d := by rw [Nat.pow_succ] at hi; omega
    have hj' : j / 2 < 2 ^ d := by rw [Nat.pow_succ] at hj; omega
    have ei : (Nat.beq (Nat.mod i 2) 0 = true) ↔ i % 2 = 0 := by rw [Nat.beq_eq]; rfl
    have ej : (Nat.beq (Nat.mod j 2) 0 = true) ↔ j % 2 = 0 := by rw [Nat.beq_eq]; rfl
    have key : ∀ s : Tr, i % 2 = j % 2 → Tr.get d (Tr.set d s (Nat.div i 2) v) (Nat.div j 2) = Tr.get d s (Nat.div j 2) := fun s h =>
      Tr.get_set_ne v d s _ _ hi' hj' (fun h' => hn (by have : i / 2 = j / 2 := h'; omega))
    have hc : (i % 2 = j % 2) ∨ (i % 2 ≠ j % 2) := by omega
    cases t with
    | n a b =>
      simp only [Tr.set]
      by_cases h1 : i % 2 = 0 <;> by_cases h2 : j % 2 = 0 <;> simp only [ei, ej, h1, h2, if_true, if_false, Tr.get]
      · exact key a (by omega)
      · exact key b (by omega)
    | _ =>
      simp only [Tr.set]
      by_cases h1 : i % 2 = 0 <;> by_cases h2 : j % 2 = 0 <;> simp only [ei, ej, h1, h2, if_true, if_false, Tr.get]
      all_goals first | exact Tr.get_e _ _ | (rw [key .e (by omega)]; exact Tr.get_e _ _)

def depth : Nat := 16
structure Mem where
  tr : Tr
  next : Nat
def Mem.rd (m : Mem) (b : Nat) : Option Blk := if Nat.blt b m.next then Tr.get depth m.tr b else none
def Mem.put (m : Mem) (b : Nat) (k : Option Blk) : Mem := ⟨Tr.set depth m.tr b k, m.next⟩
/-- A new block; none if there are too many. -/
def Mem.new (m : Mem) (k : Blk) : Option Mem := if Nat.blt m.next 65536 then some ⟨Tr.set depth m.tr m.next (some k), Nat.succ m.next⟩ else none

theorem Mem.rd_lt {m : Mem} {b : Nat} {k : Blk} (h : m.rd b = some k) : b < m.next := by
  unfold Mem.rd at h
  split at h
  · rename_i hb; simpa using hb
  · cases h
/-- Not more blocks than the tree has room for. -/
def Mem.ok (m : Mem) : Prop := m.next ≤ 65536
theorem Mem.new_next {m m' : Mem} {k : Blk} (h : m.new k = some m') : m'.next = m.next + 1 ∧ m.next < 65536 := by
  unfold Mem.new at h
  split at h
  · rename_i hb; cases h; exact ⟨rfl, by simpa using hb⟩
  · cases h
theorem Mem.new_ok {m m' : Mem} {k : Blk} (h : m.new k = some m') : m'.ok := by
  have := Mem.new_next h; unfold Mem.ok; omega
theorem Mem.rd_new_same {m m' : Mem} {k : Blk} (h : m.new k = some m') : m'.rd m.next = some k := by
  unfold Mem.new at h
  split at h
  · cases h; simp [Mem.rd, Tr.get_set_same]
  · cases h
theorem Mem.rd_new_lt {m m' : Mem} {k : Blk} (h : m.new k = some m') {b : Nat} (hb : b < m.next) : m'.rd b = m.rd b := by
  have h1 := (Mem.new_next h).2
  unfold Mem.new at h
  split at h
  · cases h
    have hne : m.next ≠ b := by omega
    simp only [Mem.rd]
    rw [Tr.get_set_ne _ depth _ _ _ (by simpa [depth] using h1) (by simp [depth]; omega) hne]
    have e1 : Nat.blt b (Nat.succ m.next) = true := by simp; omega
    have e2 : Nat.blt b m.next = true := by simpa using hb
    rw [e1, e2]
  · cases h
theorem Mem.rd_put_same {m : Mem} {b : Nat} (k : Option Blk) (hb : b < m.next) : (m.put b k).rd b = k := by
  have e2 : Nat.blt b m.next = true := by simpa using hb
  simp [Mem.put, Mem.rd, e2, Tr.get_set_same]
theorem Mem.rd_put_ne {m : Mem} (hm : m.ok) {b c : Nat} (k : Option Blk) (hb : b < m.next) (hn : b ≠ c) : (m.put b k).rd c = m.rd c := by
  unfold Mem.ok at hm
  simp only [Mem.put, Mem.rd]
  by_cases hc : c < m.next
  · rw [Tr.get_set_ne _ depth _ _ _ (by simp [depth]; omega) (by simp [depth]; omega) hn]
    rfl
  · have e2 : ¬ Nat.blt c m.next = true := by simp; omega
    exact (if_neg e2).trans (if_neg e2).symm
theorem Mem.put_next (m : Mem) (b : Nat) (k : Option Blk) : (m.put b k).next = m.next := rfl
theorem Mem.put_ok {m : Mem} (h : m.ok) (b : Nat) (k : Option Blk) : (m.put b k).ok := h
end Go.Vit
