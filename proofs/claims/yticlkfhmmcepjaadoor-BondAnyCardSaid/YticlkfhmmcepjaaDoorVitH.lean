/- Operations on memory. -/
import Derived.Test.YticlkfhmmcepjaaDoorVitG
set_option linter.unusedSimpArgs false
set_option linter.unusedVariables false
namespace Go.Vit
open Go

/-- What an operation on memory does in the machine. -/
def OpOk (P : Program) (G R : Nat) (B : World) (U L : Nat) (ι : Inj) (m : Mem) (w : World) (ρ : Operand → Value) (o : Oper) (v : Value) (m' : Mem) : Prop :=
  ∃ r u κ w', (execOp ρ o).run P w = .ok r w' ∧ (r = .value u ∨ (r = .skip ∧ u = Go.undef)) ∧ VR κ v u ∧ Rel G R B U κ m' w' ∧ Step L ι m w κ m' w'

section
variable {P : Program} {G R U L : Nat} {B : World} {ι : Inj} {m : Mem} {w : World}

/-- n cells of a block from o on. -/
def rdc (m : Mem) (b o n : Nat) : Option (List Value) := match m.rd b with
  | some k => match k.ents with
    | none => match Nat.ble (Nat.add o n) k.cells.length with
      | true => some ((k.cells.drop o).take n)
      | false => none
    | some _ => none
  | none => none
theorem runNew (o : Obj) : (newObj o).run P w = .ok w.heap.size (w.alloc o) := rfl
theorem rdc_len {b o n : Nat} {cs : List Value} (h : rdc m b o n = some cs) : cs.length = n := by
  unfold rdc at h
  split at h
  · rename_i k hk
    split at h
    · split at h
      · rename_i hle
        cases h
        have : o + n ≤ k.cells.length := Nat.le_of_ble_eq_true hle
        simp; omega
      · cases h
    · cases h
  · cases h
theorem Rel.rdc (h : Rel G R B U ι m w) {b o n : Nat} {cs : List Value} {e : Ent} (he : ι b = some e) (hr : rdc m b o n = some cs) :
    ∃ us, VL ι cs us ∧ ∀ j u, us[j]? = some u → w.cell? ((⟨e.cb, e.base + o, none⟩ : Addr).add j) = some u := by
  have hl := rdc_len hr
  unfold Vit.rdc at hr
  split at hr
  · rename_i k hk
    split at hr
    · rename_i hn
      split at hr
      · rename_i hle
        cases hr
        have hc := h.cells b e k he hk hn
        have hget : ∀ j, ((k.cells.drop o).take n)[j]? = if j < n then k.cells[o + j]? else none := fun j => by
          rw [List.getElem?_take]; split <;> simp [List.getElem?_drop]
        refine ⟨(List.range n).map fun j => (w.cell? ⟨e.cb, e.base + o + j, none⟩).getD Go.undef, ⟨by simp [hl], fun j v u hv hu => ?_⟩, fun j u hu => ?_⟩
        · rw [hget] at hv
          split at hv
          · rename_i hj
            obtain ⟨u', hvr, hu'⟩ := hc (o + j) v hv
            simp only [List.getElem?_map, List.getElem?_range hj, Option.map_some, Option.some.injEq] at hu
            rw [← Nat.add_assoc] at hu'
            rw [hu'] at hu
            subst hu
            exact hvr
          · cases hv
        · have hj : j < n := by
            have := (List.getElem?_eq_some_iff.1 hu).1
            simpa using this
          simp only [List.getElem?_map, List.getElem?_range hj, Option.map_some, Option.some.injEq] at hu
          have hjc : o + j < k.cells.length := by have := Nat.le_of_ble_eq_true hle; have : o + n ≤ k.cells.length := this; omega
          obtain ⟨u', _, hu'⟩ := hc (o + j) k.cells[o + j] (by simp [hjc])
          rw [← Nat.add_assoc] at hu'
          rw [hu'] at hu
          rw [addrAdd, hu']
          simpa using hu
      · cases hr
    · cases hr
  · cases hr

/-! ### New blocks -/
def anew (m : Mem) (esz : Nat) (cells : List Value) (f : Nat → Value) : Option (Value × Mem) := match m.new ⟨esz, cells, none⟩ with
  | some m' => natK m.next fun b => some (f b, m')
  | none => none
theorem anew_ok (h : Rel G R B U ι m w) (hL : L ≤ m.next) {esz : Nat} {cells us : List Value} {f : Nat → Value} {v : Value} {m' : Mem} (ha : anew m esz cells f = some (v, m')) (hU : m'.next ≤ U) (hvl : VL ι cells us) (t : TypeId) :
    v = f m.next ∧ Rel G R B U (ι.upd m.next ⟨w.heap.size, 0, 0⟩) m' (w.alloc (.cells us.toArray t)) ∧ Step L ι m w (ι.upd m.next ⟨w.heap.size, 0, 0⟩) m' (w.alloc (.cells us.toArray t)) := by
  unfold anew at ha
  split at ha
  · rename_i m1 hm
    simp only [natK_eq, Option.some.injEq, Prod.mk.injEq] at ha
    obtain ⟨rfl, rfl⟩ := ha
    obtain ⟨h1, h2⟩ := h.alloc (extra := 0) (sp := []) t hm hU hvl (by simp)
    simp only [List.append_nil] at h1 h2
    exact ⟨rfl, h1, h2 L hL⟩
  · cases ha

def ptrTo (b : Nat) : Value := .pointer (some ⟨b, 0, none⟩)
def aalloc (P : Program) (m : Mem) (t : TypeId) : Option (Value × Mem) := match azero P t with
  | some cs => anew m 1 cs ptrTo
  | none => none
theorem aalloc_ok (h : Rel G R B U ι m w) (hL : L ≤ m.next) {t : TypeId} {v : Value} {m' : Mem} (ha : aalloc P m t = some (v, m')) (hU : m'.next ≤ U) {o : Oper} (ho : o.op = .alloc t) (ρ : Operand → Value) : OpOk P G R B U L ι m w ρ o v m' := by
  unfold aalloc at ha
  split at ha
  · rename_i cs hcs
    obtain ⟨z, hz1, hz2, hz3⟩ := azero_ok (ι := ι) hcs w
    obtain ⟨rfl, h1, h2⟩ := anew_ok h hL ha hU hz3 t
    refine ⟨_, .pointer (some ⟨w.heap.size, 0, none⟩), _, w.alloc (.cells z.cells t), ?_, .inl rfl, ?_, h1, h2⟩
    · simp only [execOp, ho, Instr.alloc, newVar, newRow, newObj, Sem.run_bind, hz1]
      rfl
    · exact .ptr m.next 0 ⟨w.heap.size, 0, 0⟩ (Inj.upd_same _ _ _)
  · cases ha
def abox (m : Mem) (x : Value) : Option (Value × Mem) := anew m 1 x.cells.toList ptrTo
theorem abox_ok (h : Rel G R B U ι m w) (hL : L ≤ m.next) {t : TypeId} {x : Operand} {vx v : Value} {m' : Mem} (ha : abox m vx = some (v, m')) (hU : m'.next ≤ U) {o : Oper} (ho : o.op = .box t x) {ρ : Operand → Value} (hx : VR ι vx (ρ x)) : OpOk P G R B U L ι m w ρ o v m' := by
  obtain ⟨rfl, h1, h2⟩ := anew_ok h hL ha hU hx.cells t
  refine ⟨_, .pointer (some ⟨w.heap.size, 0, none⟩), _, w.alloc (.cells (ρ x).cells t), ?_, .inl rfl, ?_, h1, h2⟩
  · simp only [execOp, ho, Instr.box, newVar, newRow, newObj, Sem.run_bind]
    rfl
  · exact .ptr m.next 0 ⟨w.heap.size, 0, 0⟩ (Inj.upd_same _ _ _)

/-- n zeros one behind the other. -/
def azrow (zs : List Value) : Nat → List Value
  | 0 => []
  | n + 1 => zs ++ azrow zs n
theorem azrow_len (zs : List Value) : ∀ n, (azrow zs n).length = n * zs.length
  | 0 => by simp [azrow]
  | n + 1 => by rw [azrow, List.length_append, azrow_len zs n, Nat.add_mul]; omega
theorem azrow_get (zs : List Value) : ∀ n i, i < n * zs.length → (azrow zs n)[i]? = zs[i % zs.length]?
  | 0, i, h => by simp at h
  | n + 1, i, h => by
    rw [azrow]
    by_cases hi : i < zs.length
    · rw [List.getElem?_append_left hi, Nat.mod_eq_of_lt hi]
    · rw [List.getElem?_append_right (by omega), azrow_get zs n _ (by rw [Nat.add_mul] at h; omega)]
      rw [← Nat.mod_eq_sub_mod (by omega)]
theorem azrow_VL {zs : List Value} {z : Array Value} (h : VL ι zs z.toList) (n : Nat) : VL ι (azrow zs n) ((Array.range (n * z.size)).map (fun i => z[i % z.size]!)).toList := by
  have hs : zs.length = z.size := by simpa using h.1
  refine ⟨by simp [azrow_len, hs], fun i v u hv hu => ?_⟩
  have hi : i < n * z.size := by have := (List.getElem?_eq_some_iff.1 hu).1; simpa using this
  have hz : 0 < z.size := by rcases Nat.eq_zero_or_pos z.size with h0 | h0
                             · rw [h0] at hi; simp at hi
                             · exact h0
  rw [azrow_get zs n i (by rw [hs]; exact hi), hs] at hv
  have hlt : i % z.size < z.size := Nat.mod_lt _ hz
  have hu' : z.toList[i % z.size]? = some u := by
    simp [hi] at hu
    rw [← hu]
    simp [hlt]
  exact h.2 _ v u hv hu'

def slTo (n : Nat) (b : Nat) : Value := .slice (some ⟨b, 0, none⟩) n n
def slTo0 (n : Nat) (b : Nat) : Value := .slice (some ⟨b, 0, some 0⟩) n n
def abuildSlice (P : Program) (ev : Operand → Option Value) (m : Mem) (t : TypeId) (len : Nat) (parts : List (Nat × Operand)) : Option (Value × Mem) :=
  match P.underlying t with
  | some (.slice elem) => match azero P elem with
    | some zs => match tsize P elem with
      | some s => match Nat.beq zs.length s && Nat.ble (Nat.mul len s) 16777216 with
        | true => match evP ev parts with
          | some ps => match lay (fun i => some (Nat.mul i s, s)) (azrow zs len) ps with
            | some cs => anew m s cs (slTo len)
            | none => none
          | none => none
        | false => none
      | none => none
    | none => none
  | _ => none
theorem abuildSlice_ok (h : Rel G R B U ι m w) (hL : L ≤ m.next) {ev : Operand → Option Value} {ρ : Operand → Value} (hev : ∀ x v, ev x = some v → VR ι v (ρ x)) {t : TypeId} {len : Nat} {parts : Array (Nat × Operand)} {v : Value} {m' : Mem}
    (ha : abuildSlice P ev m t len parts.toList = some (v, m')) (hU : m'.next ≤ U) {o : Oper} (ho : o.op = .buildSlice t len parts) : OpOk P G R B U L ι m w ρ o v m' := by
  unfold abuildSlice at ha
  split at ha
  · rename_i elem hu
    split at ha
    · rename_i zs hzs
      obtain ⟨z, hz1, hz2, hz3⟩ := azero_ok (ι := ι) hzs w
      split at ha
      · rename_i s hs
        split at ha
        · rename_i hcond
          simp only [Bool.and_eq_true, Nat.beq_eq, Nat.ble_eq] at hcond
          split at ha
          · rename_i ps hps
            obtain ⟨hl1, hl2⟩ := evP_ok hev _ _ hps
            split at ha
            · rename_i cs hcs
              have hzsz : z.cells.size = s := by rw [← hcond.1, hz3.1]; simp
              obtain ⟨r', hr', hvr⟩ := lay_ok ps _ _ ((Array.range (len * z.cells.size)).map (fun i => z.cells[i % z.cells.size]!)) cs hcs (azrow_VL hz3 len) hl1 hl2
              obtain ⟨rfl, h1, h2⟩ := anew_ok h hL ha hU hvr elem
              rw [hzsz] at hr'
              refine ⟨_, .slice (some ⟨w.heap.size, 0, none⟩) len len, _, w.alloc (.cells r' elem), ?_, .inl rfl, ?_, h1, h2⟩
              · have hbig : ¬ len * s > 16777216 := Nat.not_lt.2 hcond.2
                have hr2 : Instr.fill (fun i => some (i * s, s)) ((Array.range (len * s)).map (fun i => z.cells[i % s]!)) (List.map (fun x => (x.fst, ρ x.snd)) parts.toList) = some r' := hr'
                by_cases h0 : len * s = 0
                · rw [h0] at hr2
                  have hr3 : Instr.fill (fun i => some (i * s, s)) #[] (List.map (fun x => (x.fst, ρ x.snd)) parts.toList) = some r' := by simpa [Array.range_zero'] using hr2
                  simp [execOp, ho, Instr.buildSlice, run_underlying hu, run_tsize w hs, h0, hr3, newRow, runNew, Array.range_zero']
                · simp [execOp, ho, Instr.buildSlice, run_underlying hu, run_tsize w hs, hbig, h0, hz1, hzsz, hr2, newRow, runNew]
              · exact .slOpen m.next 0 len len ⟨w.heap.size, 0, 0⟩ (Inj.upd_same _ _ _)
            · cases ha
          · cases ha
        · cases ha
      · cases ha
    · cases ha
  · cases ha

def tbytes (P : Program) (t : TypeId) : Option Nat := match P.info? t with
  | some i => some i.bytes
  | none => none
def amakeSlice (P : Program) (m : Mem) (t : TypeId) (l c : Value) : Option (Value × Mem) :=
  match P.underlying t with
  | some (.slice elem) => match azero P elem with
    | some zs => match tsize P elem, tbytes P elem with
      | some s, some by_ => match anat l, anat c with
        | some n, some k => match Nat.beq zs.length s && (Nat.ble n k && (Nat.ble k 1048576 && Nat.ble (Nat.mul by_ k) 281474976710656)) with
          | true => anew m s (azrow zs k) (fun b => .slice (some ⟨b, 0, none⟩) n k)
          | false => none
        | _, _ => none
      | _, _ => none
    | none => none
  | _ => none
theorem amakeSlice_ok (h : Rel G R B U ι m w) (hL : L ≤ m.next) {ρ : Operand → Value} {t : TypeId} {xl xc : Operand} {l c v : Value} {m' : Mem}
    (ha : amakeSlice P m t l c = some (v, m')) (hU : m'.next ≤ U) (hl : VR ι l (ρ xl)) (hc : VR ι c (ρ xc)) {o : Oper} (ho : o.op = .makeSlice t xl xc) : OpOk P G R B U L ι m w ρ o v m' := by
  unfold amakeSlice at ha
  split at ha
  · rename_i elem hu
    split at ha
    · rename_i zs hzs
      obtain ⟨z, hz1, hz2, hz3⟩ := azero_ok (ι := ι) hzs w
      split at ha
      · rename_i s by_ hs hby
        split at ha
        · rename_i n k hn hk
          split at ha
          · rename_i hcond
            simp only [Bool.and_eq_true, Nat.beq_eq, Nat.ble_eq] at hcond
            obtain ⟨c1, c2, c3, c4⟩ := hcond
            obtain ⟨j1, e1⟩ := anat_ok hn hl
            obtain ⟨j2, e2⟩ := anat_ok hk hc
            have hzsz : z.cells.size = s := by rw [← c1, hz3.1]; simp
            obtain ⟨rfl, h1, h2⟩ := anew_ok h hL ha hU (azrow_VL hz3 k) elem
            have hi : ∃ i, P.info? elem = some i ∧ i.bytes = by_ := by
              unfold tbytes at hby
              split at hby
              · rename_i i hi; cases hby; exact ⟨i, hi, rfl⟩
              · cases hby
            obtain ⟨i, hi, hib⟩ := hi
            have wn : IntKind.i64.wrap (n : Int) = n := wrap_of_fits (by simp [fits, top]; omega)
            have wk : IntKind.i64.wrap (k : Int) = k := wrap_of_fits (by simp [fits, top]; omega)
            have t1 : ¬ (281474976710656 : Int) < (i.bytes : Int) * (k : Int) := by
              rw [hib, ← Int.natCast_mul]
              have : by_ * k ≤ 281474976710656 := c4
              omega
            have t2 : ¬ (k : Int) < (n : Int) := by omega
            refine ⟨_, .slice (some ⟨w.heap.size, 0, none⟩) n k, _, w.alloc (.cells ((Array.range (k * z.cells.size)).map (fun i => z.cells[i % z.cells.size]!)) elem), ?_, .inl rfl, ?_, h1, h2⟩
            · have hnn : ¬ (n : Int) < 0 := by omega
              have hkn : ¬ (k : Int) < 0 := by omega
              have hask : ∀ q, (askRoom q).run P w = .ok () w := fun q => by unfold askRoom; split <;> rfl
              by_cases h0 : k * s = 0
              · simp [execOp, ho, Instr.makeSlice, run_underlying hu, e1, e2, asInt, asIntOf, typeInfo, hi, wn, wk, t1, hnn, hkn, t2, hask, run_tsize w hs, h0, hzsz, newRow, runNew, Array.range_zero']
              · simp [execOp, ho, Instr.makeSlice, run_underlying hu, e1, e2, asInt, asIntOf, typeInfo, hi, wn, wk, t1, hnn, hkn, t2, hask, run_tsize w hs, h0, hz1, hzsz, newRow, runNew]
            · exact .slOpen m.next 0 n k ⟨w.heap.size, 0, 0⟩ (Inj.upd_same _ _ _)
          · cases ha
        · cases ha
      · cases ha
    · cases ha
  · cases ha

/-! ### Loads and stores -/
def aload (P : Program) (m : Mem) (t : TypeId) (x : Value) : Option Value := match x with
  | .pointer (some ⟨b, o, none⟩) => match tagg P t with
    | some false => match m.rd b with
      | some k => match k.ents with
        | none => lget k.cells o
        | some _ => none
      | none => none
    | some true => match tsize P t with
      | some s => match rdc m b o s with
        | some cs => some (.agg ⟨cs⟩)
        | none => none
      | none => none
    | none => none
  | _ => none
theorem aload_ok (h : Rel G R B U ι m w) {t : TypeId} {x v x' : Value} (ha : aload P m t x = some v) (hx : VR ι x x') : ∃ u, (Instr.loadAt t x').run P w = .ok u w ∧ VR ι v u := by
  unfold aload at ha
  split at ha
  · rename_i b o
    cases hx with
    | ptr _ _ e he =>
      split at ha
      · rename_i hag
        split at ha
        · rename_i k hk
          split at ha
          · rename_i hn
            rw [lget_eq] at ha
            obtain ⟨u, hvr, hu⟩ := h.cells b e k he hk hn o v ha
            exact ⟨u, by simp [Instr.loadAt, Instr.sureAddr, loadVar, run_tagg w hag, hu], hvr⟩
          · cases ha
        · cases ha
      · rename_i hag
        split at ha
        · rename_i s hs
          split at ha
          · rename_i cs hcs
            cases ha
            obtain ⟨us, hvl, hus⟩ := h.rdc he hcs
            have hl : us.length = s := by rw [← hvl.1]; exact rdc_len hcs
            have hr := run_loadCells_list (P := P) w ⟨e.cb, e.base + o, none⟩ us hus
            rw [hl] at hr
            exact ⟨.agg us.toArray, by simp [Instr.loadAt, Instr.sureAddr, loadVar, run_tagg w hag, run_tsize w hs, hr], VL.agg (by simpa using hvl)⟩
          · cases ha
        · cases ha
      · cases ha
  · cases ha

def allOne : List Value → Bool
  | [] => true
  | v :: l => oneCell v && allOne l
theorem allOne_ok : ∀ (vs us : List Value), allOne vs = true → VL ι vs us → ∀ u ∈ us, u.oneCell' = true
  | [], us, _, hl => by rw [hl.inv_nil]; simp
  | v :: vs, us, h, hl => by
    obtain ⟨u, us', rfl, hvu, hl'⟩ := hl.inv_cons
    simp only [allOne, Bool.and_eq_true] at h
    intro x hx
    rcases List.mem_cons.1 hx with rfl | hx
    · have := hvu.oneCell
      rw [h.1] at this
      cases x <;> first | rfl | cases this
    · exact allOne_ok vs us' h.2 hl' x hx

/-- Cells of a block are written. -/
def awr (L : Nat) (m : Mem) (b o : Nat) (vs : List Value) : Option Mem := match Nat.ble L b with
  | true => match m.rd b with
    | some k => match k.ents with
      | none => match Nat.ble (Nat.add o vs.length) k.cells.length && allOne vs with
        | true => some (m.put b (some { k with cells := k.cells.take o ++ (vs ++ k.cells.drop (Nat.add o vs.length)) }))
        | false => none
      | some _ => none
    | none => none
  | false => none
theorem awr_ok (h : Rel G R B U ι m w) (hR : R ≤ L) {b o : Nat} {vs us : List Value} {e : Ent} {m' : Mem} (ha : awr L m b o vs = some m') (he : ι b = some e) (hvl : VL ι vs us) :
    ∃ w', (storeCells ⟨e.cb, e.base + o, none⟩ us).run P w = .ok () w' ∧ Rel G R B U ι m' w' ∧ Step L ι m w ι m' w' := by
  unfold awr at ha
  split at ha
  · rename_i hLb
    have hLb' : L ≤ b := Nat.le_of_ble_eq_true hLb
    split at ha
    · rename_i k hk
      split at ha
      · rename_i hn
        split at ha
        · rename_i hcond
          simp only [Bool.and_eq_true, Nat.ble_eq] at hcond
          cases ha
          obtain ⟨c, t, hh, hfit, h1, h2⟩ := h.write (b := b) (Nat.le_trans hR hLb') he hk hn (o := o) hcond.1 hvl
          have hrun := run_storeCells_at P e.cb (e.base + o) t us 0 c w hh (by simpa using hfit) (allOne_ok vs us hcond.2 hvl)
          simp only [Nat.add_zero] at hrun
          rw [List.append_assoc] at h1 h2
          exact ⟨_, hrun, h1, h2 L hLb'⟩
        · cases ha
      · cases ha
    · cases ha
  · cases ha

def astore (P : Program) (L : Nat) (m : Mem) (t : TypeId) (x v : Value) : Option (Value × Mem) := match x with
  | .pointer (some ⟨b, o, none⟩) => match tsize P t with
    | some s => match Nat.beq v.cells.toList.length s with
      | true => match awr L m b o v.cells.toList with
        | some m' => some (Go.undef, m')
        | none => none
      | false => none
    | none => none
  | _ => none
theorem astore_ok (h : Rel G R B U ι m w) (hR : R ≤ L) {t : TypeId} {xa xv : Operand} {va vv v : Value} {m' : Mem} (ha : astore P L m t va vv = some (v, m')) {ρ : Operand → Value} (h1 : VR ι va (ρ xa)) (h2 : VR ι vv (ρ xv)) {o : Oper} (ho : o.op = .store t xa xv) : OpOk P G R B U L ι m w ρ o v m' := by
  unfold astore at ha
  split at ha
  · rename_i b off
    split at ha
    · rename_i s hs
      split at ha
      · rename_i hsz
        split at ha
        · rename_i m1 hm
          cases ha
          have : ∃ e, ι b = some e ∧ ρ xa = .pointer (some ⟨e.cb, e.base + off, none⟩) := by generalize ρ xa = y at h1; cases h1; exact ⟨_, by assumption, rfl⟩
          obtain ⟨e, he, hxa⟩ := this
          obtain ⟨w', hr, g1, g2⟩ := awr_ok (P := P) h hR hm he h2.cells
          have hsz' : (ρ xv).cells.size = s := by
            have := h2.cells.1
            rw [Nat.eq_of_beq_eq_true hsz] at this
            simpa using this.symm
          refine ⟨.skip, Go.undef, ι, w', ?_, .inr ⟨rfl, rfl⟩, VR.undef ι, g1, g2⟩
          simp [execOp, ho, hxa, Instr.storeAt, Instr.sureAddr, storeVar, run_tsize w hs, hsz', hr]
        · cases ha
      · cases ha
    · cases ha
  · cases ha
end
end Go.Vit
