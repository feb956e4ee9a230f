/- append, copy, clear; all operations on memory in one. -/
import Derived.Test.YticlkfhmmcepjaaDoorVitH
set_option linter.unusedSimpArgs false
set_option linter.unusedVariables false
namespace Go.Vit
open Go

section
variable {P : Program} {G R U L : Nat} {B : World} {ι : Inj} {m : Mem} {w : World}

/-- The cells of what is appended or copied: how many elements, and these. -/
def asrc (m : Mem) (sz : Nat) (x : Value) : Option (Nat × List Value) := match x with
  | .slice none 0 0 => some (0, [])
  | .slice (some ⟨b, o, _⟩) n _ => match n with
    | 0 => some (0, [])
    | Nat.succ k => match rdc m b o (Nat.mul n sz) with
      | some cs => some (Nat.succ k, cs)
      | none => none
  | _ => none
theorem asrc_ok (h : Rel G R B U ι m w) {sz k : Nat} {x x' : Value} {cs : List Value} (ha : asrc m sz x = some (k, cs)) (hx : VR ι x x') :
    ∃ us, VL ι cs us ∧ us.length = k * sz ∧ (Builtin.firstCells sz k x').run P w = .ok us.toArray w ∧ (Builtin.lenOf x').run P w = .ok k w ∧
      (∃ a n c, x' = .slice a n c) ∧ (0 < k → ∃ a c, x' = .slice (some a) k c ∧ ∀ j u, us[j]? = some u → w.cell? (a.add j) = some u) := by
  unfold asrc at ha
  split at ha
  · cases ha
    cases hx
    exact ⟨[], VL.nil ι, by simp, by simp [Builtin.firstCells], by simp [Builtin.lenOf], ⟨_, _, _, rfl⟩, fun h => absurd h (by omega)⟩
  · rename_i b o sp n c
    obtain ⟨e, q, d, he, rfl, hq⟩ := hx.slice_some
    split at ha
    · cases ha
      exact ⟨[], VL.nil ι, by simp, by simp [Builtin.firstCells, loadCells, loadCellsFrom], by simp [Builtin.lenOf], ⟨_, _, _, rfl⟩, fun h => absurd h (by omega)⟩
    · rename_i j
      split at ha
      · rename_i cs' hcs
        cases ha
        obtain rfl := hq (by omega)
        obtain ⟨us, hvl, hus⟩ := h.rdc he hcs
        have hl : us.length = (j + 1) * sz := by rw [← hvl.1]; exact rdc_len hcs
        exact ⟨us, hvl, hl, run_firstCells_some w sz (j + 1) ⟨e.cb, e.base + o, none⟩ _ d us hl hus, by simp [Builtin.lenOf], ⟨_, _, _, rfl⟩, fun _ => ⟨_, _, rfl, hus⟩⟩
      · cases ha
  · cases ha

/-- What an append needs to know of the elements. -/
def aelem (P : Program) (t : TypeId) : Option (Nat × Nat) := match P.underlying t with
  | some (.slice e) => match tsize P e with
    | some (Nat.succ s) => match tbytes P e with
      | some y => match tzero P e with
        | some z => match Nat.beq z.cells.toList.length (Nat.succ s) with
          | true => some (Nat.succ s, y)
          | false => none
        | none => none
      | none => none
    | _ => none
  | _ => none
theorem aelem_ok {t : TypeId} {sz y : Nat} (h : aelem P t = some (sz, y)) : ∃ e i z, P.underlying t = some (.slice e) ∧ P.info? e = some i ∧ i.size = sz ∧ i.bytes = y ∧ i.zero = some z ∧ z.cells.size = sz ∧ 0 < sz ∧ tsize P e = some sz := by
  unfold aelem at h
  split at h
  · rename_i e hu
    split at h
    · rename_i s hs
      split at h
      · rename_i y' hy
        split at h
        · rename_i z hz
          split at h
          · rename_i hzl
            cases h
            have hi : ∃ i, P.info? e = some i := by
              unfold tbytes at hy
              split at hy
              · rename_i i hi; exact ⟨i, hi⟩
              · cases hy
            obtain ⟨i, hi⟩ := hi
            have h1 : i.size = s + 1 := by simpa [tsize, hi] using hs
            have h2 : i.bytes = y := by simpa [tbytes, hi] using hy
            have h3 : i.zero = some z := by simpa [tzero, hi] using hz
            exact ⟨e, i, z, hu, hi, h1, h2, h3, by simpa using Nat.eq_of_beq_eq_true hzl, by omega, hs⟩
          · cases h
        · cases h
      · cases h
    · cases h
  · cases h

def roomy (n y : Nat) : Bool := Nat.ble n 1048576 && Nat.ble (Nat.mul n y) 140737488355328

def aappend (P : Program) (L : Nat) (m : Mem) (t : TypeId) (s x : Value) : Option (Value × Mem) := match aelem P t with
  | none => none
  | some (sz, y) => match asrc m sz x with
    | none => none
    | some (k, news) => match s with
      | .slice none 0 0 => match k with
        | 0 => some (.slice none 0 0, m)
        | Nat.succ j => match roomy (Nat.succ j) y with
          | true => anew m sz news (slTo (Nat.succ j))
          | false => none
      | .slice (some ⟨b, o, sp⟩) n c => match Nat.ble n c with
        | false => none
        | true => match k with
          | 0 => some (.slice (some ⟨b, o, sp⟩) n c, m)
          | Nat.succ j => natK (Nat.add n (Nat.succ j)) fun nk => match Nat.ble nk c with
            | true => match awr L m b (Nat.add o (Nat.mul n sz)) news with
              | some m' => some (.slice (some ⟨b, o, sp⟩) nk c, m')
              | none => none
            | false => match roomy nk y with
              | false => none
              | true => match rdc m b o (Nat.mul n sz) with
                | none => none
                | some olds => match sp with
                  | some 0 => anew m sz (olds ++ news) (slTo nk)
                  | none => match Nat.ble L b with
                    | false => none
                    | true => match m.rd b with
                      | none => none
                      | some blk => match blk.ents with
                        | some _ => none
                        | none => match Nat.beq blk.esz sz && (Nat.beq (Nat.add o (Nat.mul c sz)) blk.cells.length && allOne news) with
                          | true => anew (m.put b none) sz (olds ++ news) (slTo nk)
                          | false => none
                  | _ => none
      | _ => none

theorem run_append_in {t ty e : TypeId} {sz k n cap : Nat} {base : Option Addr} {x' : Value} {us : List Value} (ht : P.underlying t = some (.slice e)) (hs : tsize P e = some sz)
    (hlen : (Builtin.lenOf x').run P w = .ok k w) (hf : (Builtin.firstCells sz k x').run P w = .ok us.toArray w) (hroom : n + k ≤ cap) :
    (Builtin.append_ #[t, t] ty #[.slice base n cap, x']).run P w = ((match base with | some a => storeCells (a.add (n * sz)) us | none => pure ()).run P w).andThen fun _ w' => .ok (.slice base (n + k) cap) w' := by
  cases base <;> simp [Builtin.append_, run_underlying ht, run_tsize w hs, hlen, hf, hroom]

theorem roomy_ok {n y : Nat} (h : roomy n y = true) : (n : Int) ≤ 9223372036854775807 ∧ n * y ≤ 140737488355328 := by
  simp only [roomy, Bool.and_eq_true, Nat.ble_eq] at h
  obtain ⟨h1, h2⟩ := h
  exact ⟨by omega, h2⟩

theorem aappend_ok (h : Rel G R B U ι m w) (hR : R ≤ L) (hL : L ≤ m.next) {t ty : TypeId} {s x v s' x' : Value} {m' : Mem} (ha : aappend P L m t s x = some (v, m')) (hU : m'.next ≤ U) (hs' : VR ι s s') (hx' : VR ι x x') :
    ∃ u κ w', (Builtin.append_ #[t, t] ty #[s', x']).run P w = .ok u w' ∧ VR κ v u ∧ Rel G R B U κ m' w' ∧ Step L ι m w κ m' w' := by
  unfold aappend at ha
  split at ha
  · cases ha
  · rename_i sz y hel
    obtain ⟨e, i, z, hu, hi, hsz, hby, hz, hzs, hpos, hts⟩ := aelem_ok hel
    split at ha
    · cases ha
    · rename_i k news hsrc
      obtain ⟨us, hvl, hul, hfc, hlen, ⟨xa, xn, xc, hxe⟩, hk⟩ := asrc_ok (P := P) h hsrc hx'
      -- a new row for the old cells (if any) and the new ones
      have grow : ∀ (olds os : List Value) (need old : Nat) (w1 : World) (m1 : Mem), Rel G R B U ι m1 w1 → L ≤ m1.next → w1.heap = w.heap → w1.os = w.os → w1.tape = w.tape → w1.output = w.output → Step L ι m w ι m1 w1 →
          VL ι olds os → ∀ v m', anew m1 sz (olds ++ news) (slTo need) = some (v, m') → m'.next ≤ U → ∀ ex : Nat, ∀ sp : List Value, sp.length = ex * sz →
          VR (ι.upd m1.next ⟨w.heap.size, 0, ex⟩) v (.slice (some ⟨w.heap.size, 0, none⟩) need (need + ex)) ∧
          Rel G R B U (ι.upd m1.next ⟨w.heap.size, 0, ex⟩) m' (w1.alloc (.cells (os ++ us ++ sp).toArray e)) ∧ Step L ι m w (ι.upd m1.next ⟨w.heap.size, 0, ex⟩) m' (w1.alloc (.cells (os ++ us ++ sp).toArray e)) := by
        intro olds os need old w1 m1 hr1 hL1 hh1 ho1 ht1 hp1 hst hvo v m' han hU1 ex sp hsp
        unfold anew at han
        split at han
        · rename_i m2 hm2
          simp only [natK_eq, Option.some.injEq, Prod.mk.injEq] at han
          obtain ⟨rfl, rfl⟩ := han
          obtain ⟨g1, g2⟩ := hr1.alloc (extra := ex) (sp := sp) e hm2 hU1 (hvo.append hvl) hsp
          rw [show w1.heap.size = w.heap.size by rw [hh1]] at g1 g2
          exact ⟨.slOpen _ _ _ _ _ (Inj.upd_same _ _ _), g1, hst.trans (g2 L hL1)⟩
        · cases han
      split at ha
      · -- a nil slice
        cases hs'
        split at ha
        · cases ha
          have := run_append_in (ty := ty) (n := 0) (cap := 0) (base := none) hu hts hlen hfc (by omega)
          exact ⟨.slice none 0 0, ι, w, by rw [this]; rfl, .nilSlice, h, Step.refl' _ _ _ _⟩
        · rename_i j
          split at ha
          · rename_i hroom
            obtain ⟨b1, b2⟩ := roomy_ok hroom
            have b2' : (j + 1) * y ≤ 140737488355328 := b2
            obtain ⟨a, c, rfl, hcell⟩ := hk (by omega)
            have hr := run_append_nil (P := P) w t ty e i z hu hi hz a (j + 1) c us (by rw [hul, hsz]) hcell (by omega) b1 (by rw [hby]; omega)
            have hge := grownCap_ge w (j + 1) 0 e
            obtain ⟨g1, g2, g3⟩ := grow [] [] (j + 1) 0 w.drew m (h.world rfl) hL rfl rfl rfl rfl (Step.same rfl rfl rfl rfl) (VL.nil ι) v m' (by simpa using ha) hU (grownCap w (j + 1) 0 e - (j + 1)) (Builtin.zeroCells z.cells (grownCap w (j + 1) 0 e - (j + 1))).toList (by simp [size_zeroCells, hzs])
            have hcap : j + 1 + (grownCap w (j + 1) 0 e - (j + 1)) = grownCap w (j + 1) 0 e := by omega
            rw [hcap] at g1
            refine ⟨_, _, _, hr, g1, ?_, ?_⟩
            · have e1 : ([] ++ us ++ (Builtin.zeroCells z.cells (grownCap w (j + 1) 0 e - (j + 1))).toList).toArray = us.toArray ++ Builtin.zeroCells z.cells (grownCap w (j + 1) 0 e - (j + 1)) := by apply Array.ext'; simp
              rw [e1] at g2; exact g2
            · have e1 : ([] ++ us ++ (Builtin.zeroCells z.cells (grownCap w (j + 1) 0 e - (j + 1))).toList).toArray = us.toArray ++ Builtin.zeroCells z.cells (grownCap w (j + 1) 0 e - (j + 1)) := by apply Array.ext'; simp
              rw [e1] at g3; exact g3
          · cases ha
      · rename_i b o sp n c
        split at ha
        · cases ha
        · rename_i hnc
          have hnc' : n ≤ c := Nat.le_of_ble_eq_true hnc
          split at ha
          · -- nothing is appended
            cases ha
            have : ∃ base d, s' = .slice base n d ∧ n ≤ d := by
              cases hs' with
              | slOpen _ _ _ _ e he => exact ⟨_, _, rfl, by omega⟩
              | slExact _ _ _ _ e he => exact ⟨_, _, rfl, by omega⟩
              | slEnd _ _ q c e he => exact ⟨_, _, rfl, by omega⟩
            obtain ⟨base, d, rfl, hnd⟩ := this
            have hus : us = [] := List.eq_nil_of_length_eq_zero (by simpa using hul)
            subst hus
            have := run_append_in (ty := ty) (n := n) (cap := d) (base := base) hu hts hlen hfc (by omega)
            refine ⟨.slice base n d, ι, w, ?_, hs', h, Step.refl' _ _ _ _⟩
            rw [this]
            cases base <;> rfl
          · rename_i j
            simp only [natK_eq] at ha
            split at ha
            · -- in place, room known
              rename_i hle
              have hle' : n + (j + 1) ≤ c := Nat.le_of_ble_eq_true hle
              split at ha
              · rename_i m1 hm1
                cases ha
                have : ∃ e' d, ι b = some e' ∧ s' = .slice (some ⟨e'.cb, e'.base + o, none⟩) n d ∧ n + (j + 1) ≤ d ∧ VR ι (.slice (some ⟨b, o, sp⟩) (n + (j + 1)) c) (.slice (some ⟨e'.cb, e'.base + o, none⟩) (n + (j + 1)) d) := by
                  cases hs' with
                  | slOpen _ _ _ _ e' he => exact ⟨e', _, he, rfl, by omega, .slOpen _ _ _ _ _ he⟩
                  | slExact _ _ _ _ e' he => exact ⟨e', _, he, rfl, by omega, .slExact _ _ _ _ _ he⟩
                  | slEnd _ _ q c e he => exact absurd hle' (by omega)
                obtain ⟨e', d, he, rfl, hd, hvr⟩ := this
                obtain ⟨w', hr, g1, g2⟩ := awr_ok (P := P) h hR hm1 he hvl
                have := run_append_in (ty := ty) (n := n) (cap := d) (base := some ⟨e'.cb, e'.base + o, none⟩) hu hts hlen hfc hd
                refine ⟨_, ι, w', ?_, hvr, g1, g2⟩
                rw [this]
                have hadr : e'.base + Nat.add o (Nat.mul n sz) = e'.base + o + n * sz := by show e'.base + (o + n * sz) = _; omega
                rw [hadr] at hr
                simp [addrAdd, hr]
              · cases ha
            · rename_i hnle
              have hnle' : ¬ n + (j + 1) ≤ c := fun hc => by
                have := Nat.ble_eq_true_of_le hc
                have h2 : Nat.ble (Nat.add n (Nat.succ j)) c = true := this
                rw [h2] at hnle; cases hnle
              split at ha
              · cases ha
              · rename_i hroom
                obtain ⟨b1, b2⟩ := roomy_ok hroom
                have b1' : ((n + (j + 1) : Nat) : Int) ≤ 9223372036854775807 := b1
                have b2' : (n + (j + 1)) * y ≤ 140737488355328 := b2
                obtain ⟨a, xc', rfl, hcell⟩ := hk (by omega)
                split at ha
                · cases ha
                · rename_i olds holds
                  split at ha
                  · -- the capacity is known: a new row
                    cases hs' with
                    | slExact _ _ _ _ e' he =>
                      obtain ⟨os, hvo, hos⟩ := h.rdc he holds
                      have hol : os.length = n * sz := by rw [← hvo.1]; exact rdc_len holds
                      have hr := run_append_grow (P := P) w t ty e i z hu hi hz ⟨e'.cb, e'.base + o, none⟩ n c os (by rw [hol, hsz]) hos a (j + 1) xc' us (by rw [hul, hsz]) hcell (by omega) b1' (growslice_fits (by omega) (by rw [hby]; exact b2'))
                      have hge := grownCap_ge w (n + (j + 1)) c e
                      obtain ⟨g1, g2, g3⟩ := grow olds os (n + (j + 1)) c w.drew m (h.world rfl) hL rfl rfl rfl rfl (Step.same rfl rfl rfl rfl) hvo v m' ha hU (grownCap w (n + (j + 1)) c e - (n + (j + 1))) (Builtin.zeroCells z.cells (grownCap w (n + (j + 1)) c e - (n + (j + 1)))).toList (by simp [size_zeroCells, hzs])
                      have hcap : n + (j + 1) + (grownCap w (n + (j + 1)) c e - (n + (j + 1))) = grownCap w (n + (j + 1)) c e := by omega
                      rw [hcap] at g1
                      have e1 : (os ++ us ++ (Builtin.zeroCells z.cells (grownCap w (n + (j + 1)) c e - (n + (j + 1)))).toList).toArray = os.toArray ++ us.toArray ++ Builtin.zeroCells z.cells (grownCap w (n + (j + 1)) c e - (n + (j + 1))) := by apply Array.ext'; simp
                      rw [e1] at g2 g3
                      exact ⟨_, _, _, hr, g1, g2, g3⟩
                  · -- an open one: the old id is given up
                    cases hs' with
                    | slOpen _ _ _ _ e' he =>
                      split at ha
                      · cases ha
                      · rename_i hLb
                        have hLb' : L ≤ b := Nat.le_of_ble_eq_true hLb
                        split at ha
                        · cases ha
                        · rename_i blk hblk
                          split at ha
                          · cases ha
                          · rename_i hn
                            split at ha
                            · rename_i hcond
                              simp only [Bool.and_eq_true, Nat.beq_eq] at hcond
                              obtain ⟨hesz, hend, hone⟩ := hcond
                              have hend' : o + c * sz = blk.cells.length := hend
                              have hb : b < m.next := Mem.rd_lt hblk
                              obtain ⟨os, hvo, hos⟩ := h.rdc he holds
                              have hol : os.length = n * sz := by rw [← hvo.1]; exact rdc_len holds
                              have hkill := h.kill hb
                              have hstk : Step L ι m w ι (m.put b none) w := ⟨Inj.le_refl _, fun d _ _ => Nat.lt_or_ge d m.next, fun d ed h1 h2 => (by rw [h1] at h2; cases h2), Nat.le_refl _, fun d hd _ => Mem.rd_put_ne h.ok _ hb (by omega), rfl, rfl, rfl, Nat.le_refl _, fun _ _ _ => rfl⟩
                              by_cases hfit : n + (j + 1) ≤ c + e'.extra
                              · -- the machine appends in place
                                obtain ⟨ca, ct, hh, hcs⟩ := h.own b e' blk (Nat.le_trans hR hLb') he hblk hn
                                have hcs' : ca.size = e'.base + o + (c + e'.extra) * sz := by rw [hcs, ← hend', hesz, Nat.add_mul]; omega
                                have hmul : (n + (j + 1)) * sz ≤ (c + e'.extra) * sz := Nat.mul_le_mul_right _ hfit
                                have hmul2 : (n + (j + 1)) * sz = n * sz + us.length := by rw [Nat.add_mul, hul]
                                have hrun := run_storeCells_at P e'.cb (e'.base + o + n * sz) ct us 0 ca w hh (by omega) (allOne_ok news us hone hvl)
                                simp only [Nat.add_zero] at hrun
                                have hin := run_append_in (ty := ty) (n := n) (cap := c + e'.extra) (base := some ⟨e'.cb, e'.base + o, none⟩) hu hts hlen hfc hfit
                                simp only [addrAdd, hrun, Result.andThen_ok] at hin
                                unfold anew at ha
                                split at ha
                                · rename_i m2 hm2
                                  simp only [natK_eq, Option.some.injEq, Prod.mk.injEq] at ha
                                  obtain ⟨rfl, rfl⟩ := ha
                                  have hself := setRow_heap w e'.cb ca (ca.toList.take (e'.base + o + n * sz) ++ us ++ ca.toList.drop (e'.base + o + n * sz + us.length)).toArray ct (0, 0) hh
                                  have hoth : ∀ q, q ≠ e'.cb → (w.setRow e'.cb (ca.toList.take (e'.base + o + n * sz) ++ us ++ ca.toList.drop (e'.base + o + n * sz + us.length)).toArray).heap[q]? = w.heap[q]? := fun q hq => setRow_other w e'.cb q _ hq
                                  have hsize : (w.setRow e'.cb (ca.toList.take (e'.base + o + n * sz) ++ us ++ ca.toList.drop (e'.base + o + n * sz + us.length)).toArray).heap.size = w.heap.size := by simp [World.setRow]
                                  have hos3 : (w.setRow e'.cb (ca.toList.take (e'.base + o + n * sz) ++ us ++ ca.toList.drop (e'.base + o + n * sz + us.length)).toArray).os = w.os ∧ (w.setRow e'.cb (ca.toList.take (e'.base + o + n * sz) ++ us ++ ca.toList.drop (e'.base + o + n * sz + us.length)).toArray).tape = w.tape ∧ (w.setRow e'.cb (ca.toList.take (e'.base + o + n * sz) ++ us ++ ca.toList.drop (e'.base + o + n * sz + us.length)).toArray).output = w.output := ⟨rfl, rfl, rfl⟩
                                  have hadopt := hkill.adopt (w' := w.setRow e'.cb (ca.toList.take (e'.base + o + n * sz) ++ us ++ ca.toList.drop (e'.base + o + n * sz + us.length)).toArray) (cb := e'.cb) (base := e'.base + o) (extra := c + e'.extra - (n + (j + 1))) hm2 hU
                                    (by rw [hsize]; exact Nat.le_refl _) (fun q _ hq => hoth q hq) hself (h.ge _ _ (Nat.le_trans hR hLb') he)
                                    (fun d ed kd h1 h2 => by
                                      by_cases hd : b = d
                                      · subst hd; rw [Mem.rd_put_same _ hb] at h2; cases h2
                                      · rw [Mem.rd_put_ne h.ok _ hb hd] at h2
                                        exact (h.disj b d e' ed blk kd (Nat.le_trans hR hLb') hd he h1 hblk h2).symm)
                                    (by
                                      have hcl : ca.toList.length = ca.size := by simp
                                      have hsub : (c + e'.extra - (n + (j + 1))) * sz = (c + e'.extra) * sz - (n + (j + 1)) * sz := Nat.sub_mul _ _ _
                                      have hol2 : (olds ++ news).length = n * sz + us.length := by rw [List.length_append, hvo.1, hvl.1, hol]
                                      rw [hsub, hol2]
                                      simp
                                      omega)
                                    (hvo.append hvl)
                                    (by
                                      intro q u hq
                                      have hbound : q < os.length + us.length := by have := (List.getElem?_eq_some_iff.1 hq).1; simpa using this
                                      simp only [List.getElem?_toArray]
                                      have hl1 : (ca.toList.take (e'.base + o + n * sz)).length = e'.base + o + n * sz := by simp; omega
                                      by_cases hqo : q < os.length
                                      · rw [List.getElem?_append_left hqo] at hq
                                        rw [List.append_assoc, List.getElem?_append_left (by omega), List.getElem?_take, if_pos (by omega)]
                                        have := hos q u hq
                                        rw [addrAdd] at this
                                        simpa [World.cell?, hh] using this
                                      · rw [List.getElem?_append_right (by omega)] at hq
                                        rw [List.append_assoc, List.getElem?_append_right (by omega), hl1, List.getElem?_append_left (by omega)]
                                        rw [show e'.base + o + q - (e'.base + o + n * sz) = q - os.length by omega]
                                        exact hq)
                                  have hnone : ι m.next = none := by
                                    cases hi2 : ι m.next with
                                    | none => rfl
                                    | some e2 => have := h.dom _ _ hi2; have := (Mem.new_next hm2).1; have hpn : (m.put b none).next = m.next := rfl; omega
                                  refine ⟨_, _, _, hin, ?_, hadopt, ?_⟩
                                  · have := VR.slOpen (ι := ι.upd m.next ⟨e'.cb, e'.base + o, c + e'.extra - (n + (j + 1))⟩) m.next 0 (n + (j + 1)) (n + (j + 1)) ⟨e'.cb, e'.base + o, c + e'.extra - (n + (j + 1))⟩ (Inj.upd_same _ _ _)
                                    have hcc : n + (j + 1) + (c + e'.extra - (n + (j + 1))) = c + e'.extra := by omega
                                    rw [hcc] at this
                                    exact this
                                  · have hnx := (Mem.new_next hm2).1
                                    have hpn : (m.put b none).next = m.next := rfl
                                    refine hstk.trans ⟨Inj.le_upd hnone _, fun d ed hd => (by have := h.dom _ _ hd; omega), ?_, by omega, fun d _ hd => Mem.rd_new_lt hm2 hd, hos3.1, hos3.2.1, hos3.2.2, by rw [hsize]; exact Nat.le_refl _, fun q hq hno => hoth q (fun heq => hno b e' hLb' (by omega) he heq.symm)⟩
                                    intro d ed hd hdn
                                    by_cases hdb : d = m.next
                                    · subst hdb; rw [hpn, Inj.upd_same] at hd; cases hd; exact ⟨Nat.le_refl _, by omega, .inr ⟨b, e', hLb', by omega, he, rfl⟩⟩
                                    · rw [hpn, Inj.upd_ne _ _ hdb] at hd; rw [hd] at hdn; cases hdn
                                · cases ha
                              · have hr := run_append_grow (P := P) w t ty e i z hu hi hz ⟨e'.cb, e'.base + o, none⟩ n (c + e'.extra) os (by rw [hol, hsz]) hos a (j + 1) xc' us (by rw [hul, hsz]) hcell (by omega) b1' (growslice_fits (by omega) (by rw [hby]; exact b2'))
                                have hge := grownCap_ge w (n + (j + 1)) (c + e'.extra) e
                                obtain ⟨g1, g2, g3⟩ := grow olds os (n + (j + 1)) c w.drew (m.put b none) (hkill.world rfl) hL rfl rfl rfl rfl (hstk.trans (Step.same rfl rfl rfl rfl)) hvo v m' ha hU (grownCap w (n + (j + 1)) (c + e'.extra) e - (n + (j + 1))) (Builtin.zeroCells z.cells (grownCap w (n + (j + 1)) (c + e'.extra) e - (n + (j + 1)))).toList (by simp [size_zeroCells, hzs])
                                have hcap : n + (j + 1) + (grownCap w (n + (j + 1)) (c + e'.extra) e - (n + (j + 1))) = grownCap w (n + (j + 1)) (c + e'.extra) e := by omega
                                rw [hcap] at g1
                                have e1 : (os ++ us ++ (Builtin.zeroCells z.cells (grownCap w (n + (j + 1)) (c + e'.extra) e - (n + (j + 1)))).toList).toArray = os.toArray ++ us.toArray ++ Builtin.zeroCells z.cells (grownCap w (n + (j + 1)) (c + e'.extra) e - (n + (j + 1))) := by apply Array.ext'; simp
                                rw [e1] at g2 g3
                                exact ⟨_, _, _, hr, g1, g2, g3⟩
                            · cases ha
                  · cases ha
      · cases ha
end
end Go.Vit
