/- The core of the runs: CoreC. -/
import Derived.Test.YtgimcgdehgbljaaCoreB
import Derived.LoopN
import Derived.Scope
import Derived.Deep.DeepHandedRow
import Derived.Lib.LaidTab
import Derived.WalkKit
import Derived.ProofKit
import Derived.OpenShut
set_option linter.unusedSimpArgs false
set_option linter.unusedVariables false
/- Code and calls: the evaluator, and that what it reckons is what the machine does. -/
namespace Go.Vit
open Go

abbrev Out := Option (Nat × (Fr × Mem))
def exOf (n : Nat) : Exit := match n with
  | 0 => .normal
  | 1 => .ret
  | k + 2 => if k % 2 = 0 then .exit (k / 2) else .goto (k / 2)

def pairT (l : List Oper) : List (Oper × Bool) := l.map fun o => (o, true)
def evRegion0 (P : Program) (G N : Nat) (K : List Nat) (call : CallT) (L : Nat) (ops : List Oper) (draw : Bool) (fr : Fr) (m : Mem) : Out :=
  match (match draw with
    | false => some (pairT ops)
    | true => match drawOk ops with
      | true => some (flags ops)
      | false => none) with
  | none => none
  | some l => match fr with
    | ⟨ps, _⟩ => match evOps P G N K call ops L l ⟨ps, []⟩ m with
      | some (fr', m') => some (0, (fr', m'))
      | none => none

/-- .. with loads that may be late. -/
def evLate (P : Program) (G N : Nat) (K : List Nat) (call : CallT) (L : Nat) (ops : List Oper) (j : Nat) (fr : Fr) (m : Mem) : Out := match fr with
  | ⟨ps, _⟩ => match evOps P G N K call ops L ((lflags ops).take j) ⟨ps, []⟩ m with
    | none => none
    | some (fr1, m1) => match evOps P G N K call ops L (((lflags ops).drop j).take 1) fr1 m1 with
      | none => none
      | some (fr2, m2) => match smAll m1 m2 (aeval G (fget K fr1)) (lateAddrs ops j) with
        | false => none
        | true => match evOps P G N K call ops L ((lflags ops).drop (Nat.succ j)) fr2 m2 with
          | none => none
          | some (fr3, m3) => some (0, (fr3, m3))

def evRegion1 (P : Program) (G N : Nat) (K : List Nat) (call : CallT) (L : Nat) (ops : List Oper) (draw : Bool) (fr : Fr) (m : Mem) : Out := match draw with
  | false => evRegion0 P G N K call L ops false fr m
  | true => match needLoose ops with
    | false => evRegion0 P G N K call L ops true fr m
    | true => match looseOk ops with
      | false => none
      | true => match fr with
        | ⟨ps, _⟩ => match evOps P G N K call ops L (pairT ops) ⟨ps, []⟩ m with
          | some (fr', m') => match neAll (aeval G (fget K fr')) (loosePairs ops) with
            | true => some (0, (fr', m'))
            | false => none
          | none => none
def evRegion (P : Program) (G N : Nat) (K : List Nat) (call : CallT) (L : Nat) (ops : List Oper) (draw : Bool) (fr : Fr) (m : Mem) : Out := match draw with
  | false => evRegion1 P G N K call L ops false fr m
  | true => match lateCut ops with
    | none => evRegion1 P G N K call L ops true fr m
    | some j => evLate P G N K call L ops j fr m

def loopN (body : Fr → Mem → Out) : Nat → Fr → Mem → Out
  | 0, _, _ => none
  | n + 1, fr, m => match body fr m with
    | some (e, (fr', m')) => match e with
      | 0 => loopN body n fr' m'
      | Nat.succ k => some (Nat.succ k, (fr', m'))
    | none => none

/-! A range over a function: the record of the loop is a block of its own sort, and a round is called by its number behind RB. -/
def getsK (K : List Nat) (fr : Fr) : List Nat → Option (List Value)
  | [] => some []
  | t :: l => match fget K fr t with
    | some v => match getsK K fr l with
      | some vs => some (v :: vs)
      | none => none
    | none => none
def loopB (m : Mem) (y s : Nat) : Option (List Value) := match m.rd y with
  | some k => match k.ents with
    | some _ => match Nat.beq k.esz s with
      | true => some k.cells
      | false => none
    | none => none
  | none => none
def rfs : Code → List (List Nat × (Code × Code))
  | .seq a b => rfs a ++ rfs b
  | .cond _ a b => rfs a ++ rfs b
  | .block _ b => rfs b
  | .loop b => rfs b
  | .scope b => rfs b
  | .rangeFunc _ ps a b => [(ps.toList, (a, b))]
  | _ => []
def xOf (FSl : Nat → List Nat) (f n : Nat) (c : Code) : Option (Nat × LInfo) := match rfs c with
  | [(ps, (a, b))] => some (f, ⟨FSl f, ps, a, b, n⟩)
  | _ => none
/-- What the loops of a program are. -/
def ltab (P : Program) (FSl : Nat → List Nat) (f : Nat) : Option LInfo := match P.funcs[f]? with
  | none => none
  | some fn => match fn.body with
    | none => none
    | some c => match xOf FSl f fn.ntmps c with
      | some (_, i) => some i
      | none => none
def oRange0 (call : CallT) (f : Nat) (vf : Value) (vs : List Value) (L : Nat) (m : Mem) : Option Mem := match atarget vf with
  | none => none
  | some (h, cs) => natK m.next fun y => match m.new ⟨Nat.succ (Nat.mul 2 f), vs, some []⟩ with
    | none => none
    | some m1 => match call h (.func (.yield y) #[] #[] :: cs) L m1 with
      | none => none
      | some (_, m2) => match loopB m2 y (Nat.succ (Nat.mul 2 f)) with
        | none => none
        | some _ => some (m2.put y none)
def ev (P : Program) (X : Option (Nat × LInfo)) (G N : Nat) (K : List Nat) (call : CallT) (lf : Nat) (L : Nat) : Code → Fr → Mem → Out
  | .skip, fr, m => some (0, (fr, m))
  | .region _ ops draw, fr, m => evRegion P G N K call L ops.toList draw fr m
  | .seq a b, fr, m => match ev P X G N K call lf L a fr m with
    | some (e, (fr', m')) => match e with
      | 0 => ev P X G N K call lf L b fr' m'
      | Nat.succ k => some (Nat.succ k, (fr', m'))
    | none => none
  | .cond c a b, fr, m => match aeval G (fget K fr) c with
    | some (.bool true) => ev P X G N K call lf L a fr m
    | some (.bool false) => ev P X G N K call lf L b fr m
    | _ => none
  | .block id body, fr, m => match ev P X G N K call lf L body fr m with
    | some (e, (fr', m')) => match Nat.beq e (Nat.succ (Nat.succ (Nat.mul 2 id))) with
      | true => some (0, (fr', m'))
      | false => some (e, (fr', m'))
    | none => none
  | .loop body, fr, m => loopN (ev P X G N K call lf L body) lf fr m
  | .exit id, fr, m => some (Nat.succ (Nat.succ (Nat.mul 2 id)), (fr, m))
  | .ret, fr, m => some (1, (fr, m))
  | .label _, fr, m => some (0, (fr, m))
  | .goto l, fr, m => some (Nat.succ (Nat.succ (Nat.succ (Nat.mul 2 l))), (fr, m))
  | .rangeFunc g _ _ _, fr, m => match X with
    | none => none
    | some (f, i) => match aeval G (fget K fr) g with
      | none => none
      | some vf => match getsK K fr i.fs with
        | none => none
        | some vs => match oRange0 call f vf vs L m with
          | none => none
          | some m' => some (0, (fr, m'))
  | _, _, _ => none

/-! A scope with labels, as a body's last part: the jumps to them are rounds. -/
def gotoOf (e : Nat) : Option Nat := match e with
  | k + 2 => if k % 2 = 0 then none else some (k / 2)
  | _ => none
def scopeN (P : Program) (X : Option (Nat × LInfo)) (G N : Nat) (K : List Nat) (call : CallT) (lf : Nat) (L : Nat) (c : Code) : Nat → Code → Fr → Mem → Out
  | 0, _, _, _ => none
  | n + 1, d, fr, m => match ev P X G N K call lf L d fr m with
    | none => none
    | some (e, (fr', m')) => match gotoOf e with
      | none => some (e, (fr', m'))
      | some l => match findLabel c l with
        | none => none
        | some rest => scopeN P X G N K call lf L c n rest fr' m'
def evB (P : Program) (X : Option (Nat × LInfo)) (G N : Nat) (K : List Nat) (call : CallT) (lf : Nat) (L : Nat) : Code → Fr → Mem → Out
  | .scope c, fr, m => scopeN P none G N K call lf L c (lf + 1) c fr m
  | .seq a b, fr, m => match ev P X G N K call lf L a fr m with
    | some (e, (fr', m')) => match e with
      | 0 => evB P X G N K call lf L b fr' m'
      | Nat.succ k => some (Nat.succ k, (fr', m'))
    | none => none
  | c, fr, m => ev P X G N K call lf L c fr m

def initPs (args : List Value) : List Nat → List (Option Value)
  | [] => []
  | t :: l => (match lget args t with
    | some v => some v
    | none => some Go.undef) :: initPs args l
def resA (P : Program) (K : List Nat) (fr : Fr) (m : Mem) : List ResultVar → Option (List Value)
  | [] => some []
  | r :: l => match (match r with
      | .tmp t => fget K fr t
      | .cell a t => match fget K fr a with
        | some x => aload P m t x
        | none => none) with
    | some v => match resA P K fr m l with
      | some vs => some (v :: vs)
      | none => none
    | none => none
def oneOr (vs : List Value) : Value := match vs with
  | [v] => v
  | vs => .tuple ⟨vs⟩

/-- A function's body. -/
def evF (P : Program) (FSl : Nat → List Nat) (G : Nat) (KK : FuncId → List Nat) (lf : Nat) (call : CallT) : CallT := fun f args L m => match P.funcs[f]? with
  | none => none
  | some fn => match fn.body with
    | none => none
    | some c => match Nat.ble args.length fn.ntmps with
      | false => none
      | true => match evB P (xOf FSl f fn.ntmps c) G fn.ntmps (KK f) call lf L c ⟨initPs args (KK f), []⟩ m with
        | none => none
        | some (e, (fr, m')) => match Nat.ble e 1 with
          | false => none
          | true => match resA P (KK f) fr m' fn.results.toList with
            | some vs => some (oneOr vs, m')
            | none => none
/-- The slots with which a round begins. -/
def zipR : List Nat → List Value → List (Nat × Value) → List (Nat × Value)
  | s :: ss, v :: vs, acc => zipR ss vs ((s, v) :: acc)
  | _, _, acc => acc
def startR (n : Nat) (l : List (Nat × Value)) : List (Option Value) := (List.range n).map (look l)
def isYield (v : Value) : Option Nat := match v with
  | .func fn first cs => match fn with
    | .yield y => match first.toList with
      | [] => match cs.toList with
        | [] => some y
        | _ => none
      | _ => none
    | _ => none
  | _ => none
/-- A round of a loop over a function. -/
def evR (P : Program) (LT : Nat → Option LInfo) (G : Nat) (lf : Nat) (call : CallT) : CallT := fun f args L m => match LT f with
  | none => none
  | some i => match args with
    | [] => none
    | yv :: as => match isYield yv with
      | none => none
      | some y => match Nat.beq as.length (Nat.add i.fs.length i.ps.length) && Nat.ble L y with
        | false => none
        | true => match ev P none G i.n (List.range i.n) call lf L i.assign ⟨startR i.n (zipR (i.fs ++ i.ps) as []), []⟩ m with
          | some (0, (fr1, m1)) => match loopB m1 y (Nat.succ (Nat.mul 2 f)) with
            | none => none
            | some cs => match ev P none G i.n (List.range i.n) call lf L i.body fr1 (m1.put y (some ⟨Nat.succ (Nat.succ (Nat.mul 2 f)), cs, some []⟩)) with
              | some (0, (_, m2)) => match loopB m2 y (Nat.succ (Nat.succ (Nat.mul 2 f))) with
                | none => none
                | some cs2 => some (.bool true, m2.put y (some ⟨Nat.succ (Nat.mul 2 f), cs2, some []⟩))
              | _ => none
          | _ => none
def noCalls : CallT := fun _ _ _ _ => none

section
variable {P : Program} {G R U L : Nat} {B : Base} {call : CallT} {ro : Option Nat}

theorem pairT_fst (l : List Oper) : pairT l = l.map fun o => (o, true) := rfl

theorem evRegion0_ext (hc : CallOk P G R B call) {N : Nat} {K : List Nat} {ops : List Oper} {draw : Bool} {fr fr' : Fr} {m m' : Mem} {e : Nat} (hm : m.ok) (hL : L ≤ m.next)
    (h : evRegion0 P G N K call L ops draw fr m = some (e, (fr', m'))) : Ext L m m' := by
  unfold evRegion0 at h
  split at h
  · cases h
  · split at h
    rename_i ps ts
    split at h
    · rename_i fr1 m1 hh
      cases h
      exact evOps_ext hc _ _ _ _ _ hm hL hh
    · cases h

theorem txt_wp (hP : Prog P) (hc : CallOk P G R B call) {N : Nat} {K : List Nat} {ops : Array Oper} {fl : List (Oper × Bool)} (tr : Nat → Fr × Mem) {id : Nat} (ht : Txt P G R B L call ops N K tr fl) (hR : R ≤ L) {Q : Exit → Act → World → Prop} {fr0 fr1 : Fr} {m m1 : Mem} {ι : Inj} {a : Act} {w : World}
    (t0 : tr 0 = (fr0, m)) (t1 : tr ops.size = (fr1, m1)) (hr : Rel G R B U ι m w) (hU : m1.next ≤ U) (hf0 : FR ι (fget K fr0) a) (hN : N ≤ a.tmps.size)
    (hq : ∀ κ a' w', Rel G R B U κ m1 w' → FR κ (fget K fr1) a' → a'.tmps.size = a.tmps.size → a'.defers = a.defers → Step L ι m w κ m1 w' → Q .normal a' w') : (Code.region id ops true).wpIn (fen ro) 0 P Q a w := by
  have hUn : (tr ops.size).2.next ≤ U := by rw [t1]; exact hU
  have hd0 : ∀ b e, ι b = some e → b < (tr 0).2.next ∨ U ≤ b := by rw [t0]; exact hr.dom
  refine wpIn_region_any hP.mixed ?_
  refine draw_core (G := G) (R := R) (B := B) (U := U) (L := L) (N := N) (K := K) tr hP ht hR hUn (ι0 := ι) (a0 := a) (w0 := { w with drawn := w.drawn + 1 }) hN ?_ hd0 _ _ _ _ ⟨by simp, ?_, rfl, rfl, ?_⟩ (by omega)
  · intro κ a' w' g1 g2 g3 g4 g5
    rw [t1] at g1 g2 g5
    rw [t0] at g5
    exact hq κ a' w' g1 g2 g3 g4 ((Step.same rfl rfl rfl rfl : Step L ι m w ι m { w with drawn := w.drawn + 1 }).trans g5)
  · intro i o ho hd
    have := hd.2
    simp [Array.getD_eq_getD_getElem?, Array.getElem?_replicate] at this
    split at this <;> simp_all
  · obtain ⟨r, r1, r2, r3, r4⟩ := nextEM ops fl ops.size 0 (by omega)
    have hnd : ∀ i, ¬ Done (Array.replicate ops.size false) i := fun i hd => by
      have := hd.2
      simp [Array.getD_eq_getD_getElem?, Array.getElem?_replicate] at this
      split at this <;> simp_all
    have hext := (ht.exts tr (p := 0) r (by omega) r2).2 r3
    have hUr : (tr r).2.next ≤ U := Nat.le_trans (ht.exts tr (p := r) ops.size r2 (Nat.le_refl _)).1.next hUn
    have hr0 : Rel G R B U ι (tr 0).2 { w with drawn := w.drawn + 1 } := by rw [t0]; exact hr.world rfl
    refine ⟨ι, r, r2, fun i hi hem => absurd hem (r3 i (by omega) hi), fun h => ⟨r4 h, hnd r⟩, fun i _ _ => hnd i, hr0.fwd hext.next hext.ok hUr (fun b hb => hext.kept b hb hb), fun i hi _ b hb1 hb2 => ?_,
      (Step.refl' L ι (tr 0).2 { w with drawn := w.drawn + 1 }).fwd hext.next (fun b e he => (hd0 b e he).imp (fun h => h) fun h => by omega) (fun b hb1 hb2 => hext.kept b hb2 hb2), ?_⟩
    · cases hι : ι b with
      | none => rfl
      | some e =>
        have h1 := hd0 b e hι
        have h2 := (ht.exts tr (p := 0) i (by omega) (by omega)).1.next
        have h3 := (ht.exts tr (p := i + 1) ops.size (by omega) (Nat.le_refl _)).1.next
        omega
    · intro t j hj hcond v hv
      rw [ht.nowrite tr (p := 0) (t := t) j (by omega) hj fun k x _ hk hx hxd => hnd k ((hcond k x hx hxd).2 hk)] at hv
      rw [t0] at hv
      exact hf0 t v hv
theorem evRegion0_ok (hP : Prog P) (hc : CallOk P G R B call) {N : Nat} {K : List Nat} {ops : Array Oper} {id : Nat} {draw : Bool} (hR : R ≤ L) {Q : Exit → Act → World → Prop} {fr fr' : Fr} {m m' : Mem} {e : Nat} {ι : Inj} {a : Act} {w : World}
    (h : evRegion0 P G N K call L ops.toList draw fr m = some (e, (fr', m'))) (hr : Rel G R B U ι m w) (hL : L ≤ m.next) (hU : m'.next ≤ U) (hf : FR ι (fget K fr) a) (hN : N ≤ a.tmps.size)
    (hq : ∀ κ a' w', Rel G R B U κ m' w' → FR κ (fget K fr') a' → a'.tmps.size = a.tmps.size → a'.defers = a.defers → Step L ι m w κ m' w' → Q (exOf e) a' w') : (Code.region id ops draw).wpIn (fen ro) 0 P Q a w := by
  unfold evRegion0 at h
  have hf0 : FR ι (fget K ⟨fr.ps, []⟩) a := fun t v hv => by
    refine hf t v ?_
    unfold fget at hv ⊢
    split at hv
    · exact hv
    · cases hv
  cases draw with
  | false =>
    simp only [] at h
    split at h
    · rename_i fr1 m1 hh
      simp only [Option.some.injEq, Prod.mk.injEq] at h
      obtain ⟨rfl, rfl, rfl⟩ := h
      have := evOps_ok (U := U) (ro := ro) (Q := Q) hP hc hR ops.toList 0 ⟨fr.ps, []⟩ m ι a w fr1 m1 hh (by simp) hr hL hU hf0 hN hq
      refine wpIn_region ?_
      rw [List.range_eq_range']
      simpa using this
    · cases h
  | true =>
    simp only [] at h
    split at h
    · cases h
    · rename_i l hl
      split at hl
      · rename_i hdr
        cases hl
        split at h
        · rename_i fr1 m1 hh
          simp only [Option.some.injEq, Prod.mk.injEq] at h
          obtain ⟨rfl, rfl, rfl⟩ := h
          obtain ⟨tr, t0, t1, t2⟩ := evOps_trace _ _ _ _ _ hh
          have hlen : (flags ops.toList).length = ops.size := by
            have := congrArg List.length (flags_fst ops.toList)
            simpa using this
          rw [hlen] at t1
          have ht : Txt P G R B L call ops N K tr (flags ops.toList) := ⟨GFacts.of_draw (drawOk_facts hdr), t2, by rw [t0]; exact hr.ok, hc, by rw [t0]; exact hL⟩
          exact txt_wp hP hc tr ht hR t0 t1 hr hU hf0 hN (fun κ a' w' g1 g2 g3 g4 g5 => hq κ a' w' g1 g2 g3 g4 g5)
        · cases h
      · cases hl

theorem evRegion1_ext (hc : CallOk P G R B call) {N : Nat} {K : List Nat} {ops : List Oper} {draw : Bool} {fr fr' : Fr} {m m' : Mem} {e : Nat} (hm : m.ok) (hL : L ≤ m.next)
    (h : evRegion1 P G N K call L ops draw fr m = some (e, (fr', m'))) : Ext L m m' := by
  unfold evRegion1 at h
  split at h
  · exact evRegion0_ext hc hm hL h
  · split at h
    · exact evRegion0_ext hc hm hL h
    · split at h
      · cases h
      · split at h
        rename_i ps ts
        split at h
        · rename_i fr1 m1 hh
          split at h
          · cases h
            exact evOps_ext hc _ _ _ _ _ hm hL hh
          · cases h
        · cases h
theorem pairF_get {l : List Oper} {i : Nat} {o : Oper} (h : l[i]? = some o) : (pairF l)[i]? = some (o, false) := by simp [pairF, h]
theorem evRegion1_ok (hP : Prog P) (hc : CallOk P G R B call) {N : Nat} {K : List Nat} {ops : Array Oper} {id : Nat} {draw : Bool} (hR : R ≤ L) {Q : Exit → Act → World → Prop} {fr fr' : Fr} {m m' : Mem} {e : Nat} {ι : Inj} {a : Act} {w : World}
    (h : evRegion1 P G N K call L ops.toList draw fr m = some (e, (fr', m'))) (hr : Rel G R B U ι m w) (hL : L ≤ m.next) (hU : m'.next ≤ U) (hf : FR ι (fget K fr) a) (hN : N ≤ a.tmps.size)
    (hq : ∀ κ a' w', Rel G R B U κ m' w' → FR κ (fget K fr') a' → a'.tmps.size = a.tmps.size → a'.defers = a.defers → Step L ι m w κ m' w' → Q (exOf e) a' w') : (Code.region id ops draw).wpIn (fen ro) 0 P Q a w := by
  unfold evRegion1 at h
  split at h
  · exact evRegion0_ok hP hc hR h hr hL hU hf hN hq
  · split at h
    · exact evRegion0_ok hP hc hR h hr hL hU hf hN hq
    · split at h
      · cases h
      · rename_i hok
        have hf0 : FR ι (fget K ⟨fr.ps, []⟩) a := fun t v hv => by
          refine hf t v ?_
          unfold fget at hv ⊢
          split at hv
          · exact hv
          · cases hv
        split at h
        rename_i ps ts
        split at h
        · rename_i fr1 m1 hh
          split at h
          · rename_i hne
            simp only [Option.some.injEq, Prod.mk.injEq] at h
            obtain ⟨rfl, rfl, rfl⟩ := h
            obtain ⟨tr, t0, t1, t2⟩ := evOps_trace _ _ _ _ _ hh
            have hlen : (pairT ops.toList).length = ops.size := by simp [pairT]
            rw [hlen] at t1
            unfold looseOk at hok
            rw [Bool.and_eq_true, Bool.and_eq_true] at hok
            obtain ⟨hrows, hkind, hstab⟩ := hok
            have rows := fun j o (hj : ops[j]? = some o) => allRows_iff hrows j o false (pairF_get (by simpa using hj))
            have ht : LTxt P G N K L call ops tr := by
              refine ⟨fun i o ho e he hb => ?_, fun i j x o hij hx ho hcl => ?_, fun i o ho => ?_, fun i j o x t s ho hs hij hx => ?_, fun i o ho => t2 i o true (by simp [pairT, ho]), fun i j x o ad bd s s' hij hx ho hs hs' hss hbit => ?_⟩
              · have := (rows i o ho).2
                rw [Nat.zero_add] at this
                exact edgesOk_iff this e (by simpa using he) hb
              · obtain ⟨⟨k, hk, hrw⟩, _⟩ := rows j o ho
                rw [Nat.zero_add] at hk hrw
                have := rowOk_iff hrw i x false (by rw [List.getElem?_take, if_pos hij]; exact pairF_get (by simpa using hx)) (by rw [hcl]; rfl)
                rw [Nat.zero_add] at this
                simp [bit, hk, this]
              · have hlo := List.all_eq_true.1 hkind o (by have := Array.mem_of_getElem? ho; simpa using this)
                unfold looseOp at hlo
                split at hlo
                · cases hlo
                · rename_i hg
                  refine ⟨hg, ?_⟩
                  split at hlo
                  · rename_i hp; exact .inl hp
                  · split at hlo
                    · rename_i x hx; exact .inr ⟨x.1, x.2, hx⟩
                    · cases hlo
              · exact stable_get hstab (i := i) (j := j) (by simpa using ho) hs hij (by simpa using hx)
              · obtain ⟨⟨k, hk, _⟩, _⟩ := rows j o ho
                rw [Nat.zero_add] at hk
                have hkb : Nat.testBit k i = false := by
                  have := hbit
                  unfold bit at this
                  rw [lget_eq, hk] at this
                  exact this
                have hm : (ad, bd) ∈ loosePairs ops.toList := by
                  refine allP_mem (base := 0) (j := j) (k := k) (o := o) (by simpa using ho) (by rw [Nat.zero_add]; exact hk) ?_
                  rw [Nat.zero_add]
                  refine rowP_mem (base := 0) (i := i) (x := x) (by rw [List.getElem?_take, if_pos hij]; simpa using hx) ?_
                  rw [Nat.zero_add]
                  simp [meetP, hs, hs', hss, hkb]
                rw [t1]
                exact neAll_mem hne hm
            have hUn : (tr ops.size).2.next ≤ U := by rw [t1]; exact hU
            have hd0 : ∀ b e, ι b = some e → b < (tr 0).2.next ∨ U ≤ b := by rw [t0]; exact hr.dom
            refine wpIn_region_any hP.mixed ?_
            refine loose_core (G := G) (R := R) (B := B) (U := U) (L := L) (N := N) (K := K) tr hP hc ht hR (by rw [t0]; exact hL) hUn (ι0 := ι) (a0 := a) (w0 := { w with drawn := w.drawn + 1 }) hN ?_ hd0 _ _ _ _ ⟨by simp, ?_, rfl, rfl, ?_⟩ (by omega)
            · intro κ a' w' g1 g2 g3 g4 g5
              rw [t1] at g1 g2 g5
              rw [t0] at g5
              exact hq κ a' w' g1 g2 g3 g4 ((Step.same rfl rfl rfl rfl : Step L ι m w ι m { w with drawn := w.drawn + 1 }).trans g5)
            · intro i o ho hd
              have := hd.2
              simp [Array.getD_eq_getD_getElem?, Array.getElem?_replicate] at this
              split at this <;> simp_all
            · have hnd : ∀ i, ¬ Done (Array.replicate ops.size false) i := fun i hd => by
                have := hd.2
                simp [Array.getD_eq_getD_getElem?, Array.getElem?_replicate] at this
                split at this <;> simp_all
              have hr0 : Rel G R B U ι (tr 0).2 { w with drawn := w.drawn + 1 } := by rw [t0]; exact hr.world rfl
              refine ⟨ι, (tr 0).2, rfl, fun b j hj hcond => ?_, hr0, Step.refl' L ι (tr 0).2 _, fun t j hj hcond v hv => ?_⟩
              · exact ((ht.same tr (b := b) (p := 0) j (by omega) hj fun k _ hk hT => hnd k ((hcond k (by omega) hT).2 hk)).1).symm
              · rw [ht.nowrite tr (p := 0) (t := t) j (by omega) hj fun k x _ hk hx hxd => hnd k ((hcond k x hx hxd).2 hk)] at hv
                rw [t0] at hv
                exact hf0 t v hv
          · cases h
        · cases h

theorem evLate_ext (hc : CallOk P G R B call) {N : Nat} {K : List Nat} {ops : List Oper} {j : Nat} {fr fr' : Fr} {m m' : Mem} {e : Nat} (hm : m.ok) (hL : L ≤ m.next)
    (h : evLate P G N K call L ops j fr m = some (e, (fr', m'))) : Ext L m m' := by
  unfold evLate at h
  split at h
  split at h
  · cases h
  · rename_i fr1 m1 h1
    have e1 := evOps_ext hc _ _ _ _ _ hm hL h1
    split at h
    · cases h
    · rename_i fr2 m2 h2
      have e2 := evOps_ext hc _ _ _ _ _ e1.ok (Nat.le_trans hL e1.next) h2
      split at h
      · cases h
      · split at h
        · cases h
        · rename_i fr3 m3 h3
          have e3 := evOps_ext hc _ _ _ _ _ e2.ok (Nat.le_trans (Nat.le_trans hL e1.next) e2.next) h3
          cases h
          exact (e1.trans e2).trans e3
theorem evRegion_ext (hc : CallOk P G R B call) {N : Nat} {K : List Nat} {ops : List Oper} {draw : Bool} {fr fr' : Fr} {m m' : Mem} {e : Nat} (hm : m.ok) (hL : L ≤ m.next)
    (h : evRegion P G N K call L ops draw fr m = some (e, (fr', m'))) : Ext L m m' := by
  unfold evRegion at h
  split at h
  · exact evRegion1_ext hc hm hL h
  · split at h
    · exact evRegion1_ext hc hm hL h
    · exact evLate_ext hc hm hL h
theorem cutsGo_lt {ops : List Oper} : ∀ {l : List (Oper × Bool)} {b x : Nat}, x ∈ cutsGo ops l b → b ≤ x ∧ x < b + l.length
  | [], b, x, h => by cases h
  | (o, f) :: l, b, x, h => by
    simp only [cutsGo] at h
    have key : x ∈ cutsGo ops l (Nat.succ b) → b ≤ x ∧ x < b + ((o, f) :: l).length := fun h => by
      have := cutsGo_lt h
      rw [List.length_cons]
      omega
    split at h
    · split at h
      · exact key h
      · rcases List.mem_cons.1 h with rfl | h
        · rw [List.length_cons]; omega
        · exact key h
    · exact key h
theorem trace_app {N : Nat} {K : List Nat} {ops : List Oper} {l1 l2 : List (Oper × Bool)} {tr1 tr2 : Nat → Fr × Mem} (h0 : tr2 0 = tr1 l1.length)
    (s1 : ∀ i o f, l1[i]? = some (o, f) → Stp P G N K call ops L o f (tr1 i) (tr1 (i + 1))) (s2 : ∀ i o f, l2[i]? = some (o, f) → Stp P G N K call ops L o f (tr2 i) (tr2 (i + 1))) :
    ∃ tr : Nat → Fr × Mem, (∀ i, i ≤ l1.length → tr i = tr1 i) ∧ (∀ i, tr (l1.length + i) = tr2 i) ∧ ∀ i o f, (l1 ++ l2)[i]? = some (o, f) → Stp P G N K call ops L o f (tr i) (tr (i + 1)) := by
  have a1 : ∀ i, i ≤ l1.length → (fun i => if i ≤ l1.length then tr1 i else tr2 (i - l1.length)) i = tr1 i := fun i hi => if_pos hi
  have a2 : ∀ i, (fun i => if i ≤ l1.length then tr1 i else tr2 (i - l1.length)) (l1.length + i) = tr2 i := fun i => by
    by_cases hi : i = 0
    · subst hi; simp [h0]
    · have : ¬ (l1.length + i ≤ l1.length) := by omega
      simp only [if_neg this]
      rw [Nat.add_sub_cancel_left]
  refine ⟨fun i => if i ≤ l1.length then tr1 i else tr2 (i - l1.length), a1, a2, fun i o f hi => ?_⟩
  by_cases hlt : i < l1.length
  · rw [List.getElem?_append_left hlt] at hi
    rw [a1 i (by omega), a1 (i + 1) (by omega)]
    exact s1 i o f hi
  · obtain ⟨q, rfl⟩ : ∃ q, i = l1.length + q := ⟨i - l1.length, by omega⟩
    rw [List.getElem?_append_right (by omega), Nat.add_sub_cancel_left] at hi
    rw [a2 q, show l1.length + q + 1 = l1.length + (q + 1) by omega, a2 (q + 1)]
    exact s2 q o f hi
theorem nowrite0 {N : Nat} {K : List Nat} {ops : List Oper} {fl : List (Oper × Bool)} {tr : Nat → Fr × Mem} (hfl : fl.map (·.1) = ops) (hst : ∀ i o f, fl[i]? = some (o, f) → Stp P G N K call ops L o f (tr i) (tr (i + 1))) {t p : Nat} :
    ∀ q, p ≤ q → q ≤ ops.length → (∀ k x, p ≤ k → k < q → ops[k]? = some x → x.dst ≠ some t) → fget K (tr q).1 t = fget K (tr p).1 t
  | 0, hpq, hq, _ => by obtain rfl : p = 0 := by omega
                        rfl
  | q + 1, hpq, hq, hw => by
    by_cases he : p = q + 1
    · subst he; rfl
    · rw [← nowrite0 hfl hst (t := t) (p := p) q (by omega) (by omega) fun k x h1 h2 => hw k x h1 (by omega)]
      obtain ⟨o, ho⟩ : ∃ o, ops[q]? = some o := ⟨ops[q]'(by omega), by simp [show q < ops.length by omega]⟩
      obtain ⟨f, hf⟩ : ∃ f, fl[q]? = some (o, f) := by
        have hl : fl[q]?.map (·.1) = some o := by rw [← List.getElem?_map, hfl]; exact ho
        obtain ⟨⟨o', f⟩, h1, rfl⟩ := Option.map_eq_some_iff.1 hl
        exact ⟨f, h1⟩
      have hne := hw q o (by omega) (by omega) ho
      have key : ∀ v, (tr (q + 1)).1 = putA K (tr q).1 o.dst v → fget K (tr (q + 1)).1 t = fget K (tr q).1 t := fun v hv => by
        rw [hv]
        unfold putA
        split
        · rename_i d hd; exact fget_fset_ne fun e => hne (by rw [hd, e])
        · rfl
      obtain ⟨_, h1 | ⟨v, _, _, h1⟩⟩ := hst q o f hf
      · exact key _ h1.2.2
      · exact key _ h1
theorem freeL_load {o : Oper} {a : Operand} (h : freeL o = some a) : ∃ t, o.op = .load t a := by
  unfold freeL at h
  split at h
  · cases h
  · split at h
    · rename_i t x hop
      cases h
      exact ⟨t, hop⟩
    · cases h
theorem evLate_ok (hP : Prog P) (hc : CallOk P G R B call) {N : Nat} {K : List Nat} {ops : Array Oper} {id j : Nat} (hR : R ≤ L) {Q : Exit → Act → World → Prop} {fr fr' : Fr} {m m' : Mem} {e : Nat} {ι : Inj} {a : Act} {w : World} (hcut : lateCut ops.toList = some j)
    (h : evLate P G N K call L ops.toList j fr m = some (e, (fr', m'))) (hr : Rel G R B U ι m w) (hL : L ≤ m.next) (hU : m'.next ≤ U) (hf : FR ι (fget K fr) a) (hN : N ≤ a.tmps.size)
    (hq : ∀ κ a' w', Rel G R B U κ m' w' → FR κ (fget K fr') a' → a'.tmps.size = a.tmps.size → a'.defers = a.defers → Step L ι m w κ m' w' → Q (exOf e) a' w') : (Code.region id ops true).wpIn (fen ro) 0 P Q a w := by
  have hf0 : FR ι (fget K ⟨fr.ps, []⟩) a := fun t v hv => by
    refine hf t v ?_
    unfold fget at hv ⊢
    split at hv
    · exact hv
    · cases hv
  unfold lateCut at hcut
  split at hcut
  rotate_left
  · cases hcut
  rename_i j' hcuts
  split at hcut
  rotate_left
  · cases hcut
  rename_i hall
  cases hcut
  rw [Bool.and_eq_true] at hall
  obtain ⟨hrows, hstab⟩ := hall
  have hlen : (lflags ops.toList).length = ops.size := by
    have := congrArg List.length (lflags_fst ops.toList)
    simpa using this
  have hj : j < ops.size := by
    have := (cutsGo_lt (ops := ops.toList) (l := lflags ops.toList) (b := 0) (x := j) (by rw [hcuts]; exact List.mem_cons_self ..)).2
    omega
  unfold evLate at h
  split at h
  rename_i ps ts
  split at h
  · cases h
  rename_i fr1 m1 e1
  split at h
  · cases h
  rename_i fr2 m2 e2
  split at h
  · cases h
  rename_i hsm
  split at h
  · cases h
  rename_i fr3 m3 e3
  simp only [Option.some.injEq, Prod.mk.injEq] at h
  obtain ⟨rfl, rfl, rfl⟩ := h
  obtain ⟨u1, a0, a1, a2⟩ := evOps_trace _ _ _ _ _ e1
  obtain ⟨u2, b0, b1, b2⟩ := evOps_trace _ _ _ _ _ e2
  obtain ⟨u3, c0, c1, c2⟩ := evOps_trace _ _ _ _ _ e3
  have l1 : ((lflags ops.toList).take j).length = j := by rw [List.length_take]; omega
  have l2 : (((lflags ops.toList).drop j).take 1).length = 1 := by rw [List.length_take, List.length_drop]; omega
  have l3 : ((lflags ops.toList).drop (Nat.succ j)).length = ops.size - (j + 1) := by rw [List.length_drop, hlen]
  rw [l1] at a1
  rw [l2] at b1
  rw [l3] at c1
  obtain ⟨v1, d0, d1, d2⟩ := trace_app (l1 := ((lflags ops.toList).drop j).take 1) (l2 := (lflags ops.toList).drop (Nat.succ j)) (tr1 := u2) (tr2 := u3) (by rw [l2, b1, c0]) b2 c2
  rw [l2] at d0 d1
  obtain ⟨tr, t0, t1, t2⟩ := trace_app (l1 := (lflags ops.toList).take j) (l2 := ((lflags ops.toList).drop j).take 1 ++ (lflags ops.toList).drop (Nat.succ j)) (tr1 := u1) (tr2 := v1) (by rw [l1, a1, d0 0 (by omega), b0]) a2 d2
  rw [l1] at t0 t1
  have hcat : (lflags ops.toList).take j ++ (((lflags ops.toList).drop j).take 1 ++ (lflags ops.toList).drop (Nat.succ j)) = lflags ops.toList := by
    rw [show (lflags ops.toList).drop (Nat.succ j) = ((lflags ops.toList).drop j).drop 1 by rw [List.drop_drop], List.take_append_drop, List.take_append_drop]
  rw [hcat] at t2
  have T0 : tr 0 = (⟨ps, []⟩, m) := by rw [t0 0 (by omega), a0]
  have Tj : tr j = (fr1, m1) := by rw [t0 j (Nat.le_refl _), a1]
  have Tj1 : tr (j + 1) = (fr2, m2) := by rw [t1 1, d0 1 (Nat.le_refl _), b1]
  have Te : tr ops.size = (fr3, m3) := by rw [show ops.size = j + (1 + (ops.size - (j + 1))) by omega, t1, d1, c1]
  have rows := fun i o f (hi : (lflags ops.toList)[i]? = some (o, f)) => allTwo_iff hrows i o f hi
  have hbit : ∀ (i k : Nat) (x o : Oper) (f g : Bool), i < k → (lflags ops.toList)[i]? = some (x, f) → (lflags ops.toList)[k]? = some (o, g) →
      (clash ops.toList x o || (((g && !(Nat.beq k j && isFree x)) || f) && (!(pureKind x.op) && !(pureKind o.op)))) = true → bit (masks ops.toList []) k i = true := fun i k x o f g hik hx ho hcond => by
    obtain ⟨⟨q, hq1, hrw⟩, _⟩ := rows k o g ho
    rw [Nat.zero_add] at hq1 hrw
    have := rowTwo_iff hrw i x f (by rw [List.getElem?_take, if_pos hik]; exact hx) hcond
    rw [Nat.zero_add] at this
    simp [bit, hq1, this]
  have hG : GFacts G K ops tr (lflags ops.toList) := by
    refine ⟨lflags_fst _, fun i o ho e he hb => ?_, fun i k x f o g hik hx ho hcl => hbit i k x o f g hik hx ho (by rw [hcl]; rfl), fun i k x f o g hik hx ho hfg hp hp' => ?_⟩
    · have hl : (lflags ops.toList)[i]?.map (·.1) = some o := by rw [← List.getElem?_map, lflags_fst]; exact ho
      obtain ⟨⟨o', f⟩, h1, rfl⟩ := Option.map_eq_some_iff.1 hl
      have := (rows i o' f h1).2
      rw [Nat.zero_add] at this
      exact edgesOk_iff this e (by simpa using he) hb
    · by_cases hfree : (Nat.beq k j && isFree x) = true ∧ f = false
      · obtain ⟨hkf, rfl⟩ := hfree
        rw [Bool.and_eq_true] at hkf
        obtain ⟨hkj, hfr⟩ := hkf
        obtain rfl := Nat.eq_of_beq_eq_true hkj
        cases hb : bit (masks ops.toList []) k i with
        | true => exact .inl rfl
        | false =>
          obtain ⟨ad, had⟩ : ∃ ad, freeL x = some ad := by
            unfold isFree at hfr
            split at hfr
            · exact ⟨_, by assumption⟩
            · cases hfr
          obtain ⟨t, hop⟩ := freeL_load had
          have hxo : ops.toList[i]? = some x := by
            have hl : (lflags ops.toList)[i]?.map (·.1) = some x := by rw [hx]; rfl
            rwa [← List.getElem?_map, lflags_fst] at hl
          refine .inr ⟨rfl, ⟨t, ad, hop⟩, fun b hLB => ?_⟩
          obtain ⟨⟨q, hq1, _⟩, _⟩ := rows k o g ho
          rw [Nat.zero_add] at hq1
          have hmem : ad ∈ lateAddrs ops.toList k := by
            unfold lateAddrs
            have h9 : lget (masks ops.toList []) k = some q := by rw [lget_eq]; exact hq1
            rw [h9]
            refine lateRow_mem (i := i) had (by rw [List.getElem?_take, if_pos hik]; exact hxo) ?_
            rw [Nat.zero_add]
            have := hb
            unfold bit at this
            rw [h9] at this
            exact this
          obtain ⟨b', off', hev, hrd⟩ := smAll_mem hsm hmem
          obtain ⟨o', t', x', off, ho', hop', hev'⟩ := hLB
          have hoo : o' = x := by
            have : ops[i]? = some x := by simpa using hxo
            rw [this] at ho'
            cases ho'
            rfl
          subst hoo
          rw [hop] at hop'
          cases hop'
          have hsame : aeval G (fget K (tr k).1) ad = aeval G (fget K (tr i).1) ad := by
            cases ad with
            | tmp tt =>
              have := nowrite0 (lflags_fst ops.toList) t2 (t := tt) (p := i) k (by omega) (by simp; omega) fun q y h1 h2 hy => stab2_get (i := i) (j := q) hstab hxo had h1 hy
              simp only [aeval, this]
            | const _ => rfl
            | global _ => rfl
            | func _ => rfl
          rw [Tj] at hsame
          rw [hsame, hev'] at hev
          cases hev
          rw [Tj, Tj1]
          exact hrd.symm
      · refine .inl (hbit i k x o f g hik hx ho ?_)
        have hcond : ((g && !(Nat.beq k j && isFree x)) || f) = true := by
          cases f with
          | true => simp
          | false =>
            rcases hfg with h | h
            · cases h
            · rw [h]
              cases hz : (Nat.beq k j && isFree x) with
              | true => exact absurd ⟨hz, rfl⟩ hfree
              | false => rfl
        rw [hcond, hp, hp']
        simp
  have ht : Txt P G R B L call ops N K tr (lflags ops.toList) := ⟨hG, t2, by rw [T0]; exact hr.ok, hc, by rw [T0]; exact hL⟩
  exact txt_wp hP hc tr ht hR T0 Te hr hU hf0 hN hq
theorem evRegion_ok (hP : Prog P) (hc : CallOk P G R B call) {N : Nat} {K : List Nat} {ops : Array Oper} {id : Nat} {draw : Bool} (hR : R ≤ L) {Q : Exit → Act → World → Prop} {fr fr' : Fr} {m m' : Mem} {e : Nat} {ι : Inj} {a : Act} {w : World}
    (h : evRegion P G N K call L ops.toList draw fr m = some (e, (fr', m'))) (hr : Rel G R B U ι m w) (hL : L ≤ m.next) (hU : m'.next ≤ U) (hf : FR ι (fget K fr) a) (hN : N ≤ a.tmps.size)
    (hq : ∀ κ a' w', Rel G R B U κ m' w' → FR κ (fget K fr') a' → a'.tmps.size = a.tmps.size → a'.defers = a.defers → Step L ι m w κ m' w' → Q (exOf e) a' w') : (Code.region id ops draw).wpIn (fen ro) 0 P Q a w := by
  unfold evRegion at h
  split at h
  · exact evRegion1_ok hP hc hR h hr hL hU hf hN hq
  · split at h
    · exact evRegion1_ok hP hc hR h hr hL hU hf hN hq
    · rename_i hcut
      exact evLate_ok hP hc hR hcut h hr hL hU hf hN hq

theorem loopN_ext {body : Fr → Mem → Out} (hb : ∀ fr m e fr' m', m.ok → L ≤ m.next → body fr m = some (e, (fr', m')) → Ext L m m') {e : Nat} {fr' : Fr} {m' : Mem} : ∀ n fr m, m.ok → L ≤ m.next → loopN body n fr m = some (e, (fr', m')) → Ext L m m'
  | 0, fr, m, hm, hL, h => by cases h
  | n + 1, fr, m, hm, hL, h => by
    simp only [loopN] at h
    split at h
    · rename_i e1 fr1 m1 h1
      have g1 := hb _ _ _ _ _ hm hL h1
      split at h
      · exact g1.trans (loopN_ext hb n _ _ g1.ok (Nat.le_trans hL g1.next) h)
      · cases h; exact g1
    · cases h

theorem Mem.new_ext {L : Nat} {m m' : Mem} {k : Blk} (h : m.new k = some m') (hL : L ≤ m.next) : Ext L m m' :=
  ⟨by have := Mem.new_next h; omega, Mem.new_ok h, fun b _ hb => Mem.rd_new_lt h hb⟩
theorem Mem.put_ext {L y : Nat} {m : Mem} {k : Option Blk} (hm : m.ok) (hy : y < m.next) (hL : L ≤ y) : Ext L m (m.put y k) :=
  ⟨Nat.le_refl _, Mem.put_ok hm y k, fun b hb _ => Mem.rd_put_ne hm k hy (by omega)⟩
theorem loopB_some {m : Mem} {y s : Nat} {cs : List Value} (h : loopB m y s = some cs) : ∃ es, m.rd y = some ⟨s, cs, some es⟩ := by
  unfold loopB at h
  split at h
  · rename_i k hk
    split at h
    · rename_i es hes
      split at h
      · rename_i hb
        have := Nat.eq_of_beq_eq_true hb
        cases h
        obtain ⟨e1, e2, e3⟩ := k
        simp only at this hes
        subst this
        subst hes
        exact ⟨es, hk⟩
      · cases h
    · cases h
  · cases h
theorem oRange0_some {call : CallT} {f : Nat} {vf : Value} {vs : List Value} {L : Nat} {m m' : Mem} (h : oRange0 call f vf vs L m = some m') :
    ∃ g cs m1 v m2 cs2, atarget vf = some (g, cs) ∧ m.new ⟨Nat.succ (Nat.mul 2 f), vs, some []⟩ = some m1 ∧ call g (.func (.yield m.next) #[] #[] :: cs) L m1 = some (v, m2) ∧ loopB m2 m.next (Nat.succ (Nat.mul 2 f)) = some cs2 ∧ m' = m2.put m.next none := by
  unfold oRange0 at h
  split at h
  · cases h
  · rename_i g cs htg
    simp only [natK_eq] at h
    split at h
    · cases h
    · rename_i m1 hm1
      split at h
      · cases h
      · rename_i v m2 hx
        split at h
        · cases h
        · rename_i cs2 hl
          cases h
          exact ⟨g, cs, m1, v, m2, cs2, htg, hm1, hx, hl, rfl⟩
theorem oRange0_ext (hc : CallOk P G R B call) {f : Nat} {vf : Value} {vs : List Value} {m m' : Mem} (hm : m.ok) (hL : L ≤ m.next) (h : oRange0 call f vf vs L m = some m') : Ext L m m' := by
  obtain ⟨g, cs, m1, v, m2, cs2, htg, hm1, hx, hl, rfl⟩ := oRange0_some h
  have g1 := Mem.new_ext hm1 hL
  have g2 := hc.ext _ _ _ _ _ _ g1.ok (Nat.le_trans hL g1.next) hx
  obtain ⟨es, hrd⟩ := loopB_some hl
  exact (g1.trans g2).trans (Mem.put_ext g2.ok (Mem.rd_lt hrd) hL)
theorem getsK_some {K : List Nat} {fr : Fr} : ∀ (l : List Nat) (vs : List Value), getsK K fr l = some vs → vs.length = l.length ∧ ∀ (j t : Nat) (v : Value), l[j]? = some t → vs[j]? = some v → fget K fr t = some v
  | [], vs, h => by cases h; exact ⟨rfl, fun j t v hj => by cases hj⟩
  | x :: l, vs, h => by
    simp only [getsK] at h
    split at h
    · rename_i v hv
      split at h
      · rename_i ws hws
        cases h
        obtain ⟨h1, h2⟩ := getsK_some l ws hws
        refine ⟨by simp [h1], fun j t u hj hu => ?_⟩
        cases j with
        | zero =>
          simp only [List.getElem?_cons_zero, Option.some.injEq] at hj hu
          subst hj; subst hu
          exact hv
        | succ j => exact h2 j t u (by simpa using hj) (by simpa using hu)
      · cases h
    · cases h
/-- What a code's loops over functions are. -/
def XOk (B : Base) (ro : Option Nat) (N : Nat) (X : Option (Nat × LInfo)) (c : Code) : Prop :=
  ∀ f i, X = some (f, i) → ro = none ∧ B.lt f = some i ∧ i.n ≤ N ∧ ∀ x, x ∈ rfs c → x = (i.ps, (i.assign, i.body))
theorem XOk.none {ro : Option Nat} {N : Nat} {c : Code} : XOk B ro N none c := fun f i h => by cases h
theorem XOk.sub {ro : Option Nat} {N : Nat} {X : Option (Nat × LInfo)} {c d : Code} (h : XOk B ro N X c) (hs : ∀ x, x ∈ rfs d → x ∈ rfs c) : XOk B ro N X d := fun f i hx =>
  let ⟨h1, h2, h3, h4⟩ := h f i hx
  ⟨h1, h2, h3, fun x hxd => h4 x (hs x hxd)⟩

theorem rec_rel {ι ι' : Inj} {K : List Nat} {fr : Fr} {a : Act} {f : Nat} {i : LInfo} {r : Loop} {vs : List Value} {N : Nat} (hB : B.lt f = some i) (hp1 : r.params.toList = i.ps) (hp2 : r.assign = i.assign) (hp3 : r.body = i.body) (hst : r.state = .ready) (hpe : r.pending = none)
    (ht : r.tmps = a.tmps) (hn : i.n ≤ N) (hN : N ≤ a.tmps.size) (hg : getsK K fr i.fs = some vs) (hf : FR ι (fget K fr) a) (hle : ι.le ι') : ObjRel B ι' ⟨Nat.succ (Nat.mul 2 f), vs, some []⟩ [] (some (.loop r)) := by
  obtain ⟨q1, q2⟩ := getsK_some _ _ hg
  have hdiv : Nat.div (Nat.mul 2 f) 2 = f := by show 2 * f / 2 = f; omega
  have hmod : Nat.mod (Nat.mul 2 f) 2 = 0 := by show 2 * f % 2 = 0; omega
  exact ⟨r, i, rfl, ⟨by rw [hdiv]; exact hB, hp1, hp2, hp3, hpe, by rw [hst, if_pos hmod], by rw [ht]; omega, q1, fun j t v hj hv => by rw [ht]; exact (hf t v (q2 j t v hj hv)).mono hle⟩⟩
theorem rec_ready {ι : Inj} {f : Nat} {k : Blk} {es : List (Value × Value)} {o : Option Obj} (hk : k.esz = Nat.succ (Nat.mul 2 f)) (h : ObjRel B ι k es o) : ∃ r i, o = some (.loop r) ∧ LoopRel B ι (Nat.mul 2 f) k.cells r i ∧ r.state = .ready ∧ r.pending = none := by
  unfold ObjRel at h
  rw [hk] at h
  obtain ⟨r, i, h1, h2⟩ := h
  have hmod : Nat.mod (Nat.mul 2 f) 2 = 0 := by show 2 * f % 2 = 0; omega
  exact ⟨r, i, h1, h2, by have := h2.state; rwa [if_pos hmod] at this, h2.pending⟩
theorem range_ok (hP : Prog P) (hc : CallOk P G R B call) (hR : R ≤ L) {N : Nat} {K : List Nat} {f : Nat} {i : LInfo} {g : Operand} {ps : Array Tmp} {as bd : Code} (hB : B.lt f = some i) (hps : (ps.toList, (as, bd)) = (i.ps, (i.assign, i.body))) (hn : i.n ≤ N)
    {Q : Exit → Act → World → Prop} {fr : Fr} {m m' : Mem} {ι : Inj} {a : Act} {w : World} {vf : Value} {vs : List Value} (hv : aeval G (fget K fr) g = some vf) (hg : getsK K fr i.fs = some vs) (h : oRange0 call f vf vs L m = some m')
    (hr : Rel G R B U ι m w) (hL : L ≤ m.next) (hU : m'.next ≤ U) (hf : FR ι (fget K fr) a) (hN : N ≤ a.tmps.size)
    (hq : ∀ κ a' w', Rel G R B U κ m' w' → FR κ (fget K fr) a' → a'.tmps.size = a.tmps.size → Df κ w w' a.defers a'.defers → Step L ι m w κ m' w' → Q .normal a' w') : (Code.rangeFunc g ps as bd).wpIn (fen none) 0 P Q a w := by
  obtain ⟨h0, cs, m1, v, m2, cs2, htg, hm1, hx, hl, rfl⟩ := oRange0_some h
  simp only [Prod.mk.injEq] at hps
  obtain ⟨hp1, hp2, hp3⟩ := hps
  have hv' := aeval_ok hr.gl hf hv
  obtain ⟨first, cs', rfl, rfl, hglt⟩ := atarget_some htg
  have : ∃ ds, a.eval g = .func (.func h0) #[] ds ∧ VL ι cs'.toList ds.toList := by
    generalize a.eval g = y at hv'
    cases hv' with
    | func _ _ ds hs hh => exact ⟨ds, rfl, by simpa using hs, fun i v u h1 h2 => hh i v u (by simpa using h1) (by simpa using h2)⟩
  obtain ⟨ds, hgv, hds⟩ := this
  obtain ⟨fnc, hfn, hbod⟩ := hc.fn _ _ _ _ _ _ hglt hx
  have hnoc := hP.noCount _ _ hfn
  have n1 := Mem.new_next hm1
  have x1 : Ext L m m1 := Mem.new_ext hm1 hL
  have x2 := hc.ext _ _ _ _ _ _ x1.ok (Nat.le_trans hL x1.next) hx
  have hU2 : m2.next ≤ U := hU
  have x2n := x2.next
  obtain ⟨es2, hrd2⟩ := loopB_some hl
  obtain ⟨q1, q2⟩ := getsK_some _ _ hg
  refine wpIn_rangeFunc fun fn _ => ?_
  obtain ⟨r1, s1⟩ := hr.spare (.deferred (some [])) L
  have hz1 : (w.alloc (.deferred (some []))).heap.size = w.heap.size + 1 := by simp
  have hfresh : ι.le (ι.upd m.next ⟨(w.alloc (.deferred (some []))).heap.size, 0, 0⟩) := Inj.le_upd (by
      cases hi : ι m.next with
      | none => rfl
      | some e => have := r1.dom _ _ hi; omega) _
  obtain ⟨r2, s2⟩ := r1.allocObj (.loop { state := .ready, pending := none, fn, tmps := a.tmps, params := ps, assign := as, body := bd, defers := w.heap.size }) hm1 (by omega) rfl
    (rec_rel (N := N) (a := a) hB hp1 hp2 hp3 rfl rfl rfl hn hN hg hf hfresh)
  have s2 := s2 L hL
  rw [hz1] at r2 s2
  generalize hκ : ι.upd m.next ⟨w.heap.size + 1, 0, 0⟩ = ι1 at r2 s2
  have hy1 : ι1 m.next = some ⟨w.heap.size + 1, 0, 0⟩ := by rw [← hκ]; exact Inj.upd_same _ _ _
  have hle1 : ι.le ι1 := s2.le
  have low1 : ∀ b e, ι1 b = some e → e.cb ≠ w.heap.size := fun b e hb => by
    rw [← hκ] at hb
    by_cases hbm : b = m.next
    · subst hbm; rw [Inj.upd_same] at hb; cases hb; show w.heap.size + 1 ≠ w.heap.size; omega
    · rw [Inj.upd_ne _ _ hbm] at hb
      exact Nat.ne_of_lt (hr.size b e hb)
  generalize hw1 : (w.alloc (.deferred (some []))).alloc (.loop { state := .ready, pending := none, fn, tmps := a.tmps, params := ps, assign := as, body := bd, defers := w.heap.size }) = w1 at r2 s2
  have hwh : w1.heap[w.heap.size]? = some (.deferred (some [])) := by
    rw [← hw1, heapAllocOld _ _ (by rw [hz1]; omega), heapAllocNew]
  have hws : w1.heap.size = w.heap.size + 2 := by rw [← hw1]; simp
  have hcall := hc.ok _ _ _ _ _ _ hglt hx U ι1 w1 (#[.func (.yield (w.heap.size + 1)) #[] #[]] ++ ds) r2 hR (Nat.le_trans hL x1.next) hU2
    (by rw [Array.toList_append]; exact VL.cons (.yield _ _ hy1) (hds.mono hle1))
  have hprog : Sem.run P program w1 = .ok P w1 := rfl
  have hnoc' : ¬ fnc.name = "runtime.NumGoroutine" := by simpa using hnoc
  have hbod' : ¬ fnc.body = none := fun e => by rw [e] at hbod; cases hbod
  refine ⟨w.heap.size + 1, [markOf w.heap.size], w1, { target := .fn (.func h0) ds, args := #[.func (.yield (w.heap.size + 1)) #[] #[]] }, w1, h0, #[.func (.yield (w.heap.size + 1)) #[] #[]] ++ ds, w1, ?_, ?_, fun _ _ => trivial, ?_, fun hd => (by cases hd), ?_⟩
  · rw [← hw1]; exact run_enterLoop_outer fn a.tmps ps as bd
  · have hcst : a.eval (.const (.func (.yield (w.heap.size + 1)) #[] #[])) = .func (.yield (w.heap.size + 1)) #[] #[] := rfl
    simp [resolve, rangeCall, hgv, Deferred.ofValue, hcst]
  · simp [invoke, callFunc, hprog, hfn, hnoc', hbod']
  · refine callsIn_fen (Calls.mono hcall ?_)
    intro e w' hh
    obtain ⟨u, κ, rfl, k1, k2, k3⟩ := hh
    have hy2 := k3.le _ _ hy1
    have hobj := k2.maps m.next _ _ es2 hy2 hrd2 rfl
    obtain ⟨rr, ii, o1, o2, hst, hpend⟩ := rec_ready rfl hobj
    have hend := run_endLoop (P := P) o1 (by rw [hst]; decide)
    refine ⟨rr.pending, _, hend, ?_⟩
    split
    case h_2 => rename_i c hc; rw [hpend] at hc; cases hc
    obtain ⟨t1, t2⟩ := k2.setObj (Nat.le_trans hR hL) hy2 hrd2 (k2 := none) (.loop { rr with state := .exhausted }) (fun k' hk' => by cases hk')
    have t2 := t2 L hL
    have hsz : w1.heap.size ≤ w'.heap.size := k3.size
    refine hq κ _ _ t1 (fun t v hv => (hf t v hv).mono (Inj.le_trans hle1 k3.le)) rfl ⟨[w.heap.size], by simp, rfl, fun x hx => ?_⟩ (((s1.trans s2).trans k3).trans t2)
    rw [List.mem_singleton] at hx
    subst hx
    refine ⟨Nat.le_refl _, ?_, fun b e hb => ?_⟩
    · rw [World.putObj_heap_other (by show w.heap.size ≠ w.heap.size + 1; omega), k3.block _ (by omega) fun b e _ _ hb => low1 b e hb]
      exact hwh
    · cases hi : ι1 b with
      | some e' =>
        have := k3.le _ _ hi
        rw [hb] at this
        cases this
        exact low1 b e hi
      | none =>
        obtain ⟨_, _, r3⟩ := k3.fresh b e hb hi
        rcases r3 with r3 | ⟨b0, e0, _, _, r4, r5⟩
        · omega
        · rw [← r5]; exact low1 b0 e0 r4

theorem ev_ext (hc : CallOk P G R B call) {X : Option (Nat × LInfo)} {N : Nat} {K : List Nat} {lf : Nat} : ∀ (c : Code) (fr : Fr) (m : Mem) (e : Nat) (fr' : Fr) (m' : Mem), m.ok → L ≤ m.next → ev P X G N K call lf L c fr m = some (e, (fr', m')) → Ext L m m' := by
  intro c
  induction c with
  | skip => intro fr m e fr' m' hm hL h; cases h; exact Ext.refl hm
  | region id ops draw => intro fr m e fr' m' hm hL h; exact evRegion_ext hc hm hL h
  | seq a b iha ihb =>
    intro fr m e fr' m' hm hL h
    simp only [ev] at h
    split at h
    · rename_i e1 fr1 m1 h1
      have g1 := iha _ _ _ _ _ hm hL h1
      split at h
      · exact g1.trans (ihb _ _ _ _ _ g1.ok (Nat.le_trans hL g1.next) h)
      · cases h; exact g1
    · cases h
  | cond c a b iha ihb =>
    intro fr m e fr' m' hm hL h
    simp only [ev] at h
    split at h
    · exact iha _ _ _ _ _ hm hL h
    · exact ihb _ _ _ _ _ hm hL h
    · cases h
  | block id body ih =>
    intro fr m e fr' m' hm hL h
    simp only [ev] at h
    split at h
    · rename_i e1 fr1 m1 h1
      have g1 := ih _ _ _ _ _ hm hL h1
      split at h <;> (cases h; exact g1)
    · cases h
  | loop body ih =>
    intro fr m e fr' m' hm hL h
    simp only [ev] at h
    exact loopN_ext (fun fr m e fr' m' => ih fr m e fr' m') lf fr m hm hL h
  | exit id => intro fr m e fr' m' hm hL h; cases h; exact Ext.refl hm
  | ret => intro fr m e fr' m' hm hL h; cases h; exact Ext.refl hm
  | label l => intro fr m e fr' m' hm hL h; cases h; exact Ext.refl hm
  | goto l => intro fr m e fr' m' hm hL h; cases h; exact Ext.refl hm
  | rangeFunc g ps as bd =>
    intro fr m e fr' m' hm hL h
    simp only [ev] at h
    split at h
    · cases h
    · split at h
      · cases h
      · split at h
        · cases h
        · split at h
          · cases h
          · rename_i hx
            cases h
            exact oRange0_ext hc hm hL hx
  | _ => intros; rename_i h; cases h

theorem exOf_succ {k : Nat} : exOf (Nat.succ k) ≠ .normal := by
  cases k with
  | zero => simp [exOf]
  | succ k => simp only [exOf]; split <;> simp

theorem ev_ok (hP : Prog P) (hc : CallOk P G R B call) {X : Option (Nat × LInfo)} {N : Nat} {K : List Nat} {lf : Nat} (hR : R ≤ L) : ∀ (c : Code), XOk B ro N X c → ∀ (Q : Exit → Act → World → Prop) (fr : Fr) (m : Mem) (e : Nat) (fr' : Fr) (m' : Mem) (ι : Inj) (a : Act) (w : World),
    ev P X G N K call lf L c fr m = some (e, (fr', m')) → Rel G R B U ι m w → L ≤ m.next → m'.next ≤ U → FR ι (fget K fr) a → N ≤ a.tmps.size →
    (∀ κ a' w', Rel G R B U κ m' w' → FR κ (fget K fr') a' → a'.tmps.size = a.tmps.size → Df κ w w' a.defers a'.defers → Step L ι m w κ m' w' → Q (exOf e) a' w') → c.wpIn (fen ro) 0 P Q a w := by
  intro c
  induction c with
  | skip => intro hX Q fr m e fr' m' ι a w h hr hL hU hf hN hq; cases h; exact wpIn_skip (hq ι a w hr hf rfl (Df.of_eq rfl) (Step.refl' _ _ _ _))
  | region id ops draw => intro hX Q fr m e fr' m' ι a w h hr hL hU hf hN hq; exact evRegion_ok hP hc hR h hr hL hU hf hN fun κ a' w' g1 g2 g3 g4 g5 => hq κ a' w' g1 g2 g3 (Df.of_eq g4) g5
  | seq x y ihx ihy =>
    intro hX Q fr m e fr' m' ι a w h hr hL hU hf hN hq
    simp only [ev] at h
    split at h
    · rename_i e1 fr1 m1 h1
      have g1 := ev_ext hc x _ _ _ _ _ hr.ok hL h1
      have hL1 := Nat.le_trans hL g1.next
      split at h
      · have g2 := ev_ext hc y _ _ _ _ _ g1.ok hL1 h
        refine wpIn_seq (ihx (hX.sub fun x hx => List.mem_append_left _ hx) _ fr m 0 fr1 m1 ι a w h1 hr hL (Nat.le_trans g2.next hU) hf hN fun κ a' w' k1 k2 k3 k4 k5 => ?_)
        exact ihy (hX.sub fun x hx => List.mem_append_right _ hx) Q fr1 m1 e fr' m' κ a' w' h k1 hL1 hU k2 (by omega) fun κ' a'' w'' j1 j2 j3 j4 j5 => hq κ' a'' w'' j1 j2 (by omega) (k4.trans j5 j4 k5.size) (k5.trans j5)
      · rename_i k
        simp only [Option.some.injEq, Prod.mk.injEq] at h
        obtain ⟨rfl, rfl, rfl⟩ := h
        refine wpIn_seq (ihx (hX.sub fun x hx => List.mem_append_left _ hx) _ fr m (Nat.succ k) fr1 m1 ι a w h1 hr hL hU hf hN fun κ a' w' k1 k2 k3 k4 k5 => ?_)
        have := hq κ a' w' k1 k2 k3 k4 k5
        have hne := @exOf_succ k
        generalize exOf (Nat.succ k) = x at this hne
        cases x <;> first | exact absurd rfl hne | exact this
    · cases h
  | cond c x y ihx ihy =>
    intro hX Q fr m e fr' m' ι a w h hr hL hU hf hN hq
    simp only [ev] at h
    have hcv : ∀ b, aeval G (fget K fr) c = some (.bool b) → a.eval c = .bool b := fun b hb => by
      have := aeval_ok hr.gl hf hb
      generalize a.eval c = z at this
      cases this; rfl
    split at h
    · rename_i hb
      exact wpIn_cond (t := true) (hcv _ hb) (ihx (hX.sub fun x hx => List.mem_append_left _ hx) Q fr m e fr' m' ι a w h hr hL hU hf hN hq)
    · rename_i hb
      exact wpIn_cond (t := false) (hcv _ hb) (ihy (hX.sub fun x hx => List.mem_append_right _ hx) Q fr m e fr' m' ι a w h hr hL hU hf hN hq)
    · cases h
  | block id body ih =>
    intro hX Q fr m e fr' m' ι a w h hr hL hU hf hN hq
    simp only [ev] at h
    split at h
    · rename_i e1 fr1 m1 h1
      refine wpIn_block ?_
      split at h
      · rename_i he
        have he' : e1 = 2 * id + 2 := Nat.eq_of_beq_eq_true he
        simp only [Option.some.injEq, Prod.mk.injEq] at h
        obtain ⟨rfl, rfl, rfl⟩ := h
        refine ih (hX.sub fun x hx => hx) _ fr m e1 fr1 m1 ι a w h1 hr hL hU hf hN fun κ a' w' k1 k2 k3 k4 k5 => ?_
        have : Q .normal a' w' := hq κ a' w' k1 k2 k3 k4 k5
        have hex : exOf e1 = .exit id := by
          rw [he']
          show (if 2 * id % 2 = 0 then Exit.exit (2 * id / 2) else _) = _
          rw [if_pos (by omega)]
          congr 1; omega
        rw [hex]
        simp only [Exit.inBlock, if_true]
        exact this
      · rename_i he
        have he' : e1 ≠ 2 * id + 2 := Nat.ne_of_beq_eq_false he
        simp only [Option.some.injEq, Prod.mk.injEq] at h
        obtain ⟨rfl, rfl, rfl⟩ := h
        refine ih (hX.sub fun x hx => hx) _ fr m e1 fr1 m1 ι a w h1 hr hL hU hf hN fun κ a' w' k1 k2 k3 k4 k5 => ?_
        have := hq κ a' w' k1 k2 k3 k4 k5
        have hne : ∀ id', exOf e1 = .exit id' → id' ≠ id := fun id' hx => by
          intro hid
          subst hid
          match e1, hx, he' with
          | 0, hx, _ => cases hx
          | 1, hx, _ => cases hx
          | k + 2, hx, he' =>
            simp only [exOf] at hx
            split at hx
            · cases hx; omega
            · cases hx
        generalize exOf e1 = x at this hne
        cases x with
        | exit id' =>
          simp only [Exit.inBlock, if_neg (hne id' rfl)]
          exact this
        | _ => exact this
    · cases h
  | loop body ih =>
    intro hX Q fr m e fr' m' ι a w h hr hL hU hf hN hq
    simp only [ev] at h
    have key : ∀ n fr m ι a w, loopN (ev P X G N K call lf L body) n fr m = some (e, (fr', m')) → Rel G R B U ι m w → L ≤ m.next → FR ι (fget K fr) a → N ≤ a.tmps.size →
        (∀ κ a' w', Rel G R B U κ m' w' → FR κ (fget K fr') a' → a'.tmps.size = a.tmps.size → Df κ w w' a.defers a'.defers → Step L ι m w κ m' w' → Q (exOf e) a' w') → Code.roundsIn (fen ro) 0 P body Q n a w := by
      intro n
      induction n with
      | zero => intro fr m ι a w h; cases h
      | succ n ihn =>
        intro fr m ι a w h hr hL hf hN hq
        simp only [loopN] at h
        rw [roundsIn_succ]
        split at h
        · rename_i e1 fr1 m1 h1
          have g1 := ev_ext hc body _ _ _ _ _ hr.ok hL h1
          have hL1 := Nat.le_trans hL g1.next
          split at h
          · have g2 : Ext L m1 m' := loopN_ext (fun fr m e fr' m' hm hl hb => ev_ext hc body fr m e fr' m' hm hl hb) n fr1 m1 g1.ok hL1 h
            refine ih (hX.sub fun x hx => hx) _ fr m 0 fr1 m1 ι a w h1 hr hL (Nat.le_trans g2.next hU) hf hN fun κ a' w' k1 k2 k3 k4 k5 => ?_
            exact ihn fr1 m1 κ a' w' h k1 hL1 k2 (by omega) fun κ' a'' w'' j1 j2 j3 j4 j5 => hq κ' a'' w'' j1 j2 (by omega) (k4.trans j5 j4 k5.size) (k5.trans j5)
          · rename_i k
            simp only [Option.some.injEq, Prod.mk.injEq] at h
            obtain ⟨rfl, rfl, rfl⟩ := h
            refine ih (hX.sub fun x hx => hx) _ fr m (Nat.succ k) fr1 m1 ι a w h1 hr hL hU hf hN fun κ a' w' k1 k2 k3 k4 k5 => ?_
            have := hq κ a' w' k1 k2 k3 k4 k5
            have hne := @exOf_succ k
            generalize exOf (Nat.succ k) = x at this hne
            cases x <;> first | exact absurd rfl hne | exact this
        · cases h
    exact wpIn_loop_rounds lf (key lf fr m ι a w h hr hL hf hN hq)
  | exit id =>
    intro hX Q fr m e fr' m' ι a w h hr hL hU hf hN hq
    simp only [ev, Option.some.injEq, Prod.mk.injEq] at h
    obtain ⟨rfl, rfl, rfl⟩ := h
    have := hq ι a w hr hf rfl (Df.of_eq rfl) (Step.refl' _ _ _ _)
    have hex : exOf (Nat.succ (Nat.succ (Nat.mul 2 id))) = .exit id := by
      show (if 2 * id % 2 = 0 then Exit.exit (2 * id / 2) else _) = _
      rw [if_pos (by omega)]
      congr 1; omega
    rw [hex] at this
    exact wpIn_exit this
  | ret => intro hX Q fr m e fr' m' ι a w h hr hL hU hf hN hq; cases h; exact wpIn_ret (hq ι a w hr hf rfl (Df.of_eq rfl) (Step.refl' _ _ _ _))
  | label l => intro hX Q fr m e fr' m' ι a w h hr hL hU hf hN hq; cases h; exact wpIn_label (hq ι a w hr hf rfl (Df.of_eq rfl) (Step.refl' _ _ _ _))
  | goto l =>
    intro hX Q fr m e fr' m' ι a w h hr hL hU hf hN hq
    simp only [ev, Option.some.injEq, Prod.mk.injEq] at h
    obtain ⟨rfl, rfl, rfl⟩ := h
    have := hq ι a w hr hf rfl (Df.of_eq rfl) (Step.refl' _ _ _ _)
    have hex : exOf (Nat.succ (Nat.succ (Nat.succ (Nat.mul 2 l)))) = .goto l := by
      show (if (2 * l + 1) % 2 = 0 then Exit.exit ((2 * l + 1) / 2) else .goto ((2 * l + 1) / 2)) = _
      rw [if_neg (by omega)]
      congr 1; omega
    rw [hex] at this
    exact wpIn_goto this
  | rangeFunc g ps as bd iha ihb =>
    intro hX Q fr m e fr' m' ι a w h hr hL hU hf hN hq
    simp only [ev] at h
    split at h
    · cases h
    · rename_i f i
      obtain ⟨rfl, hB, hn, hx⟩ := hX f i rfl
      split at h
      · cases h
      · rename_i vf hv
        split at h
        · cases h
        · rename_i vs hg
          split at h
          · cases h
          · rename_i m1 hr0
            cases h
            exact range_ok hP hc hR hB (hx _ (List.mem_singleton.2 rfl)) hn hv hg hr0 hr hL hU hf hN hq
  | _ => intros; rename_i h _ _ _ _ _ _; cases h

/-- So many jumps within a scope. -/
def scopeWp (P : Program) (c : Code) (Q : Exit → Act → World → Prop) : Nat → Code → Act → World → Prop
  | 0, _, _, _ => False
  | n + 1, d, a, w => d.wp P (fun e a w => match e with
    | .goto l => ∃ rest, findLabel c l = some rest ∧ scopeWp P c Q n rest a w
    | e => Q e a w) a w
theorem wp_scope_n {c : Code} {Q : Exit → Act → World → Prop} {n : Nat} {a : Act} {w : World} (h : scopeWp P c Q n c a w) : (Code.scope c).wp P Q a w := by
  intro b k cs
  have key : ∀ n d a w, scopeWp P c Q n d a w → ∃ e a' w', Q e a' w' ∧ Arrives P (lone (b.at a (.code d :: .inScope c :: k)) cs w) b k cs e a' w' := by
    intro n
    induction n with
    | zero => intro d a w h; exact h.elim
    | succ n ih =>
      intro d a w h
      obtain ⟨e, a₁, w₁, hq, harr⟩ := h b (.inScope c :: k) cs
      cases e with
      | normal => exact ⟨.normal, a₁, w₁, hq, Steps.trans harr (.one step_inScope)⟩
      | exit id => exact ⟨.exit id, a₁, w₁, hq, fun k' hk => harr k' (by simp [exitTo, hk])⟩
      | goto l =>
        obtain ⟨rest, hf, hJ⟩ := hq
        have hg : gotoIn l (.inScope c :: k) = some (.code rest :: .inScope c :: k) := by simp [gotoIn, hf]
        obtain ⟨e₂, a₂, w₂, hq₂, harr₂⟩ := ih _ a₁ w₁ hJ
        exact ⟨e₂, a₂, w₂, hq₂, .of_steps (harr _ hg) harr₂⟩
      | ret => exact ⟨_, a₁, w₁, hq, harr⟩
      | panic ch => exact ⟨_, a₁, w₁, hq, harr⟩
      | outgrown => exact ⟨_, a₁, w₁, hq, harr⟩
  obtain ⟨e, a₁, w₁, hq, harr⟩ := key n c a w h
  exact ⟨e, a₁, w₁, hq, .of_steps (.one step_scope) harr⟩

theorem scopeN_ext (hc : CallOk P G R B call) {X : Option (Nat × LInfo)} {N : Nat} {K : List Nat} {lf : Nat} {c : Code} {e : Nat} {fr' : Fr} {m' : Mem} : ∀ n d fr m, m.ok → L ≤ m.next → scopeN P X G N K call lf L c n d fr m = some (e, (fr', m')) → Ext L m m'
  | 0, d, fr, m, hm, hL, h => by cases h
  | n + 1, d, fr, m, hm, hL, h => by
    simp only [scopeN] at h
    split at h
    · cases h
    · rename_i e1 fr1 m1 h1
      have g1 := ev_ext hc d _ _ _ _ _ hm hL h1
      split at h
      · cases h; exact g1
      · split at h
        · cases h
        · exact g1.trans (scopeN_ext hc n _ _ _ g1.ok (Nat.le_trans hL g1.next) h)
theorem evB_ext (hc : CallOk P G R B call) {X : Option (Nat × LInfo)} {N : Nat} {K : List Nat} {lf : Nat} : ∀ (c : Code) (fr : Fr) (m : Mem) (e : Nat) (fr' : Fr) (m' : Mem), m.ok → L ≤ m.next → evB P X G N K call lf L c fr m = some (e, (fr', m')) → Ext L m m' := by
  intro c
  induction c with
  | scope c _ => intro fr m e fr' m' hm hL h; exact scopeN_ext hc _ _ _ _ hm hL h
  | seq a b _ ihb =>
    intro fr m e fr' m' hm hL h
    simp only [evB] at h
    split at h
    · rename_i e1 fr1 m1 h1
      have g1 := ev_ext hc a _ _ _ _ _ hm hL h1
      split at h
      · exact g1.trans (ihb _ _ _ _ _ g1.ok (Nat.le_trans hL g1.next) h)
      · cases h; exact g1
    · cases h
  | _ => intro fr m e fr' m' hm hL h; exact ev_ext hc _ _ _ _ _ _ hm hL h

theorem gotoOf_some {e l : Nat} (h : gotoOf e = some l) : exOf e = .goto l := by
  unfold gotoOf at h
  split at h
  · rename_i k
    split at h
    · cases h
    · rename_i hk
      cases h
      simp only [exOf, if_neg hk]
  · cases h
theorem gotoOf_none {e : Nat} (h : gotoOf e = none) (l : Nat) : exOf e ≠ .goto l := by
  match e, h with
  | 0, _ => simp [exOf]
  | 1, _ => simp [exOf]
  | k + 2, h =>
    simp only [gotoOf] at h
    split at h
    · rename_i hk; simp [exOf, if_pos hk]
    · cases h

theorem scopeN_ok (hP : Prog P) (hc : CallOk P G R B call) {N : Nat} {K : List Nat} {lf : Nat} (hR : R ≤ L) {c : Code} {Q : Exit → Act → World → Prop} {e : Nat} {fr' : Fr} {m' : Mem} : ∀ n (d : Code) (fr : Fr) (m : Mem) (ι : Inj) (a : Act) (w : World),
    scopeN P none G N K call lf L c n d fr m = some (e, (fr', m')) → Rel G R B U ι m w → L ≤ m.next → m'.next ≤ U → FR ι (fget K fr) a → N ≤ a.tmps.size →
    (∀ κ a' w', Rel G R B U κ m' w' → FR κ (fget K fr') a' → a'.tmps.size = a.tmps.size → Df κ w w' a.defers a'.defers → Step L ι m w κ m' w' → Q (exOf e) a' w') → scopeWp P c Q n d a w := by
  intro n
  induction n with
  | zero => intro d fr m ι a w h; cases h
  | succ n ih =>
    intro d fr m ι a w h hr hL hU hf hN hq
    simp only [scopeN] at h
    show d.wp P _ a w
    split at h
    · cases h
    · rename_i e1 fr1 m1 h1
      have g1 := ev_ext hc d _ _ _ _ _ hr.ok hL h1
      have hL1 := Nat.le_trans hL g1.next
      split at h
      · rename_i hg
        simp only [Option.some.injEq, Prod.mk.injEq] at h
        obtain ⟨rfl, rfl, rfl⟩ := h
        refine (wpIn_wide (n := 0)).1 (ev_ok (ro := none) hP hc hR d XOk.none _ fr m e1 fr1 m1 ι a w h1 hr hL hU hf hN fun κ a' w' k1 k2 k3 k4 k5 => ?_)
        have := hq κ a' w' k1 k2 k3 k4 k5
        have hne := gotoOf_none hg
        generalize exOf e1 = x at this hne
        cases x <;> first | exact absurd rfl (hne _) | exact this
      · rename_i l hg
        split at h
        · cases h
        · rename_i rest hfl
          have g2 := scopeN_ext hc n _ _ _ g1.ok hL1 h
          refine (wpIn_wide (n := 0)).1 (ev_ok (ro := none) hP hc hR d XOk.none _ fr m e1 fr1 m1 ι a w h1 hr hL (Nat.le_trans g2.next hU) hf hN fun κ a' w' k1 k2 k3 k4 k5 => ?_)
          rw [gotoOf_some hg]
          exact ⟨rest, hfl, ih rest fr1 m1 κ a' w' h k1 hL1 hU k2 (by omega) fun κ' a'' w'' j1 j2 j3 j4 j5 => hq κ' a'' w'' j1 j2 (by omega) (k4.trans j5 j4 k5.size) (k5.trans j5)⟩
theorem evB_ok (hP : Prog P) (hc : CallOk P G R B call) {X : Option (Nat × LInfo)} {N : Nat} {K : List Nat} {lf : Nat} (hR : R ≤ L) : ∀ (c : Code), XOk B none N X c → ∀ (Q : Exit → Act → World → Prop) (fr : Fr) (m : Mem) (e : Nat) (fr' : Fr) (m' : Mem) (ι : Inj) (a : Act) (w : World),
    evB P X G N K call lf L c fr m = some (e, (fr', m')) → Rel G R B U ι m w → L ≤ m.next → m'.next ≤ U → FR ι (fget K fr) a → N ≤ a.tmps.size →
    (∀ κ a' w', Rel G R B U κ m' w' → FR κ (fget K fr') a' → a'.tmps.size = a.tmps.size → Df κ w w' a.defers a'.defers → Step L ι m w κ m' w' → Q (exOf e) a' w') → c.wpIn (fen none) 0 P Q a w := by
  intro c
  induction c with
  | scope c _ => intro hX Q fr m e fr' m' ι a w h hr hL hU hf hN hq; exact wpIn_wide.2 (wp_scope_n (scopeN_ok hP hc hR _ c fr m ι a w h hr hL hU hf hN hq))
  | seq x y _ ihy =>
    intro hX Q fr m e fr' m' ι a w h hr hL hU hf hN hq
    simp only [evB] at h
    split at h
    · rename_i e1 fr1 m1 h1
      have g1 := ev_ext hc x _ _ _ _ _ hr.ok hL h1
      have hL1 := Nat.le_trans hL g1.next
      split at h
      · have g2 := evB_ext hc y _ _ _ _ _ g1.ok hL1 h
        refine wpIn_seq (ev_ok hP hc hR x (hX.sub fun x hx => List.mem_append_left _ hx) _ fr m 0 fr1 m1 ι a w h1 hr hL (Nat.le_trans g2.next hU) hf hN fun κ a' w' k1 k2 k3 k4 k5 => ?_)
        exact ihy (hX.sub fun x hx => List.mem_append_right _ hx) Q fr1 m1 e fr' m' κ a' w' h k1 hL1 hU k2 (by omega) fun κ' a'' w'' j1 j2 j3 j4 j5 => hq κ' a'' w'' j1 j2 (by omega) (k4.trans j5 j4 k5.size) (k5.trans j5)
      · rename_i k
        simp only [Option.some.injEq, Prod.mk.injEq] at h
        obtain ⟨rfl, rfl, rfl⟩ := h
        refine wpIn_seq (ev_ok hP hc hR x (hX.sub fun x hx => List.mem_append_left _ hx) _ fr m (Nat.succ k) fr1 m1 ι a w h1 hr hL hU hf hN fun κ a' w' k1 k2 k3 k4 k5 => ?_)
        have := hq κ a' w' k1 k2 k3 k4 k5
        have hne := @exOf_succ k
        generalize exOf (Nat.succ k) = x at this hne
        cases x <;> first | exact absurd rfl hne | exact this
    · cases h
  | _ => intro hX Q fr m e fr' m' ι a w h hr hL hU hf hN hq; exact ev_ok hP hc hR _ hX Q fr m e fr' m' ι a w h hr hL hU hf hN hq
end
end Go.Vit

/- Calls to any depth are sound; a whole run. -/
namespace Go.Vit
open Go

section
variable {P : Program} {G R U L : Nat} {B : Base} {call : CallT} {ι : Inj} {m : Mem} {w : World}

def resOne (tmps : Array Value) (r : ResultVar) : Sem Value := match r with
  | .tmp t => pure (tmps.getD t Go.undef)
  | .cell x t => do loadVar t (← asAddr (tmps.getD x Go.undef))
theorem resA_ok (h : Rel G R B U ι m w) {K : List Nat} {fr : Fr} {a : Act} (hf : FR ι (fget K fr) a) : ∀ (l : List ResultVar) (vs : List Value), resA P K fr m l = some vs →
    ∃ us, VL ι vs us ∧ (l.mapM (resOne a.tmps)).run P w = .ok us w
  | [], vs, hr => by cases hr; exact ⟨[], VL.nil ι, rfl⟩
  | r :: l, vs, hr => by
    simp only [resA] at hr
    split at hr
    · rename_i v hv
      split at hr
      · rename_i vs' hvs
        cases hr
        obtain ⟨us, h1, h2⟩ := resA_ok h hf l vs' hvs
        cases r with
        | tmp t =>
          exact ⟨a.tmps.getD t Go.undef :: us, VL.cons (hf t v hv) h1, by simp only [resOne, List.mapM_cons, Sem.run_bind, Sem.run_pure, Result.andThen_ok, h2]⟩
        | cell x t =>
          simp only [] at hv
          split at hv
          · rename_i y hy
            have hr := hf x y hy
            obtain ⟨u, g1, g2⟩ := aload_ok (P := P) h hv hr
            have : ∃ ad, a.tmps.getD x Go.undef = .pointer (some ad) := by
              unfold aload at hv
              split at hv
              · generalize a.tmps.getD x Go.undef = z at hr; cases hr; exact ⟨_, rfl⟩
              · cases hv
            obtain ⟨ad, had⟩ := this
            rw [had] at g1
            have g3 : (loadVar t ad).run P w = .ok u w := by simpa [Instr.loadAt, Instr.sureAddr] using g1
            have g4 : (resOne a.tmps (.cell x t)).run P w = .ok u w := by
              simp only [resOne, had]
              exact g3
            refine ⟨u :: us, VL.cons g2 h1, ?_⟩
            simp only [List.mapM_cons, Sem.run_bind, Sem.run_pure, Result.andThen_ok, g4, h2]
          · cases hv
      · cases hr
    · cases hr

theorem oneOr_ok {vs us : List Value} (h : VL ι vs us) : VR ι (oneOr vs) (if hs : us.toArray.size = 1 then us.toArray[0] else .tuple us.toArray) := by
  match vs, us, h with
  | [], us, h =>
    obtain rfl := h.inv_nil
    exact VL.tuple (VL.nil ι)
  | [v], us, h =>
    obtain ⟨u, l, rfl, h1, h2⟩ := h.inv_cons
    obtain rfl := h2.inv_nil
    exact h1
  | v :: v' :: l, us, h =>
    have hl := h.1
    have hne : ¬ us.toArray.size = 1 := by
      simp only [List.size_toArray]
      rw [← hl]
      simp
    rw [dif_neg hne]
    exact VL.tuple h

theorem results_ok (h : Rel G R B U ι m w) {K : List Nat} {fr : Fr} {a : Act} (hf : FR ι (fget K fr) a) {fn : Func} {vs : List Value} (hr : resA P K fr m fn.results.toList = some vs) :
    ∃ u, (results fn a.tmps).run P w = .ok u w ∧ VR ι (oneOr vs) u := by
  obtain ⟨us, h1, h2⟩ := resA_ok (P := P) h hf _ _ hr
  refine ⟨_, ?_, oneOr_ok h1⟩
  have h3 : (fn.results.mapM (resOne a.tmps)).run P w = .ok us.toArray w := by
    rw [Array.mapM_eq_mapM_toList, Sem.run_map, h2]
    rfl
  have h4 : results fn a.tmps = (do let vs ← fn.results.mapM (resOne a.tmps); pure (if h : vs.size = 1 then vs[0] else .tuple vs)) := rfl
  rw [h4, Sem.run_bind, h3]
  rfl

theorem oJ_some {x : Option (Option Value)} {v : Value} (h : oJ x = some v) : x = some (some v) := by
  unfold oJ at h
  split at h
  · rw [h]
  · cases h
theorem initPs_get (args : List Value) : ∀ (K : List Nat) (t j : Nat) (v : Value), pos K t = some j → lget (initPs args K) j = some (some v) → v = (args[t]?).getD Go.undef
  | [], t, j, v, h, _ => by cases h
  | k :: K, t, j, v, h, hv => by
    simp only [pos] at h
    split at h
    · rename_i hk
      have hk' := Nat.eq_of_beq_eq_true hk
      subst hk'
      cases h
      simp only [initPs, lget, lget_eq, List.getElem?_cons_zero, Option.some.injEq] at hv
      cases ha : args[k]? with
      | none => rw [ha] at hv; cases hv; rfl
      | some x => rw [ha] at hv; cases hv; rfl
    · split at h
      · rename_i i hi
        cases h
        simp only [initPs, lget] at hv
        exact initPs_get args K t i v hi hv
      · cases h

/-- What a function's body does, for functions of the program. -/
structure FOk (P : Program) (G R : Nat) (B : Base) (call : CallT) : Prop where
  ext : ∀ f args L m v m', m.ok → L ≤ m.next → call f args L m = some (v, m') → Ext L m m'
  fn : ∀ f args L m v m', call f args L m = some (v, m') → ∃ fn, P.funcs[f]? = some fn ∧ fn.body.isNone = false
  ok : ∀ f args L m v m', call f args L m = some (v, m') → ∀ U ι w (cargs : Array Value), Rel G R B U ι m w → R ≤ L → L ≤ m.next → m'.next ≤ U → VL ι args cargs.toList →
      Calls P f cargs w fun e w' => ∃ u κ, e = .returned u ∧ VR κ v u ∧ Rel G R B U κ m' w' ∧ Step L ι m w κ m' w'

theorem leaves_marks {fn : Func} {tmps : Array Value} {Q : Ending → World → Prop} : ∀ (hs : List Nat) (w' : World), hs.Nodup → (∀ h, h ∈ hs → w'.heap[h]? = some (.deferred (some []))) →
    (∀ w'' : World, w''.heap.size = w'.heap.size → w''.os = w'.os → w''.tape = w'.tape → w''.output = w'.output → (∀ k, k ∉ hs → w''.heap[k]? = w'.heap[k]?) → ∃ v, (results fn tmps).run P w'' = .ok v w'' ∧ Q (.returned v) w'') →
    LeavesInM (fen none) 0 P fn tmps Q (hs.map markOf) .returning w'
  | [], w', _, _, h => h w' rfl rfl rfl rfl fun _ _ => rfl
  | x :: hs, w', hn, hd, h => by
    obtain ⟨hx, hn⟩ := List.nodup_cons.1 hn
    have hlt := hd x (List.mem_cons_self ..)
    refine ⟨by simp, .inl ⟨x, w'.putObj x (.deferred none), rfl, run_takeDeferred hlt, ?_⟩⟩
    refine leaves_marks hs _ hn (fun y hy => ?_) fun w'' h1 h2 h3 h4 h5 => h w'' (h1.trans World.putObj_size) h2 h3 h4 fun k hk => ?_
    · rw [World.putObj_heap_other (fun e => by subst e; exact hx hy)]
      exact hd y (List.mem_cons_of_mem _ hy)
    · rw [h5 k fun hh => hk (List.mem_cons_of_mem _ hh)]
      exact World.putObj_heap_other fun e => hk (by subst e; exact List.mem_cons_self ..)

theorem xOf_ok {FSl : Nat → List Nat} {f : FuncId} {fn : Func} {c : Code} (hB : B.lt = ltab P FSl) (h1 : P.funcs[f]? = some fn) (h2 : fn.body = some c) : XOk B none fn.ntmps (xOf FSl f fn.ntmps c) c := by
  intro f' i hx
  have hx0 := hx
  unfold xOf at hx
  split at hx
  · rename_i ps a b hr
    cases hx
    refine ⟨rfl, ?_, Nat.le_refl _, fun x hx => ?_⟩
    · rw [hB]
      simp only [ltab, h1, h2, hx0]
    · rw [hr, List.mem_singleton] at hx
      exact hx
  · cases hx

theorem evF_ok (hP : Prog P) {FSl : Nat → List Nat} (hB : B.lt = ltab P FSl) (KK : FuncId → List Nat) (lf : Nat) {call : CallT} (ih : CallOk P G R B call) : FOk P G R B (evF P FSl G KK lf call) := by
  have opn : ∀ f args L m v m', evF P FSl G KK lf call f args L m = some (v, m') → ∃ fn c e fr vs, P.funcs[f]? = some fn ∧ fn.body = some c ∧ args.length ≤ fn.ntmps ∧
      evB P (xOf FSl f fn.ntmps c) G fn.ntmps (KK f) call lf L c ⟨initPs args (KK f), []⟩ m = some (e, (fr, m')) ∧ e ≤ 1 ∧ resA P (KK f) fr m' fn.results.toList = some vs ∧ v = oneOr vs := by
    intro f args L m v m' h
    simp only [evF] at h
    split at h
    · cases h
    · rename_i fn hfn
      split at h
      · cases h
      · rename_i c hc
        split at h
        · cases h
        · rename_i hlen
          split at h
          · cases h
          · rename_i e fr m1 hev
            split at h
            · cases h
            · rename_i he
              split at h
              · rename_i vs hvs
                simp only [Option.some.injEq, Prod.mk.injEq] at h
                obtain ⟨rfl, rfl⟩ := h
                exact ⟨fn, c, e, fr, vs, hfn, hc, Nat.le_of_ble_eq_true hlen, hev, Nat.le_of_ble_eq_true he, hvs, rfl⟩
              · cases h
  refine ⟨fun f args L m v m' hm hL h => ?_, fun f args L m v m' h => ?_, fun f args L m v m' h U ι w cargs hr hR hL hU hvl => ?_⟩
  · obtain ⟨fn, c, e, fr, vs, h1, h2, h3, h4, h5, h6, h7⟩ := opn _ _ _ _ _ _ h
    exact evB_ext ih c _ _ _ _ _ hm hL h4
  · obtain ⟨fn, c, e, fr, vs, h1, h2, h3, h4, h5, h6, h7⟩ := opn _ _ _ _ _ _ h
    exact ⟨fn, h1, by rw [h2]; rfl⟩
  · obtain ⟨fn, c, e, fr, vs, h1, h2, h3, h4, h5, h6, rfl⟩ := opn _ _ _ _ _ _ h
    have hsz : cargs.size = args.length := by simpa using hvl.1.symm
    refine (callsIn_wide (n := 0)).1 ?_
    refine callsIn_of_wp_marks (F := fen none) (n := 0) h1 h2 trivial ?_
    refine evB_ok (U := U) hP ih hR c (xOf_ok hB h1 h2) _ _ m e fr m' ι _ w h4 hr hL hU ?_ ?_ ?_
    · intro t v hv
      unfold fget at hv
      split at hv
      · rename_i j hj
        obtain rfl := initPs_get args (KK f) t j v hj (oJ_some hv)
        cases ht : args[t]? with
        | none =>
          have : cargs.size ≤ t := by rw [hsz]; exact List.getElem?_eq_none_iff.1 ht
          have : (cargs ++ Array.replicate (fn.ntmps - cargs.size) Go.undef).getD t Go.undef = Go.undef := by
            rw [Array.getD_eq_getD_getElem?, Array.getElem?_append_right this, Array.getElem?_replicate]
            split <;> rfl
          simp only [this]
          exact VR.undef ι
        | some x =>
          obtain ⟨u, hu, hxu⟩ := hvl.get ht
          have hlt : t < cargs.size := by rw [hsz]; exact (List.getElem?_eq_some_iff.1 ht).1
          have : (cargs ++ Array.replicate (fn.ntmps - cargs.size) Go.undef).getD t Go.undef = u := by
            rw [Array.getD_eq_getD_getElem?, Array.getElem?_append_left hlt]
            have : cargs[t]? = some u := by simpa using hu
            rw [this]; rfl
          simp only [this]
          exact hxu
      · cases hv
    · simp; omega
    · intro κ a' w' k1 k2 k3 k4 k5
      obtain ⟨hs, hnd, hd, hp⟩ := k4
      have hlv : LeavesInM (fen none) 0 P fn a'.tmps (fun e w' => ∃ u κ, e = .returned u ∧ VR κ (oneOr vs) u ∧ Rel G R B U κ m' w' ∧ Step L ι m w κ m' w') a'.defers .returning w' := by
        rw [hd, List.append_nil]
        refine leaves_marks hs w' hnd (fun h hh => (hp h hh).2.1) fun w'' z1 z2 z3 z4 z5 => ?_
        have hno : ∀ b e, κ b = some e → e.cb ∉ hs := fun b e hb hh => (hp _ hh).2.2 b e hb rfl
        have hold : ∀ k, k < w.heap.size → k ∉ hs := fun k hk hh => by have := (hp _ hh).1; omega
        have k1' : Rel G R B U κ m' w'' := k1.turn z1 (fun b e hb => z5 _ (hno b e hb)) fun k hk => z5 k (hold k (Nat.lt_of_lt_of_le hk hr.old.size))
        obtain ⟨u, g1, g2⟩ := results_ok (P := P) (fn := fn) k1' k2 h6
        exact ⟨u, g1, u, κ, rfl, g2, k1', ⟨k5.le, k5.foreign, k5.fresh, k5.next, k5.kept, z2.trans k5.os, z3.trans k5.tape, z4.trans k5.output, by rw [z1]; exact k5.size, fun k hk hno' => (z5 k (hold k hk)).trans (k5.block k hk hno')⟩⟩
      match e, h5 with
      | 0, _ => exact hlv
      | 1, _ => exact hlv

/-! ### Rounds -/
theorem look_zipR : ∀ (l : List Nat) (vs : List Value) (acc : List (Nat × Value)) (t : Nat) (v : Value), look (zipR l vs acc) t = some v → (∃ j : Nat, l[j]? = some t ∧ vs[j]? = some v) ∨ look acc t = some v
  | [], vs, acc, t, v, h => by simp only [zipR] at h; exact .inr h
  | s :: l, [], acc, t, v, h => by simp only [zipR] at h; exact .inr h
  | s :: l, u :: vs, acc, t, v, h => by
    simp only [zipR] at h
    rcases look_zipR l vs _ t v h with ⟨j, h1, h2⟩ | h'
    · exact .inl ⟨j + 1, by simpa using h1, by simpa using h2⟩
    · simp only [look] at h'
      split at h'
      · rename_i hb
        have hst := Nat.eq_of_beq_eq_true hb
        refine .inl ⟨0, by simp [hst], by simpa using h'⟩
      · exact .inr h'
theorem zipR_append : ∀ (a b : List Nat) (c d : List Value) (acc : List (Nat × Value)), a.length = c.length → zipR (a ++ b) (c ++ d) acc = zipR b d (zipR a c acc)
  | [], b, [], d, acc, _ => rfl
  | [], b, _ :: _, d, acc, h => by cases h
  | _ :: _, b, [], d, acc, h => by cases h
  | x :: a, b, y :: c, d, acc, h => by
    simp only [List.cons_append, zipR]
    exact zipR_append a b c d _ (by simpa using h)
theorem sets_ok {ι : Inj} {n : Nat} : ∀ (ps : List Nat) (vs us : List Value) (acc : List (Nat × Value)) (T : Array Value), VL ι vs us → n ≤ T.size → (∀ t v, t < n → look acc t = some v → VR ι v (T.getD t Go.undef)) →
    n ≤ ((ps.zip us).foldl (fun tmps (x : Nat × Value) => tmps.setIfInBounds x.1 x.2) T).size ∧ ∀ t v, t < n → look (zipR ps vs acc) t = some v → VR ι v (((ps.zip us).foldl (fun tmps (x : Nat × Value) => tmps.setIfInBounds x.1 x.2) T).getD t Go.undef)
  | [], vs, us, acc, T, _, hn, h => ⟨by simpa using hn, fun t v ht hv => by simp only [zipR] at hv; simpa using h t v ht hv⟩
  | s :: ps, [], us, acc, T, hl, hn, h => by
    obtain rfl := hl.inv_nil
    exact ⟨by simpa using hn, fun t v ht hv => by simp only [zipR] at hv; simpa using h t v ht hv⟩
  | s :: ps, x :: vs, us, acc, T, hl, hn, h => by
    obtain ⟨u, us', rfl, h1, h2⟩ := hl.inv_cons
    simp only [List.zip_cons_cons, List.foldl_cons, zipR]
    refine sets_ok ps vs us' _ _ h2 (by simpa using hn) fun t v ht hv => ?_
    simp only [look] at hv
    split at hv
    · rename_i hb
      obtain rfl := Nat.eq_of_beq_eq_true hb
      cases hv
      have hlt : s < T.size := by omega
      simp [Array.getD_eq_getD_getElem?, hlt, h1]
    · rename_i hb
      have hne : s ≠ t := fun e => by subst e; rw [Nat.beq_refl] at hb; cases hb
      have := h t v ht hv
      simpa [Array.getD_eq_getD_getElem?, Array.getElem?_setIfInBounds_ne hne] using this
theorem pos_lt : ∀ {K : List Nat} {t j : Nat}, pos K t = some j → K[j]? = some t
  | [], t, j, h => by cases h
  | k :: K, t, j, h => by
    simp only [pos] at h
    split at h
    · rename_i hk
      cases h
      rw [Nat.eq_of_beq_eq_true hk]; rfl
    · split at h
      · rename_i i hi
        cases h
        simpa using pos_lt hi
      · cases h
theorem startR_get {n : Nat} {l : List (Nat × Value)} {t : Nat} {v : Value} (h : fget (List.range n) ⟨startR n l, []⟩ t = some v) : t < n ∧ look l t = some v := by
  unfold fget at h
  split at h
  · rename_i j hj
    have h1 := pos_lt hj
    have hjn : j < n := by have := (List.getElem?_eq_some_iff.1 h1).1; simpa using this
    rw [List.getElem?_range hjn] at h1
    cases h1
    have h2 := oJ_some h
    rw [lget_eq] at h2
    unfold startR at h2
    rw [List.getElem?_map, List.getElem?_range hjn] at h2
    exact ⟨hjn, by simpa using h2⟩
  · cases h
theorem isYield_some {v : Value} {y : Nat} (h : isYield v = some y) : v = .func (.yield y) #[] #[] := by
  unfold isYield at h
  split at h
  case h_2 => cases h
  case h_1 fn first cs =>
    split at h
    case h_2 => cases h
    case h_1 y' =>
      obtain ⟨first⟩ := first
      obtain ⟨cs⟩ := cs
      cases first with
      | cons a l => simp at h
      | nil =>
        cases cs with
        | cons a l => simp at h
        | nil => simp at h; rw [h]
theorem evR_some {LT : Nat → Option LInfo} {lf f : Nat} {args : List Value} {v : Value} {m' : Mem} (h : evR P LT G lf call f args L m = some (v, m')) :
    ∃ i as y fr1 m1 cs fr2 m2 cs2, LT f = some i ∧ args = .func (.yield y) #[] #[] :: as ∧ as.length = i.fs.length + i.ps.length ∧ L ≤ y ∧
      ev P none G i.n (List.range i.n) call lf L i.assign ⟨startR i.n (zipR (i.fs ++ i.ps) as []), []⟩ m = some (0, (fr1, m1)) ∧ loopB m1 y (Nat.succ (Nat.mul 2 f)) = some cs ∧
      ev P none G i.n (List.range i.n) call lf L i.body fr1 (m1.put y (some ⟨Nat.succ (Nat.succ (Nat.mul 2 f)), cs, some []⟩)) = some (0, (fr2, m2)) ∧ loopB m2 y (Nat.succ (Nat.succ (Nat.mul 2 f))) = some cs2 ∧
      v = .bool true ∧ m' = m2.put y (some ⟨Nat.succ (Nat.mul 2 f), cs2, some []⟩) := by
  unfold evR at h
  split at h
  · cases h
  · rename_i i hi
    split at h
    · cases h
    · rename_i yv as
      split at h
      · cases h
      · rename_i y hy
        obtain rfl := isYield_some hy
        split at h
        · cases h
        · rename_i hb
          rw [Bool.and_eq_true] at hb
          split at h
          · rename_i fr1 m1 h1
            split at h
            · cases h
            · rename_i cs h2
              split at h
              · rename_i fr2 m2 h3
                split at h
                · cases h
                · rename_i cs2 h4
                  cases h
                  exact ⟨i, as, y, fr1, m1, cs, fr2, m2, cs2, hi, rfl, Nat.eq_of_beq_eq_true hb.1, Nat.le_of_ble_eq_true hb.2, h1, h2, h3, h4, rfl, rfl⟩
              · cases h
          · cases h
theorem evR_ext (hc : CallOk P G R B call) {LT : Nat → Option LInfo} {lf f : Nat} {args : List Value} {v : Value} {m' : Mem} (hm : m.ok) (hL : L ≤ m.next) (h : evR P LT G lf call f args L m = some (v, m')) : Ext L m m' := by
  obtain ⟨i, as, y, fr1, m1, cs, fr2, m2, cs2, hi, rfl, hlen, hLy, h1, h2, h3, h4, rfl, rfl⟩ := evR_some h
  obtain ⟨es1, hr1⟩ := loopB_some h2
  obtain ⟨es2, hr2⟩ := loopB_some h4
  have g1 := ev_ext hc _ _ _ _ _ _ hm hL h1
  have g2 : Ext L m1 (m1.put y (some ⟨Nat.succ (Nat.succ (Nat.mul 2 f)), cs, some []⟩)) := Mem.put_ext g1.ok (Mem.rd_lt hr1) hLy
  have g3 := ev_ext hc _ _ _ _ _ _ g2.ok (Nat.le_trans hL (g1.trans g2).next) h3
  exact ((g1.trans g2).trans g3).trans (Mem.put_ext g3.ok (Mem.rd_lt hr2) hLy)
theorem rec_busy {ι : Inj} {f : Nat} {k : Blk} {es : List (Value × Value)} {o : Option Obj} (hk : k.esz = Nat.succ (Nat.succ (Nat.mul 2 f))) (h : ObjRel B ι k es o) : ∃ r i, o = some (.loop r) ∧ LoopRel B ι (Nat.succ (Nat.mul 2 f)) k.cells r i := by
  unfold ObjRel at h
  rw [hk] at h
  exact h
theorem evR_rnd (hP : Prog P) (hc : CallOk P G R B call) {LT : Nat → Option LInfo} (hB : B.lt = LT) {lf f y : Nat} {cells vs : List Value} {v : Value} {m' : Mem} {es : List (Value × Value)}
    (h : evR P LT G lf call f (.func (.yield y) #[] #[] :: (cells ++ vs)) L m = some (v, m')) (hrd : m.rd y = some ⟨Nat.succ (2 * f), cells, some es⟩) {cvs : Array Value}
    (hr : Rel G R B U ι m w) (hR : R ≤ L) (hL : L ≤ m.next) (hU : m'.next ≤ U) (hvl : VL ι vs cvs.toList) {e : Ent} {r : Loop} (he : ι y = some e) (hwr : w.heap[e.cb]? = some (.loop r)) :
    cvs.size = r.params.size ∧ RoundIn Fence.wide 0 P e.cb r.fn ((r.params.zip cvs).foldl (fun tmps (t, a) => tmps.setIfInBounds t a) r.tmps) r.assign r.body w
        fun e w' => ∃ u κ, e = .returned u ∧ VR κ v u ∧ Rel G R B U κ m' w' ∧ Step L ι m w κ m' w' := by
  obtain ⟨i, as, y', fr1, m1, cs, fr2, m2, cs2, hi, hargs, hlen, hLy, h1, h2, h3, h4, rfl, rfl⟩ := evR_some h
  simp only [List.cons.injEq, Value.func.injEq, Fn.yield.injEq, and_true] at hargs
  obtain ⟨rfl, rfl⟩ := hargs
  obtain ⟨es1, hr1⟩ := loopB_some h2
  obtain ⟨es2, hr2⟩ := loopB_some h4
  have g1 := ev_ext hc _ _ _ _ _ _ hr.ok hL h1
  have g2 : Ext L m1 (m1.put y (some ⟨Nat.succ (Nat.succ (Nat.mul 2 f)), cs, some []⟩)) := Mem.put_ext g1.ok (Mem.rd_lt hr1) hLy
  have hL1 := Nat.le_trans hL g1.next
  have hL2 := Nat.le_trans hL1 g2.next
  have g3 := ev_ext hc _ _ _ _ _ _ g2.ok hL2 h3
  have hU2 : m2.next ≤ U := hU
  have hU1 : m1.next ≤ U := Nat.le_trans (g2.trans g3).next hU2
  have hRy : R ≤ y := Nat.le_trans hR hLy
  have hdiv : Nat.div (Nat.mul 2 f) 2 = f := by show 2 * f / 2 = f; omega
  have hdiv' : Nat.div (Nat.succ (Nat.mul 2 f)) 2 = f := by show (2 * f + 1) / 2 = f; omega
  have hmod' : ¬ Nat.mod (Nat.succ (Nat.mul 2 f)) 2 = 0 := by show ¬ (2 * f + 1) % 2 = 0; omega
  have hmod : Nat.mod (Nat.mul 2 f) 2 = 0 := by show 2 * f % 2 = 0; omega
  obtain ⟨r0, i0, o0, l0, -, -⟩ := rec_ready (f := f) rfl (hr.maps y e _ es he hrd rfl)
  rw [hwr] at o0
  cases o0
  have hii : ∀ {j : LInfo}, B.lt f = some j → j = i := fun {j} hj => by rw [hB, hi] at hj; cases hj; rfl
  obtain rfl := hii (by have := l0.lt; rwa [hdiv] at this)
  have hcl : cells.length = i0.fs.length := l0.len
  have hvsl : vs.length = i0.ps.length := by rw [List.length_append] at hlen; omega
  have hsz : cvs.size = r.params.size := by
    have h1 := hvl.1
    have h2 := congrArg List.length l0.ps
    simp only [Array.length_toList] at h1 h2
    omega
  have hfold : (r.params.zip cvs).foldl (fun tmps (t, a) => tmps.setIfInBounds t a) r.tmps = (i0.ps.zip cvs.toList).foldl (fun tmps (x : Nat × Value) => tmps.setIfInBounds x.1 x.2) r.tmps := by
    rw [← Array.foldl_toList, Array.toList_zip, l0.ps]
  obtain ⟨s1, s2⟩ := sets_ok (n := i0.n) i0.ps vs cvs.toList (zipR i0.fs cells []) r.tmps hvl l0.size fun t v ht hv => by
    rcases look_zipR _ _ _ _ _ hv with ⟨j, a1, a2⟩ | hv
    · exact l0.cells j t v a1 a2
    · cases hv
  refine ⟨hsz, ?_⟩
  rw [hfold]
  generalize (i0.ps.zip cvs.toList).foldl (fun tmps (x : Nat × Value) => tmps.setIfInBounds x.1 x.2) r.tmps = T at s1 s2
  have hfr : FR ι (fget (List.range i0.n) ⟨startR i0.n (zipR (i0.fs ++ i0.ps) (cells ++ vs) []), []⟩) { tmps := T, defers := [] } := fun t v hv => by
    obtain ⟨b1, b2⟩ := startR_get hv
    rw [zipR_append _ _ _ _ _ hcl.symm] at b2
    exact s2 t v b1 b2
  refine roundIn_of_wpIn trivial ?_
  show r.assign.wpIn (fen (some e.cb)) 0 P _ _ w
  rw [l0.assign]
  refine ev_ok (U := U) hP hc hR i0.assign XOk.none _ _ m 0 fr1 m1 ι _ w h1 hr hL hU1 hfr s1 fun κ a1 w1 k1 k2 k3 k4 k5 => ?_
  have he1 := k5.le _ _ he
  obtain ⟨r1, i1, o1, l1, st1, pe1⟩ := rec_ready (f := f) rfl (k1.maps y e _ es1 he1 hr1 rfl)
  obtain rfl := hii (by have := l1.lt; rwa [hdiv] at this)
  refine ⟨_, run_beginRound o1 st1, ?_⟩
  obtain ⟨t1, t2⟩ := k1.setObj hRy he1 hr1 (k2 := some ⟨Nat.succ (Nat.succ (Nat.mul 2 f)), cs, some []⟩) (.loop { r1 with state := .busy }) (fun k' hk' => by
    cases hk'
    exact ⟨[], rfl, _, _, rfl, ⟨by rw [hdiv']; have := l1.lt; rwa [hdiv] at this, l1.ps, l1.assign, l1.body, l1.pending, by rw [if_neg hmod'], l1.size, l1.len, l1.cells⟩⟩)
  have t2 := t2 L hLy
  generalize w1.putObj e.cb (.loop { r1 with state := .busy }) = w2 at t1 t2 ⊢
  show r.body.wpIn (fen (some e.cb)) 0 P _ _ w2
  rw [l0.body]
  refine ev_ok (U := U) hP hc hR i1.body XOk.none _ fr1 _ 0 fr2 m2 κ a1 w2 h3 t1 hL2 hU2 k2 (by rw [k3]; exact s1) fun μ a2 w3 j1 j2 j3 j4 j5 => ?_
  have he2 := j5.le _ _ he1
  obtain ⟨r2, i2, o2, l2⟩ := rec_busy (f := f) rfl (j1.maps y e _ es2 he2 hr2 rfl)
  obtain rfl := hii (by have := l2.lt; rwa [hdiv'] at this)
  obtain ⟨u1, u2⟩ := j1.setObj hRy he2 hr2 (k2 := some ⟨Nat.succ (Nat.mul 2 f), cs2, some []⟩) (.loop { r2 with state := .ready, pending := none }) (fun k' hk' => by
    cases hk'
    exact ⟨[], rfl, _, _, rfl, ⟨by rw [hdiv]; have := l2.lt; rwa [hdiv'] at this, l2.ps, l2.assign, l2.body, rfl, by rw [if_pos hmod], l2.size, l2.len, l2.cells⟩⟩)
  exact ⟨_, _, run_endRound none o2, .bool true, μ, rfl, .bool true, u1, ((k5.trans t2).trans j5).trans (u2 L hLy)⟩

theorem noCalls_ok : CallOk P G R B noCalls :=
  ⟨fun f args L m v m' _ _ h => (by cases h), fun f args L m v m' _ h => (by cases h), fun f y cells vs L m v m' es h => (by cases h), fun f args L m v m' _ h => (by cases h)⟩
end
end Go.Vit

/- From a run to a row's contract: the start, the tables, the post. -/
namespace Go.Vit
open Go Go.ChangeShapes Go.WideShapes Go.RowKit

/-- What was there is as it was. -/
structure Stays (w w' : World) : Prop where
  os : w'.os = w.os
  output : w'.output = w.output
  size : w.heap.size ≤ w'.heap.size
  block : ∀ k, k < w.heap.size → w'.heap[k]? = w.heap[k]?

theorem Step.stays {L : Nat} {ι κ : Inj} {m m' : Mem} {w w' : World} (h : Step L ι m w κ m' w') (hL : m.next ≤ L) : Stays w w' :=
  ⟨h.os, h.output, h.size, fun k hk => h.block k hk fun b e h1 h2 => absurd h2 (by omega)⟩
theorem Stays.kept {w w' : World} (h : Stays w w') (may : MemPlace → Prop) : w.keptBut w' may := by
  refine ⟨h.os, h.output, fun i hi => ?_⟩
  rw [h.block i hi]
  cases hx : w.heap[i]? with
  | none => simp
  | some o => cases o <;> simp
theorem Stays.frozen {w w' : World} (h : Stays w w') {a : Addr} (ha : a.block < w.heap.size) : w'.frozen? a = w.frozen? a := by
  unfold World.frozen?
  rw [h.block _ ha]
theorem Stays.cell {w w' : World} (h : Stays w w') {a : Addr} (ha : a.block < w.heap.size) : w'.cell? a = w.cell? a := by
  unfold World.cell?
  rw [h.block _ ha]

/-- The post of a law that answers true and whose arguments read as before. -/
theorem post_stays {H : Type} {enc : TypeId × Value → H} {P : Program} {f : Func} {s : ChangeSpec} {apart fresh handsOn again : Bool} {W W' : World} {args : Array Value} {v : Value} {ds gs : List (DataW H)} {before pa pv : List MemPlace}
    (hW : DataW.Whole enc P f.params.toList s.vars apart W args.toList ds gs before)
    (hres : ∀ (b : Nat) (sp : Nat → Bool) (hd : Bool), DataW.TrodAll enc P W' b sp hd f.resultTypes.toList (v.resultList f.resultTypes.size) (s.fn H (ds ++ gs)).results [])
    (hargs : ∀ sp : Nat → Bool, (∀ p ∈ before, sp p.block = true) → DataW.TrodAll enc P W' 0 sp true f.params.toList args.toList (s.fn H (ds ++ gs)).args pa)
    (hvars : ∀ sp : Nat → Bool, (∀ p ∈ before, sp p.block = true) → DataW.TrodVars enc P W' sp s.vars (s.fn H (ds ++ gs)).vars pv)
    (hps : before = pa ++ pv) (hs : Stays W W')
    (hok : ∀ (j : Nat) (t : TypeId) (r : Value), f.resultTypes[j]? = some t → (v.resultList f.resultTypes.size)[j]? = some r → Value.okWide P W' .any 0 t r) :
    s.post enc P f apart fresh handsOn again W args v W' := by
  have hlt := hW.lt
  have key : ∀ p ∈ before, decide (p.block < W.heap.size) = true := fun p hp => decide_eq_true (hlt p hp)
  have split : ∀ p, p ∈ before → p ∈ pa ∨ p ∈ pv := fun p hp => by rw [hps] at hp; exact List.mem_append.1 hp
  have nofr : W'.noneFrozen before := by
    obtain ⟨_, _, _, _, _, hz, _⟩ := hW
    intro b off hb
    exact (hs.frozen (hlt _ hb)).trans (hz b off hb)
  have nod : apart = true → before.Nodup := by
    obtain ⟨_, _, _, _, _, _, hn⟩ := hW
    exact hn
  refine ⟨ds, gs, before, [], pa, pv, hW, hres _ _ _, hargs _ key, hvars _ key, World.keptBut_mono (fun p hp => ⟨hp, .inr (split p hp)⟩) (hs.kept (· ∈ before)), fun _ => ⟨hok, ?_⟩⟩
  have g1 := trodAll_append (hargs (fun _ => true) fun _ _ => rfl) (hres 0 (fun _ => true) true)
  exact ⟨_, _, before, ⟨[] ++ pa, pv, g1, hvars _ fun _ _ => rfl, hps, nofr, nod⟩, fun p hp _ => hp⟩

/-! ### The start -/
theorem Rel.start {W : World} {lt : Nat → Option LInfo} {G U : Nat} {m : Mem} {es : List Ent} (hn : m.next = es.length) (hG : ∀ g, g < G → es[g]? = some ⟨g, 0, 0⟩)
    (hsz : ∀ (b : Nat) (e : Ent), es[b]? = some e → e.cb < W.heap.size)
    (hcells : ∀ (b : Nat) (e : Ent) (k : Blk), es[b]? = some e → m.rd b = some k → k.ents = none ∧ ∀ (i : Nat) (v : Value), k.cells[i]? = some v → ∃ u, VR (fun b => es[b]?) v u ∧ W.cell? ⟨e.cb, e.base + i, none⟩ = some u) :
    Rel G m.next ⟨W, lt⟩ U (fun b => es[b]?) m W := by
  have hlt : ∀ (b : Nat) (e : Ent), es[b]? = some e → b < m.next := fun b e h => by rw [hn]; exact (List.getElem?_eq_some_iff.1 h).1
  refine ⟨trivial, Nat.le_refl _, ⟨Nat.le_refl _, fun _ _ => rfl⟩, hG, fun b e h => .inl (hlt b e h), hsz, fun b e h1 h2 => absurd (hlt b e h2) (by omega), fun b e k h1 h2 _ i v hv => (hcells b e k h1 h2).2 i v hv,
    fun b e k h1 h2 => absurd (hlt b e h2) (by omega), fun b b' e e' k k' h1 _ h2 => absurd (hlt b e h2) (by omega), fun b e k es' h1 h2 h3 => ?_⟩
  have := (hcells b e k h1 h2).1
  rw [h3] at this
  cases this

/-! ### Tables that a row lists -/
theorem laid_mem {P : Program} {W : World} : ∀ {l : List (String × DataW Unit)} {ps : List MemPlace}, DataW.LaidVars P W l ps → ∀ n d, (n, d) ∈ l →
    ∃ g t cs fuel p, P.globalNamed n = some g ∧ (P.globals[g]?).map (·.type) = some t ∧ W.var? P n = some cs ∧ DataW.trod (fun _ => ()) P W 0 (fun _ => true) false fuel t cs.toList = some (d, p)
  | [], _, _, n, d, hm => by cases hm
  | (n', d') :: l, ps, h, n, d, hm => by
    obtain ⟨g, t, cs, fuel, p, q, h1, h2, h3, h4, h5, _⟩ := h
    cases hm with
    | head => exact ⟨g, t, cs, fuel, p, h1, h2, h3, h4⟩
    | tail _ hm => exact laid_mem h5 n d hm
theorem tab_of_laid {P : Program} {W : World} {name : String} {k : IntKind} {zs : List Int} {l : List (String × DataW Unit)} {g : Nat} {t e : TypeId} {n : Nat}
    (hg : P.globalNamed name = some g) (hty : (P.globals[g]?).map (·.type) = some t) (ht : P.underlying t = some (.array n e)) (he : P.underlying e = some (.int k)) (hce : P.cellsOf e = 1) (hct : P.cellsOf t = n)
    (h : laidMet P l W) (hm : (name, Lib.tabData k zs) ∈ l) : g < W.heap.size ∧ ∀ (i : Nat) z, zs[i]? = some z → W.cell? ⟨g, i, none⟩ = some (.int k z) := by
  obtain ⟨ps, hl, _⟩ := h
  obtain ⟨g', t', cs, fuel, p, h1, h2, h3, h4⟩ := laid_mem hl _ _ hm
  obtain rfl := Option.some.inj (hg.symm.trans h1)
  obtain rfl := Option.some.inj (hty.symm.trans h2)
  have hcs := Lib.cells_of_tab ht he hce hct h4
  have hlt : g < W.heap.size := by
    simp only [World.var?, hg, Option.bind_some] at h3
    split at h3
    · rename_i hx; exact (Array.getElem?_eq_some_iff.1 hx).1
    · cases h3
  refine ⟨hlt, fun i z hz => ?_⟩
  rw [World.var?_cell hg h3 i]
  have : cs.toList[i]? = some (.int k z) := by rw [hcs]; simp [hz]
  simpa using this

/-! ### The answer -/
/-- The run answers true. -/
def says (x : Option (Value × Mem)) : Bool := match x with
  | some (v, _) => match v with
    | .bool b => b
    | _ => false
  | none => false
end Go.Vit

/- The shallow form: an evaluator in continuation-passing style; single operations. -/
namespace Go.Vit
open Go

section
variable {β : Type}
/-! ### What a shallow text is made of -/
def oOpt (x : Option Value) (k : Value → Option β) : Option β := match x with
  | some v => k v
  | none => none
def oRes (x : Option (Value × Mem)) (k : Value → Mem → Option β) : Option β := match x with
  | some (v, m) => k v m
  | none => none
def ik (kd : IntKind) (x : Value) (k : Int → Option β) : Option β := match x with
  | .int j a => match Nat.beq (kix j) (kix kd) with
    | true => k a
    | false => none
  | _ => none
def oInt (op : BinOp) (kd : IntKind) (x y : Value) (k : Value → Option β) : Option β := ik kd x fun a => ik kd y fun b => oOpt (aint op kd a b) k
def oCv (kd : IntKind) (x : Value) (k : Value → Option β) : Option β := match x with
  | .int _ n => oOpt (mkI kd (fwrap kd n)) k
  | _ => none
def oIf (x : Value) (a b : Option β) : Option β := match x with
  | .bool c => match c with
    | true => a
    | false => b
  | _ => none
/-- Guards: wanted true, wanted false. A guard that was itself not reached counts as not wanted. -/
def oGT (x : Value) (a b : Option β) : Option β := match x with
  | .bool c => match c with
    | true => a
    | false => b
  | .tuple _ => b
  | _ => none
def oGF (x : Value) (a b : Option β) : Option β := match x with
  | .bool c => match c with
    | true => b
    | false => a
  | .tuple _ => b
  | _ => none
def oPick (x : Value) (a b : Value) (k : Value → Option β) : Option β := match x with
  | .bool c => match c with
    | true => k a
    | false => k b
  | _ => none
def join (j : List Value → Mem → Option β) (f : (List Value → Mem → Option β) → Option β) : Option β := f j
def loopS (body : (List Value → Mem → Option β) → List Value → Mem → Option β) : Nat → List Value → Mem → Option β
  | 0, _, _ => none
  | n + 1, vs, m => body (loopS body n) vs m
def uc (l : List Value) (k : Value → List Value → Option β) : Option β := match l with
  | a :: l => k a l
  | [] => none
def un0 (l : List Value) (k : Option β) : Option β := match l with
  | [] => k
  | _ :: _ => none
abbrev CallK (β : Type) := FuncId → List Value → Nat → Mem → (Value → Mem → Option β) → Option β
def oCallV (call : CallK β) (f : Value) (vs : List Value) (L : Nat) (m : Mem) (k : Value → Mem → Option β) : Option β := match atarget f with
  | some (g, cs) => call g (vs ++ cs) L m k
  | none => match ayield m f vs with
    | some (g, as) => call g as L m k
    | none => none
/-- A range over a function; a round's begin and end. -/
def oRange (call : CallK β) (f : Nat) (vf : Value) (vs : List Value) (L : Nat) (m : Mem) (k : Mem → Option β) : Option β := match atarget vf with
  | none => none
  | some (h, cs) => natK m.next fun y => match m.new ⟨Nat.succ (Nat.mul 2 f), vs, some []⟩ with
    | none => none
    | some m1 => call h (.func (.yield y) #[] #[] :: cs) L m1 fun _ m2 => match loopB m2 y (Nat.succ (Nat.mul 2 f)) with
      | none => none
      | some _ => k (m2.put y none)
def oYv (v : Value) (L : Nat) (k : Nat → Option β) : Option β := match isYield v with
  | none => none
  | some y => match Nat.ble L y with
    | true => k y
    | false => none
def oBusy (f y : Nat) (m : Mem) (k : Mem → Option β) : Option β := match loopB m y (Nat.succ (Nat.mul 2 f)) with
  | some cs => k (m.put y (some ⟨Nat.succ (Nat.succ (Nat.mul 2 f)), cs, some []⟩))
  | none => none
def oReady (f y : Nat) (m : Mem) (k : Mem → Option β) : Option β := match loopB m y (Nat.succ (Nat.succ (Nat.mul 2 f))) with
  | some cs => k (m.put y (some ⟨Nat.succ (Nat.mul 2 f), cs, some []⟩))
  | none => none
def ld1 (m : Mem) (x : Value) : Option Value := match x with
  | .pointer (some ⟨b, o, none⟩) => match m.rd b with
    | some k => match k.ents with
      | none => lget k.cells o
      | some _ => none
    | none => none
  | _ => none
def ldN (m : Mem) (s : Nat) (x : Value) : Option Value := match x with
  | .pointer (some ⟨b, o, none⟩) => match rdc m b o s with
    | some cs => some (.agg ⟨cs⟩)
    | none => none
  | _ => none
def st1 (s L : Nat) (m : Mem) (x v : Value) : Option (Value × Mem) := match x with
  | .pointer (some ⟨b, o, none⟩) => match Nat.beq v.cells.toList.length s with
    | true => match awr L m b o v.cells.toList with
      | some m' => some (Go.undef, m')
      | none => none
    | false => none
  | _ => none
/-- A block is the same in two memories. -/
def oSm (m m' : Mem) (v : Value) (k : Option β) : Option β := match smB m m' v with
  | true => k
  | false => none
/-- Two addresses in different blocks. -/
def oNe (x y : Value) (k : Option β) : Option β := match x with
  | .pointer (some ⟨b, _, none⟩) => match y with
    | .pointer (some ⟨b', _, none⟩) => match Nat.beq b b' with
      | true => none
      | false => k
    | _ => none
  | _ => none
/-- The address of a field, of an element. -/
def fa (off : Nat) (x : Value) : Option Value := match x with
  | .pointer (some ⟨b, o, none⟩) => natK (Nat.add o off) fun q => some (.pointer (some ⟨b, q, none⟩))
  | _ => none
def ia (s : Nat) (x i : Value) : Option Value := match i with
  | .int _ n => match n with
    | .negSucc _ => none
    | .ofNat n => match x with
      | .slice (some ⟨b, o, _⟩) len _ => match Nat.blt n len with
        | true => natK (Nat.add o (Nat.mul n s)) fun q => some (.pointer (some ⟨b, q, none⟩))
        | false => none
      | _ => none
  | _ => none
def iaA (len s : Nat) (x i : Value) : Option Value := match i with
  | .int _ n => match n with
    | .negSucc _ => none
    | .ofNat n => match x with
      | .pointer (some ⟨b, o, none⟩) => match Nat.blt n len with
        | true => natK (Nat.add o (Nat.mul n s)) fun q => some (.pointer (some ⟨b, q, none⟩))
        | false => none
      | _ => none
  | _ => none
def ln (x : Value) : Option Value := match x with
  | .slice _ n _ => natK n fun n => some (.int .i64 (.ofNat n))
  | _ => none
def tri (lo hi mx : Option Value) (x : Operand) : Option Value := match x with
  | .tmp t => match t with
    | 0 => lo
    | 1 => hi
    | _ => mx
  | _ => none
def sl (P : Program) (t : TypeId) (x : Value) (lo hi mx : Option Value) : Option Value :=
  aslice P (tri lo hi mx) t x (lo.map fun _ => .tmp 0) (hi.map fun _ => .tmp 1) (mx.map fun _ => .tmp 2)
def bu (P : Program) (t : TypeId) (ps : List (Nat × Value)) : Option Value := match azero P t with
  | none => none
  | some zs => match P.underlying t with
    | some (.struct fields) => match places P fields.toList with
      | some pl => match lay (fun i => lget pl i) zs ps with
        | some cs => some (.agg ⟨cs⟩)
        | none => none
      | none => none
    | some (.array _ elem) => match tsize P elem with
      | some s => match lay (fun i => some (Nat.mul i s, s)) zs ps with
        | some cs => some (.agg ⟨cs⟩)
        | none => none
      | none => none
    | _ => none
def bs (P : Program) (m : Mem) (t : TypeId) (len : Nat) (ps : List (Nat × Value)) : Option (Value × Mem) := match P.underlying t with
  | some (.slice elem) => match azero P elem with
    | some zs => match tsize P elem with
      | some s => match Nat.beq zs.length s && Nat.ble (Nat.mul len s) 16777216 with
        | true => match lay (fun i => some (Nat.mul i s, s)) (azrow zs len) ps with
          | some cs => anew m s cs (slTo len)
          | none => none
        | false => none
      | none => none
    | none => none
  | _ => none

/-! ### One operation
The functions that a text is compared with lie deeper than those it is made of: so they are unfolded first. -/
def c0 : Nat := 0
def c1 : Nat := c0
def c2 : Nat := c1
def c3 : Nat := c2
def c4 : Nat := c3
def c5 : Nat := c4
def c6 : Nat := c5
def c7 : Nat := c6
def c8 : Nat := c7
def c9 : Nat := c8
def c10 : Nat := c9
def c11 : Nat := c10
def c12 : Nat := c11
def c13 : Nat := c12
def c14 : Nat := c13
def c15 : Nat := c14
def c16 : Nat := c15
def c17 : Nat := c16
def c18 : Nat := c17
def c19 : Nat := c18
def c20 : Nat := c19
def c21 : Nat := c20
def c22 : Nat := c21
def c23 : Nat := c22
def c24 : Nat := c23
def c25 : Nat := c24
def c26 : Nat := c25
def c27 : Nat := c26
def c28 : Nat := c27
def c29 : Nat := c28
def c30 : Nat := c29
def c31 : Nat := c30
def c32 : Nat := c31
def c33 : Nat := c32
def c34 : Nat := c33
def c35 : Nat := c34
def c36 : Nat := c35
def c37 : Nat := c36
def c38 : Nat := c37
def c39 : Nat := c38
def c40 : Nat := c39
def deep {α : Type} (_ : Nat) (a : α) : α := a
@[simp] theorem deep_eq {α : Type} (n : Nat) (a : α) : deep n a = a := rfl
def dv (x : Option Value) (k : Value → Option β) : Option β := deep c40 <| match x with
  | some v => k v
  | none => none
def dvs (x : Option (List Value)) (k : List Value → Option β) : Option β := deep c40 <| match x with
  | some v => k v
  | none => none
def dps (x : Option (List (Nat × Value))) (k : List (Nat × Value) → Option β) : Option β := deep c40 <| match x with
  | some v => k v
  | none => none
def dvo (ev : Operand → Option Value) (x : Option Operand) (k : Option Value → Option β) : Option β := deep c40 <| match x with
  | none => k none
  | some x => match ev x with
    | some v => k (some v)
    | none => none
def isSh (op : BinOp) : Bool := match op with
  | .shl => true
  | .shr => true
  | _ => false
def denBin (P : Program) (op : BinOp) (t : TypeId) (x y : Value) (k : Value → Option β) : Option β := match P.underlying t with
  | some (.int kd) => match isSh op with
    | false => oInt op kd x y k
    | true => oOpt (abin P op t x y) k
  | _ => oOpt (abin P op t x y) k
def denOp (P : Program) (call : CallK β) (L : Nat) (ev : Operand → Option Value) (m : Mem) (op : Op) (k : Value → Mem → Option β) : Option β := match op with
  | .move x => dv (ev x) fun v => k v m
  | .assign x => dv (ev x) fun v => k v m
  | .pick c a b => dv (ev c) fun c => dv (ev a) fun a => dv (ev b) fun b => oPick c a b fun v => k v m
  | .binOp op t x y _ => dv (ev x) fun x => dv (ev y) fun y => denBin P op t x y fun v => k v m
  | .unOp op _ x => dv (ev x) fun x => oOpt (aun op x) fun v => k v m
  | .convert s d x => dv (ev x) fun x => match P.underlying s with
    | some _ => match P.underlying d with
      | some (.int kd) => oCv kd x fun v => k v m
      | _ => oOpt (aconv P s d x) fun v => k v m
    | none => none
  | .extract x i => dv (ev x) fun x => oOpt (aextract x i) fun v => k v m
  | .nilCheck x => dv (ev x) fun x => oOpt (anil x) fun v => k v m
  | .fieldAddr s x f => dv (ev x) fun x => match P.underlying s with
    | some (.struct fields) => match lget fields.toList f with
      | some fd => match tsize P fd.type with
        | some (Nat.succ _) => oOpt (fa fd.offset x) fun v => k v m
        | _ => none
      | none => none
    | _ => none
  | .field t x f => dv (ev x) fun x => oOpt (afieldV P t x f) fun v => k v m
  | .indexAddr t x i => dv (ev x) fun x => dv (ev i) fun i => match P.underlying t with
    | some (.slice elem) => match tsize P elem with
      | some s => oOpt (ia s x i) fun v => k v m
      | none => none
    | some (.array len elem) => match tsize P elem with
      | some s => oOpt (iaA len s x i) fun v => k v m
      | none => none
    | _ => none
  | .index t x i => dv (ev x) fun x => dv (ev i) fun i => oOpt (aindex P t x i) fun v => k v m
  | .slice t x lo hi mx => dv (ev x) fun x => dvo ev lo fun lo => dvo ev hi fun hi => dvo ev mx fun mx => oOpt (sl P t x lo hi mx) fun v => k v m
  | .makeFunc fn first cs => match fn with
    | .func f => match first.toList with
      | [] => dvs (evL ev cs.toList) fun vs => k (.func (.func f) #[] ⟨vs⟩) m
      | _ => none
    | _ => none
  | .makeInterface t x => dv (ev x) fun x => oOpt (aiface P t x) fun v => k v m
  | .build t parts => dps (evP ev parts.toList) fun ps => oOpt (bu P t ps) fun v => k v m
  | .typeAssert x _ t ok => dv (ev x) fun x => oOpt (aassert P x t ok) fun v => k v m
  | .alloc t => match azero P t with
    | some cs => oRes (anew m 1 cs ptrTo) k
    | none => none
  | .box _ x => dv (ev x) fun x => oRes (abox m x) k
  | .buildSlice t len parts => dps (evP ev parts.toList) fun ps => oRes (bs P m t len ps) k
  | .makeSlice t l c => dv (ev l) fun l => dv (ev c) fun c => oRes (amakeSlice P m t l c) k
  | .load t x => dv (ev x) fun x => match tagg P t with
    | some false => oOpt (ld1 m x) fun v => k v m
    | some true => match tsize P t with
      | some s => oOpt (ldN m s x) fun v => k v m
      | none => none
    | none => none
  | .store t x y => dv (ev x) fun x => dv (ev y) fun y => match tsize P t with
    | some s => oRes (st1 s L m x y) k
    | none => none
  | .call c => match c.callee with
    | .builtin b => dvs (evL ev c.args.toList) fun vs => match b with
      | .append => match vs with
        | [s, x] => match c.argTypes.toList with
          | [t, t'] => match Nat.beq t t' with
            | true => oRes (aappend P L m t s x) k
            | false => none
          | _ => none
        | _ => none
      | .copy => match vs with
        | [d, s] => match lget c.argTypes.toList 0 with
          | some t => oRes (acopy P L m t d s) k
          | none => none
        | _ => none
      | .clear => match vs with
        | [x] => match lget c.argTypes.toList 0 with
          | some t => oRes (aclear P L m t x) k
          | none => none
        | _ => none
      | .len => match vs with
        | [x] => match lget c.argTypes.toList 0 with
          | some t => match P.underlying t with
            | some (.slice _) => oOpt (ln x) fun v => k v m
            | _ => oOpt (alen P t x) fun v => k v m
          | none => none
        | _ => none
      | b => oOpt (abuiltin P b c.argTypes vs) fun v => k v m
    | .value f => dvs (evL ev c.args.toList) fun vs => match f with
      | .func g => match Nat.blt g RB with
        | true => call g vs L m k
        | false => none
      | f => dv (ev f) fun f => oCallV call f vs L m k
    | _ => none
  | _ => none

/-! ### It reckons what the other evaluator does -/
/-- A call in either form. -/
def CallSim (callK : CallK β) (call : CallT) : Prop := ∀ f args L m k r, callK f args L m k = some r → ∃ v m', call f args L m = some (v, m') ∧ k v m' = some r

theorem dv_some {x : Option Value} {k : Value → Option β} {r : β} (h : dv x k = some r) : ∃ v, x = some v ∧ k v = some r := by
  simp only [dv, deep_eq] at h; split at h
  · rename_i v; exact ⟨v, rfl, h⟩
  · cases h
theorem dvs_some {x : Option (List Value)} {k : List Value → Option β} {r : β} (h : dvs x k = some r) : ∃ v, x = some v ∧ k v = some r := by
  simp only [dvs, deep_eq] at h; split at h
  · rename_i v; exact ⟨v, rfl, h⟩
  · cases h
theorem dps_some {x : Option (List (Nat × Value))} {k : List (Nat × Value) → Option β} {r : β} (h : dps x k = some r) : ∃ v, x = some v ∧ k v = some r := by
  simp only [dps, deep_eq] at h; split at h
  · rename_i v; exact ⟨v, rfl, h⟩
  · cases h
theorem oOpt_some {x : Option Value} {k : Value → Option β} {r : β} (h : oOpt x k = some r) : ∃ v, x = some v ∧ k v = some r := by
  unfold oOpt at h; split at h
  · rename_i v; exact ⟨v, rfl, h⟩
  · cases h
theorem oRes_some {x : Option (Value × Mem)} {k : Value → Mem → Option β} {r : β} (h : oRes x k = some r) : ∃ v m, x = some (v, m) ∧ k v m = some r := by
  unfold oRes at h; split at h
  · rename_i v m; exact ⟨v, m, rfl, h⟩
  · cases h
theorem ik_some {kd : IntKind} {x : Value} {k : Int → Option β} {r : β} (h : ik kd x k = some r) : ∃ j a, x = .int j a ∧ Nat.beq (kix j) (kix kd) = true ∧ k a = some r := by
  unfold ik at h
  split at h
  · split at h
    · rename_i a j hb; exact ⟨_, _, rfl, hb, h⟩
    · cases h
  · cases h
theorem evL_mono {ev ev' : Operand → Option Value} (he : ∀ x v, ev x = some v → ev' x = some v) : ∀ l vs, evL ev l = some vs → evL ev' l = some vs
  | [], vs, h => h
  | x :: l, vs, h => by
    simp only [evL] at h ⊢
    split at h
    · rename_i v hv
      rw [he _ _ hv]
      split at h
      · rename_i ws hws
        rw [evL_mono he l ws hws]
        exact h
      · cases h
    · cases h
theorem evP_mono {ev ev' : Operand → Option Value} (he : ∀ x v, ev x = some v → ev' x = some v) : ∀ l vs, evP ev l = some vs → evP ev' l = some vs
  | [], vs, h => h
  | (i, x) :: l, vs, h => by
    simp only [evP] at h ⊢
    split at h
    · rename_i v hv
      rw [he _ _ hv]
      split at h
      · rename_i ws hws
        rw [evP_mono he l ws hws]
        exact h
      · cases h
    · cases h
theorem dvo_some {ev ev' : Operand → Option Value} (he : ∀ x v, ev x = some v → ev' x = some v) {x : Option Operand} {k : Option Value → Option β} {r : β} (h : dvo ev x k = some r) :
    ∃ v, (∀ n d, abound ev' x d = abound (fun o => match o with | .tmp j => (if j = n then v else none) | _ => none) (v.map fun _ => .tmp n) d) ∧ v.isSome = x.isSome ∧ k v = some r := by
  simp only [dvo, deep_eq] at h
  split at h
  · exact ⟨none, fun n d => rfl, rfl, h⟩
  · split at h
    · rename_i v hv
      exact ⟨some v, fun n d => by simp [abound, he _ _ hv], rfl, h⟩
    · cases h

theorem sl_eq (P : Program) {ev' : Operand → Option Value} {t : TypeId} {x : Value} {lo hi mx : Option Operand} {vl vh vm : Option Value}
    (hl : ∀ d, abound ev' lo d = abound (tri vl vh vm) (vl.map fun _ => .tmp 0) d) (hh : ∀ d, abound ev' hi d = abound (tri vl vh vm) (vh.map fun _ => .tmp 1) d) (hm : ∀ d, abound ev' mx d = abound (tri vl vh vm) (vm.map fun _ => .tmp 2) d)
    (el : vl.isSome = lo.isSome) (eh : vh.isSome = hi.isSome) (em : vm.isSome = mx.isSome) : sl P t x vl vh vm = aslice P ev' t x lo hi mx := by
  have hb : ∀ a b, abounds (tri vl vh vm) a b (vl.map fun _ => .tmp 0) (vh.map fun _ => .tmp 1) (vm.map fun _ => .tmp 2) = abounds ev' a b lo hi mx := fun a b => by
    simp only [abounds, hl, hh, hm]
    cases vm <;> cases mx <;> cases vh <;> cases hi <;> first | (simp at em; done) | (simp at eh; done) | rfl
  have hb' : ∀ a b, abounds (tri vl vh vm) a b (vl.map fun _ => .tmp 0) (vh.map fun _ => .tmp 1) none = abounds ev' a b lo hi none := fun a b => by
    simp only [abounds, hl, hh]
    cases vh <;> cases hi <;> first | (simp at eh; done) | rfl
  unfold sl aslice
  simp only [hb, hb']
  cases vm <;> cases mx <;> first | (simp at em; done) | rfl
theorem abound_tri (ev' : Operand → Option Value) {x : Option Operand} {k : Option Value → Option β} {r : β} {ev : Operand → Option Value} (he : ∀ x v, ev x = some v → ev' x = some v) (h : dvo ev x k = some r) :
    ∃ v, v.isSome = x.isSome ∧ (∀ (f : Operand → Option Value) n, (∀ u, v = some u → f (.tmp n) = v) → ∀ d, abound ev' x d = abound f (v.map fun _ => .tmp n) d) ∧ k v = some r := by
  simp only [dvo, deep_eq] at h
  split at h
  · exact ⟨none, rfl, fun f n _ d => rfl, h⟩
  · split at h
    · rename_i v hv
      exact ⟨some v, rfl, fun f n hf d => by simp [abound, he _ _ hv, hf v rfl], h⟩
    · cases h

theorem denOp_ok {P : Program} {call : CallT} {callK : CallK β} {L : Nat} {ev ev' : Operand → Option Value} {m : Mem} {op : Op} {k : Value → Mem → Option β} {r : β}
    (he : ∀ x v, ev x = some v → ev' x = some v) (hf : ∀ g, ev' (.func g) = some (.func (.func g) #[] #[])) (hc : CallSim callK call) (h : denOp P callK L ev m op k = some r) :
    ∃ v m', exA P call L ev' m op = some (v, m') ∧ k v m' = some r := by
  cases op with
  | move x =>
    obtain ⟨v, h1, h2⟩ := dv_some h
    exact ⟨v, m, by simp [exA, acallee, aop, apure, he _ _ h1], h2⟩
  | assign x =>
    obtain ⟨v, h1, h2⟩ := dv_some h
    exact ⟨v, m, by simp [exA, acallee, aop, apure, he _ _ h1], h2⟩
  | pick c a b =>
    obtain ⟨c', h1, h⟩ := dv_some h
    obtain ⟨a', h2, h⟩ := dv_some h
    obtain ⟨b', h3, h⟩ := dv_some h
    unfold oPick at h
    split at h
    · split at h
      · exact ⟨_, m, by simp [exA, acallee, aop, apure, he _ _ h1, he _ _ h2], h⟩
      · exact ⟨_, m, by simp [exA, acallee, aop, apure, he _ _ h1, he _ _ h3], h⟩
    · cases h
  | binOp op t x y yt =>
    obtain ⟨x', h1, h⟩ := dv_some h
    obtain ⟨y', h2, h⟩ := dv_some h
    have fin : ∀ v, abin P op t x' y' = some v → k v m = some r → ∃ v m', exA P call L ev' m (.binOp op t x y yt) = some (v, m') ∧ k v m' = some r := fun v h3 h4 =>
      ⟨v, m, by simp [exA, acallee, aop, apure, he _ _ h1, he _ _ h2, h3], h4⟩
    have slow : ∀ {kk : Value → Option β}, kk = (fun v => k v m) → oOpt (abin P op t x' y') kk = some r → ∃ v m', exA P call L ev' m (.binOp op t x y yt) = some (v, m') ∧ k v m' = some r := fun e h3 => by
      subst e
      obtain ⟨v, h4, h5⟩ := oOpt_some h3
      exact fin v h4 h5
    unfold denBin at h
    split at h
    · rename_i kd hk
      split at h
      · rename_i hs
        unfold oInt at h
        obtain ⟨j, a, rfl, hj, h⟩ := ik_some h
        obtain ⟨j', b, rfl, hj', h⟩ := ik_some h
        obtain ⟨v, h3, h4⟩ := oOpt_some h
        obtain rfl := kix_inj hj
        obtain rfl := kix_inj hj'
        refine fin v ?_ h4
        cases op <;> first | (simp [isSh] at hs; done) | (simp only [abin, hj]; exact h3)
      · exact slow rfl h
    · exact slow rfl h
  | unOp op t x =>
    obtain ⟨x', h1, h⟩ := dv_some h
    obtain ⟨v, h2, h⟩ := oOpt_some h
    exact ⟨v, m, by simp [exA, acallee, aop, apure, he _ _ h1, h2], h⟩
  | convert s d x =>
    obtain ⟨x', h1, h⟩ := dv_some h
    have fin : ∀ v, aconv P s d x' = some v → k v m = some r → ∃ v m', exA P call L ev' m (.convert s d x) = some (v, m') ∧ k v m' = some r := fun v h3 h4 =>
      ⟨v, m, by simp [exA, acallee, aop, apure, he _ _ h1, h3], h4⟩
    split at h
    · rename_i ds hs
      split at h
      · rename_i kd hd
        unfold oCv at h
        split at h
        · obtain ⟨v, h2, h3⟩ := oOpt_some h
          exact fin v (by simp only [aconv, hs, hd]; exact h2) h3
        · cases h
      · obtain ⟨v, h2, h3⟩ := oOpt_some h
        exact fin v h2 h3
    · cases h
  | extract x i =>
    obtain ⟨x', h1, h⟩ := dv_some h
    obtain ⟨v, h2, h⟩ := oOpt_some h
    exact ⟨v, m, by simp [exA, acallee, aop, apure, he _ _ h1, h2], h⟩
  | nilCheck x =>
    obtain ⟨x', h1, h⟩ := dv_some h
    obtain ⟨v, h2, h⟩ := oOpt_some h
    exact ⟨v, m, by simp [exA, acallee, aop, apure, he _ _ h1, h2], h⟩
  | fieldAddr s x f =>
    obtain ⟨x', h1, h⟩ := dv_some h
    split at h
    · rename_i fields hs
      split at h
      · rename_i fd hfd
        split at h
        · rename_i n hn
          obtain ⟨v, h2, h⟩ := oOpt_some h
          refine ⟨v, m, ?_, h⟩
          have : afield P s x' f = some v := by
            unfold fa at h2
            split at h2
            · simp only [afield, hs, hfd, hn]; exact h2
            · cases h2
          simp [exA, acallee, aop, apure, he _ _ h1, this]
        · cases h
      · cases h
    · cases h
  | field t x f =>
    obtain ⟨x', h1, h⟩ := dv_some h
    obtain ⟨v, h2, h⟩ := oOpt_some h
    exact ⟨v, m, by simp [exA, acallee, aop, apure, he _ _ h1, h2], h⟩
  | indexAddr t x i =>
    obtain ⟨x', h1, h⟩ := dv_some h
    obtain ⟨i', h1', h⟩ := dv_some h
    have fin : ∀ v, aindexAddr P t x' i' = some v → k v m = some r → ∃ v m', exA P call L ev' m (.indexAddr t x i) = some (v, m') ∧ k v m' = some r := fun v h3 h4 =>
      ⟨v, m, by simp [exA, acallee, aop, apure, he _ _ h1, he _ _ h1', h3], h4⟩
    split at h
    · rename_i elem ht
      split at h
      · rename_i s hs
        obtain ⟨v, h2, h⟩ := oOpt_some h
        refine fin v ?_ h
        unfold ia at h2
        split at h2
        · split at h2
          · cases h2
          · split at h2
            · split at h2
              · rename_i hb
                simp only [aindexAddr, ht, hb, hs]; exact h2
              · cases h2
            · cases h2
        · cases h2
      · cases h
    · rename_i len elem ht
      split at h
      · rename_i s hs
        obtain ⟨v, h2, h⟩ := oOpt_some h
        refine fin v ?_ h
        unfold iaA at h2
        split at h2
        · split at h2
          · cases h2
          · split at h2
            · split at h2
              · rename_i hb
                simp only [aindexAddr, ht, hb, hs]; exact h2
              · cases h2
            · cases h2
        · cases h2
      · cases h
    · cases h
  | index t x i =>
    obtain ⟨x', h1, h⟩ := dv_some h
    obtain ⟨i', h1', h⟩ := dv_some h
    obtain ⟨v, h2, h⟩ := oOpt_some h
    exact ⟨v, m, by simp [exA, acallee, aop, apure, he _ _ h1, he _ _ h1', h2], h⟩
  | slice t x lo hi mx =>
    obtain ⟨x', h1, h⟩ := dv_some h
    obtain ⟨vl, e1, g1, h⟩ := abound_tri ev' he h
    obtain ⟨vh, e2, g2, h⟩ := abound_tri ev' he h
    obtain ⟨vm, e3, g3, h⟩ := abound_tri ev' he h
    obtain ⟨v, h2, h⟩ := oOpt_some h
    rw [sl_eq P (g1 (tri vl vh vm) 0 fun _ _ => rfl) (g2 (tri vl vh vm) 1 fun _ _ => rfl) (g3 (tri vl vh vm) 2 fun _ _ => rfl) e1 e2 e3] at h2
    exact ⟨v, m, by simp [exA, acallee, aop, apure, he _ _ h1, h2], h⟩
  | makeFunc fn first cs =>
    simp only [denOp] at h
    split at h
    · split at h
      · rename_i f hfirst
        obtain ⟨vs, h1, h⟩ := dvs_some h
        exact ⟨_, m, by simp [exA, acallee, aop, apure, hfirst, evL_mono he _ _ h1], h⟩
      · cases h
    · cases h
  | makeInterface t x =>
    obtain ⟨x', h1, h⟩ := dv_some h
    obtain ⟨v, h2, h⟩ := oOpt_some h
    exact ⟨v, m, by simp [exA, acallee, aop, apure, he _ _ h1, h2], h⟩
  | build t parts =>
    obtain ⟨ps, h1, h⟩ := dps_some h
    obtain ⟨v, h2, h⟩ := oOpt_some h
    refine ⟨v, m, ?_, h⟩
    have : abuild P ev' t parts.toList = some v := by
      rw [← h2]
      simp only [abuild, bu, evP_mono he _ _ h1]
      rfl
    simp [exA, acallee, aop, apure, this]
  | typeAssert x xt t ok =>
    obtain ⟨x', h1, h⟩ := dv_some h
    obtain ⟨v, h2, h⟩ := oOpt_some h
    exact ⟨v, m, by simp [exA, acallee, aop, apure, he _ _ h1, h2], h⟩
  | alloc t =>
    simp only [denOp] at h
    split at h
    · rename_i cs hcs
      obtain ⟨v, m', h2, h⟩ := oRes_some h
      exact ⟨v, m', by simp [exA, acallee, aop, aalloc, hcs, h2], h⟩
    · cases h
  | box t x =>
    obtain ⟨x', h1, h⟩ := dv_some h
    obtain ⟨v, m', h2, h⟩ := oRes_some h
    exact ⟨v, m', by simp [exA, acallee, aop, he _ _ h1, h2], h⟩
  | buildSlice t len parts =>
    obtain ⟨ps, h1, h⟩ := dps_some h
    obtain ⟨v, m', h2, h⟩ := oRes_some h
    refine ⟨v, m', ?_, h⟩
    have : abuildSlice P ev' m t len parts.toList = some (v, m') := by
      rw [← h2]
      simp only [abuildSlice, bs, evP_mono he _ _ h1]
      rfl
    simp [exA, acallee, aop, this]
  | makeSlice t l c =>
    obtain ⟨l', h1, h⟩ := dv_some h
    obtain ⟨c', h1', h⟩ := dv_some h
    obtain ⟨v, m', h2, h⟩ := oRes_some h
    exact ⟨v, m', by simp [exA, acallee, aop, he _ _ h1, he _ _ h1', h2], h⟩
  | load t x =>
    obtain ⟨x', h1, h⟩ := dv_some h
    have fin : ∀ v, aload P m t x' = some v → k v m = some r → ∃ v m', exA P call L ev' m (.load t x) = some (v, m') ∧ k v m' = some r := fun v h3 h4 =>
      ⟨v, m, by simp [exA, acallee, aop, he _ _ h1, h3], h4⟩
    split at h
    · rename_i ht
      obtain ⟨v, h2, h⟩ := oOpt_some h
      refine fin v ?_ h
      unfold ld1 at h2
      split at h2
      · simp only [aload, ht]; exact h2
      · cases h2
    · rename_i ht
      split at h
      · rename_i s hs
        obtain ⟨v, h2, h⟩ := oOpt_some h
        refine fin v ?_ h
        unfold ldN at h2
        split at h2
        · simp only [aload, ht, hs]; exact h2
        · cases h2
      · cases h
    · cases h
  | store t x y =>
    obtain ⟨x', h1, h⟩ := dv_some h
    obtain ⟨y', h1', h⟩ := dv_some h
    split at h
    · rename_i s hs
      obtain ⟨v, m', h2, h⟩ := oRes_some h
      refine ⟨v, m', ?_, h⟩
      have : astore P L m t x' y' = some (v, m') := by
        unfold st1 at h2
        split at h2
        · simp only [astore, hs]; exact h2
        · cases h2
      simp [exA, acallee, aop, he _ _ h1, he _ _ h1', this]
    · cases h
  | call c =>
    simp only [denOp] at h
    split at h
    · rename_i b hb
      obtain ⟨vs, h1, h⟩ := dvs_some h
      have h1' := evL_mono he _ _ h1
      have slow : ∀ {v}, abuiltin P b c.argTypes vs = some v → b ≠ .append → b ≠ .copy → b ≠ .clear → k v m = some r → ∃ v m', exA P call L ev' m (.call c) = some (v, m') ∧ k v m' = some r := fun {v} h3 n1 n2 n3 h4 => by
        refine ⟨v, m, ?_, h4⟩
        cases b <;> first | (simp [abuiltin] at h3; done) | (simp [exA, acallee, aop, apure, hb, h1', h3]; done) | contradiction
      split at h
      · split at h
        · split at h
          · split at h
            · rename_i hts _ hbt
              obtain ⟨v, m', h2, h⟩ := oRes_some h
              exact ⟨v, m', by simp [exA, acallee, aop, hb, h1', hts, hbt, h2], h⟩
            · cases h
          · cases h
        · cases h
      · split at h
        · split at h
          · rename_i hts
            obtain ⟨v, m', h2, h⟩ := oRes_some h
            exact ⟨v, m', by simp only [exA, acallee, aop, hb, h1', hts, h2], h⟩
          · cases h
        · cases h
      · split at h
        · split at h
          · rename_i hts
            obtain ⟨v, m', h2, h⟩ := oRes_some h
            exact ⟨v, m', by simp only [exA, acallee, aop, hb, h1', hts, h2], h⟩
          · cases h
        · cases h
      · split at h
        · split at h
          · rename_i t hts
            split at h
            · rename_i e hu
              obtain ⟨v, h2, h⟩ := oOpt_some h
              refine slow (v := v) ?_ (by decide) (by decide) (by decide) h
              unfold ln at h2
              split at h2
              · simp only [abuiltin, hts, alen, hu]; exact h2
              · cases h2
            · obtain ⟨v, h2, h⟩ := oOpt_some h
              exact slow (v := v) (by simp only [abuiltin, hts]; exact h2) (by decide) (by decide) (by decide) h
          · cases h
        · cases h
      · rename_i n1 n2 n3 n4
        obtain ⟨v, h2, h⟩ := oOpt_some h
        exact slow h2 (fun e => n1 e) (fun e => n2 e) (fun e => n3 e) h
    · rename_i f hf'
      obtain ⟨vs, h1, h⟩ := dvs_some h
      have h1' := evL_mono he _ _ h1
      split at h
      · rename_i g
        split at h
        · rename_i hglt
          obtain ⟨v, m', h2, h3⟩ := hc _ _ _ _ _ _ h
          exact ⟨v, m', by simp only [exA, acallee, hf', hf, atarget, hglt, h1']; simpa using h2, h3⟩
        · cases h
      · obtain ⟨vf, h2, h⟩ := dv_some h
        unfold oCallV at h
        split at h
        · rename_i g cs hg
          obtain ⟨v, m', h3, h4⟩ := hc _ _ _ _ _ _ h
          exact ⟨v, m', by simp [exA, acallee, hf', he _ _ h2, hg, h1', h3], h4⟩
        · rename_i hg
          split at h
          · rename_i g as hay
            obtain ⟨v, m', h3, h4⟩ := hc _ _ _ _ _ _ h
            exact ⟨v, m', by simp only [exA, acallee, hf', he _ _ h2, hg, h1', hay]; exact h3, h4⟩
          · cases h
    · cases h
  | _ => cases h
end
end Go.Vit

/- The shallow form: regions, code, functions; and that it reckons what the evaluator does. -/
namespace Go.Vit
open Go

abbrev Frm := List (Nat × Value)
abbrev KN (β : Type) := Frm → Mem → Option β
def memN (l : List Nat) (t : Nat) : Bool := match l with
  | [] => false
  | s :: l => match Nat.beq s t with
    | true => true
    | false => memN l t
def dsts : List (Oper × Bool) → List Nat
  | [] => []
  | (o, _) :: l => match o.dst with
    | some d => d :: dsts l
    | none => dsts l
def dsts0 : List Oper → List Nat
  | [] => []
  | o :: l => match o.dst with
    | some d => d :: dsts0 l
    | none => dsts0 l
/-- What a code assigns. -/
def asg : Code → List Nat
  | .region _ ops _ => dsts0 ops.toList
  | .seq a b => asg a ++ asg b
  | .cond _ a b => asg a ++ asg b
  | .block _ b => asg b
  | .loop b => asg b
  | _ => []
def hasX (id : Nat) : Code → Nat
  | .seq a b => Nat.add (hasX id a) (hasX id b)
  | .cond _ a b => Nat.add (hasX id a) (hasX id b)
  | .block _ b => hasX id b
  | .loop b => hasX id b
  | .exit i => match Nat.beq i id with
    | true => 1
    | false => 0
  | _ => 0
def falls : Code → Bool
  | .seq a b => match falls a with
    | true => falls b
    | false => false
  | .cond _ a b => match falls a with
    | true => true
    | false => falls b
  | .block id b => match falls b with
    | true => true
    | false => Nat.ble 1 (hasX id b)
  | .loop _ => false
  | .exit _ => false
  | .ret => false
  | _ => true
def multi (id : Nat) (b : Code) : Bool := match falls b with
  | true => Nat.ble 1 (hasX id b)
  | false => Nat.ble 2 (hasX id b)
def both (a b : Code) : Bool := match falls a with
  | true => falls b
  | false => false
def rmv (ds : List Nat) : Frm → Frm
  | [] => []
  | (t, v) :: fr => match memN ds t with
    | true => rmv ds fr
    | false => (t, v) :: rmv ds fr
def sameG (a b : Option (Nat × Bool)) : Bool := match a, b with
  | none, none => true
  | some (i, true), some (j, true) => Nat.beq i j
  | some (i, false), some (j, false) => Nat.beq i j
  | _, _ => false
def segs : List (Oper × Bool) → List (Option (Nat × Bool) × List (Oper × Bool))
  | [] => []
  | x :: l => match segs l with
    | [] => [(x.1.guard, [x])]
    | (g, os) :: rest => match sameG g x.1.guard with
      | true => (g, x :: os) :: rest
      | false => (x.1.guard, [x]) :: (g, os) :: rest
/-- Which slots a join carries: by a place's number and a further one. -/
abbrev Kat := List (Nat × (Nat × List Nat))
def katOf : Kat → Nat → Nat → List Nat
  | [], _, _ => []
  | (p, (i, l)) :: r, q, j => match Nat.beq p q with
    | true => match Nat.beq i j with
      | true => l
      | false => katOf r q j
    | false => katOf r q j

section
variable {β : Type}
def bindK : List Nat → List Value → Frm → (Frm → Option β) → Option β
  | [], _, fr, k => deep c40 <| k fr
  | s :: ss, vs, fr, k => deep c40 <| uc vs fun a vs => bindK ss vs ((s, a) :: fr) k
def packK : List Nat → Frm → (List Value → Option β) → Option β
  | [], _, k => deep c40 <| k []
  | s :: ss, fr, k => deep c40 <| match look fr s with
    | some v => packK ss fr fun vs => k (v :: vs)
    | none => none
def bindA : Nat → Nat → List Value → Frm → (Frm → Option β) → Option β
  | _, 0, l, fr, k => deep c40 <| un0 l (k fr)
  | s, n + 1, l, fr, k => deep c40 <| uc l fun a l => bindA (Nat.succ s) n l ((s, a) :: fr) k
def undefK (N : Nat) : List (Oper × Bool) → Frm → (Frm → Option β) → Option β
  | [], fr, k => deep c40 <| k fr
  | (o, _) :: l, fr, k => deep c40 <| match o.dst with
    | none => undefK N l fr k
    | some d => match Nat.blt d N with
      | true => undefK N l ((d, Go.undef) :: fr) k
      | false => none
def denRun (P : Program) (G N : Nat) (call : CallK β) (L : Nat) : List (Oper × Bool) → Frm → Mem → KN β → Option β
  | [], fr, m, k => k fr m
  | (o, e) :: l, fr, m, k => denOp P call (match e with | true => L | false => m.next) (aeval G (look fr)) m o.op fun v m => match o.dst with
    | none => denRun P G N call L l fr m k
    | some d => match Nat.blt d N with
      | true => denRun P G N call L l ((d, v) :: fr) m k
      | false => none
def guardK (want : Bool) (v : Value) (a b : Option β) : Option β := deep c40 <| match want with
  | true => oGT v a b
  | false => oGF v a b
def denSegs (P : Program) (G N : Nat) (call : CallK β) (ka : Kat) (L : Nat) (ops : List Oper) (p : Nat) : List (Option (Nat × Bool) × List (Oper × Bool)) → Nat → Frm → Mem → KN β → Option β
  | [], _, fr, m, k => k fr m
  | (g, os) :: rest, i, fr, m, k => match g with
    | none => denRun P G N call L os fr m fun fr m => denSegs P G N call ka L ops p rest (Nat.succ i) fr m k
    | some (j, want) => match lget ops j with
      | none => none
      | some oj => match oj.dst with
        | none => none
        | some d => match memN (dsts os) d with
          | true => none
          | false => match look fr d with
            | none => none
            | some vb => join (fun vs m => bindK (katOf ka p i) vs (rmv (dsts os) fr) fun fr => denSegs P G N call ka L ops p rest (Nat.succ i) fr m k)
                fun jn => guardK want vb (denRun P G N call L os fr m fun fr m => packK (katOf ka p i) fr fun vs => jn vs m) (undefK N os fr fun fr => packK (katOf ka p i) fr fun vs => jn vs m)
def neK (ev : Operand → Option Value) : List (Operand × Operand) → Option β → Option β
  | [], k => k
  | (a, b) :: l, k => match ev a with
    | none => none
    | some x => match ev b with
      | none => none
      | some y => oNe x y (neK ev l k)
def denReg1 (P : Program) (G N : Nat) (call : CallK β) (ka : Kat) (L : Nat) (ops : List Oper) (p : Nat) (draw : Bool) (fr : Frm) (m : Mem) (k : KN β) : Option β := match draw with
  | false => denSegs P G N call ka L ops p (segs (pairT ops)) 0 fr m k
  | true => match needLoose ops with
    | true => match looseOk ops with
      | true => denSegs P G N call ka L ops p (segs (pairT ops)) 0 fr m fun fr m => neK (aeval G (look fr)) (loosePairs ops) (k fr m)
      | false => none
    | false => match drawOk ops with
      | true => denSegs P G N call ka L ops p (segs (flags ops)) 0 fr m k
      | false => none
def smK (ev : Operand → Option Value) (m m' : Mem) : List Operand → Option β → Option β
  | [], k => k
  | a :: l, k => match ev a with
    | none => none
    | some v => oSm m m' v (smK ev m m' l k)
def denReg (P : Program) (G N : Nat) (call : CallK β) (ka : Kat) (L : Nat) (ops : List Oper) (p : Nat) (draw : Bool) (fr : Frm) (m : Mem) (k : KN β) : Option β := match draw with
  | false => denReg1 P G N call ka L ops p false fr m k
  | true => match lateCut ops with
    | none => denReg1 P G N call ka L ops p true fr m k
    | some j => denSegs P G N call ka L ops p (segs ((lflags ops).take j)) 0 fr m fun fr1 m1 =>
        denSegs P G N call ka L ops p (segs (((lflags ops).drop j).take 1)) (segs ((lflags ops).take j)).length fr1 m1 fun fr2 m2 =>
          smK (aeval G (look fr1)) m1 m2 (lateAddrs ops j) (denSegs P G N call ka L ops p (segs ((lflags ops).drop (Nat.succ j))) (Nat.succ (segs ((lflags ops).take j)).length) fr2 m2 k)
def lookK : List (Nat × KN β) → Nat → Option (KN β)
  | [], _ => none
  | (i, k) :: l, id => match Nat.beq i id with
    | true => some k
    | false => lookK l id
def den (P : Program) (X : Option (Nat × LInfo)) (G N : Nat) (call : CallK β) (ka : Kat) (lf L : Nat) : Code → Nat → Frm → Mem → KN β → List (Nat × KN β) → KN β → Option β
  | .skip, _, fr, m, k, _, _ => k fr m
  | .region _ ops draw, p, fr, m, k, _, _ => denReg P G N call ka L ops.toList p draw fr m k
  | .seq a b, p, fr, m, k, ks, kr => den P X G N call ka lf L a (Nat.add (Nat.mul 2 p) 1) fr m (fun fr m => den P X G N call ka lf L b (Nat.add (Nat.mul 2 p) 2) fr m k ks kr) ks kr
  | .cond c a b, p, fr, m, k, ks, kr => match aeval G (look fr) c with
    | none => none
    | some v => match both a b with
      | true => join (fun vs m => bindK (katOf ka p 0) vs (rmv (asg a ++ asg b) fr) fun fr => k fr m)
          fun jn => oIf v (den P X G N call ka lf L a (Nat.add (Nat.mul 2 p) 1) fr m (fun fr m => packK (katOf ka p 0) fr fun vs => jn vs m) ks kr)
            (den P X G N call ka lf L b (Nat.add (Nat.mul 2 p) 2) fr m (fun fr m => packK (katOf ka p 0) fr fun vs => jn vs m) ks kr)
      | false => oIf v (den P X G N call ka lf L a (Nat.add (Nat.mul 2 p) 1) fr m k ks kr) (den P X G N call ka lf L b (Nat.add (Nat.mul 2 p) 2) fr m k ks kr)
  | .block id body, p, fr, m, k, ks, kr => match multi id body with
    | true => join (fun vs m => bindK (katOf ka p 0) vs (rmv (asg body) fr) fun fr => k fr m)
        fun jn => den P X G N call ka lf L body (Nat.add (Nat.mul 2 p) 1) fr m (fun fr m => packK (katOf ka p 0) fr fun vs => jn vs m) ((Nat.mul 2 id, fun fr m => packK (katOf ka p 0) fr fun vs => jn vs m) :: ks) kr
    | false => den P X G N call ka lf L body (Nat.add (Nat.mul 2 p) 1) fr m k ((Nat.mul 2 id, k) :: ks) kr
  | .loop body, p, fr, m, _, ks, kr => packK (katOf ka p 0) fr fun vs =>
      loopS (fun self vs m => bindK (katOf ka p 0) vs (rmv (asg body) fr) fun fr => den P X G N call ka lf L body (Nat.add (Nat.mul 2 p) 1) fr m (fun fr m => packK (katOf ka p 0) fr fun vs => self vs m) ks kr) lf vs m
  | .goto l, _, fr, m, _, ks, _ => match lookK ks (Nat.succ (Nat.mul 2 l)) with
    | some k => k fr m
    | none => none
  | .exit id, _, fr, m, _, ks, _ => match lookK ks (Nat.mul 2 id) with
    | some k => k fr m
    | none => none
  | .ret, _, fr, m, _, _, kr => kr fr m
  | .label _, _, fr, m, k, _, _ => k fr m
  | .rangeFunc g _ _ _, _, fr, m, k, _, _ => match X with
    | none => none
    | some (f, i) => match aeval G (look fr) g with
      | none => none
      | some vf => packK i.fs fr fun vs => oRange call f vf vs L m fun m => k fr m
  | _, _, _, _, _, _, _ => none
def labOf : Code → Option Nat
  | .seq a b => match labOf a with
    | some l => some l
    | none => labOf b
  | .label l => some l
  | _ => none
/-- A body: a scope with one label may be its last part. -/
def denB (P : Program) (X : Option (Nat × LInfo)) (G N : Nat) (call : CallK β) (ka : Kat) (lf L : Nat) : Code → Nat → Frm → Mem → KN β → KN β → Option β
  | .scope c, p, fr, m, k, kr => match labOf c with
    | none => none
    | some l => match findLabel c l with
      | none => none
      | some rest => join (fun vs m => loopS (fun self vs m => bindK (katOf ka p 0) vs (rmv (asg c ++ asg rest) fr) fun fr => den P none G N call ka lf L rest (Nat.add (Nat.mul 2 p) 2) fr m k [(Nat.succ (Nat.mul 2 l), fun fr m => packK (katOf ka p 0) fr fun vs => self vs m)] kr) lf vs m)
          fun jn => den P none G N call ka lf L c (Nat.add (Nat.mul 2 p) 1) fr m k [(Nat.succ (Nat.mul 2 l), fun fr m => packK (katOf ka p 0) fr fun vs => jn vs m)] kr
  | .seq a b, p, fr, m, k, kr => den P X G N call ka lf L a (Nat.add (Nat.mul 2 p) 1) fr m (fun fr m => denB P X G N call ka lf L b (Nat.add (Nat.mul 2 p) 2) fr m k kr) [] kr
  | c, p, fr, m, k, kr => den P X G N call ka lf L c p fr m k [] kr
def denLd (P : Program) (m : Mem) (t : TypeId) (x : Value) (k : Value → Option β) : Option β := deep c40 <| match tagg P t with
  | some false => oOpt (ld1 m x) k
  | some true => match tsize P t with
    | some s => oOpt (ldN m s x) k
    | none => none
  | none => none
def denRes (P : Program) : List ResultVar → Frm → Mem → (List Value → Option β) → Option β
  | [], _, _, k => deep c40 <| k []
  | r :: l, fr, m, k => deep c40 <| match r with
    | .tmp t => match look fr t with
      | some v => denRes P l fr m fun vs => k (v :: vs)
      | none => none
    | .cell a t => match look fr a with
      | some x => denLd P m t x fun v => denRes P l fr m fun vs => k (v :: vs)
      | none => none
def denF (P : Program) (FSl : Nat → List Nat) (G : Nat) (ka : Kat) (lf : Nat) (call : CallK β) : CallK β := fun f args L m k => match P.funcs[f]? with
  | none => none
  | some fn => match fn.body with
    | none => none
    | some c => match Nat.ble (Nat.add fn.params.size fn.nfree) fn.ntmps with
      | false => none
      | true => bindA 0 (Nat.add fn.params.size fn.nfree) args [] fun fr => denB P (xOf FSl f fn.ntmps c) G fn.ntmps call ka lf L c 1 fr m (fun fr m => denRes P fn.results.toList fr m fun vs => k (oneOr vs) m) (fun fr m => denRes P fn.results.toList fr m fun vs => k (oneOr vs) m)

def bindR (n : Nat) : List Nat → List Value → Frm → (Frm → Option β) → Option β
  | [], as, fr, k => deep c40 <| un0 as (k fr)
  | s :: ss, as, fr, k => deep c40 <| match Nat.blt s n with
    | true => uc as fun a as => bindR n ss as ((s, a) :: fr) k
    | false => none
/-- A round. -/
def denR (P : Program) (LT : Nat → Option LInfo) (G : Nat) (ka : Kat) (lf : Nat) (call : CallK β) : CallK β := fun f args L m k => match LT f with
  | none => none
  | some i => uc args fun yv as => oYv yv L fun y => bindR i.n (i.fs ++ i.ps) as [] fun fr =>
      den P none G i.n call ka lf L i.assign 3 fr m (fun fr m => oBusy f y m fun m => den P none G i.n call ka lf L i.body 4 fr m (fun _ m => oReady f y m fun m => k (.bool true) m) [] fun _ _ => none) [] fun _ _ => none

/-! ### It reckons what the evaluator does -/
structure Sub (N : Nat) (fr : Frm) (fr1 : Fr) : Prop where
  len : fr1.ps.length = N
  get : ∀ t v, look fr t = some v → t < N ∧ lget fr1.ps t = some (some v)
def Kept (ds : List Nat) (fr1 fr2 : Fr) : Prop := ∀ t, memN ds t = false → lget fr2.ps t = lget fr1.ps t

theorem pos_range : ∀ (n s t : Nat), s ≤ t → t < s + n → pos (List.range' s n) t = some (t - s)
  | 0, s, t, h1, h2 => by omega
  | n + 1, s, t, h1, h2 => by
    rw [range_cons]
    simp only [pos]
    by_cases h : s = t
    · subst h
      have hb : Nat.beq s s = true := Nat.beq_refl s
      rw [hb]
      simp
    · have hb : Nat.beq s t = false := by
        cases hh : Nat.beq s t with
        | false => rfl
        | true => exact absurd (Nat.eq_of_beq_eq_true hh) h
      rw [hb]
      simp only []
      rw [pos_range n (s + 1) t (by omega) (by omega)]
      simp only [Option.some.injEq]
      omega
theorem pos_all {N t : Nat} (h : t < N) : pos (List.range N) t = some t := by
  rw [List.range_eq_range', pos_range N 0 t (by omega) (by omega)]
  rfl
theorem Sub.fget {N : Nat} {fr : Frm} {fr1 : Fr} (h : Sub N fr fr1) {t : Nat} {v : Value} (ht : look fr t = some v) : Vit.fget (List.range N) fr1 t = some v := by
  obtain ⟨h1, h2⟩ := h.get t v ht
  unfold Vit.fget
  rw [pos_all h1]
  show oJ (lget fr1.ps t) = some v
  rw [h2]; rfl
theorem Sub.eval {N G : Nat} {fr : Frm} {fr1 : Fr} (h : Sub N fr fr1) (x : Operand) (v : Value) (hx : aeval G (look fr) x = some v) : aeval G (Vit.fget (List.range N) fr1) x = some v := by
  cases x with
  | tmp t => exact h.fget hx
  | _ => exact hx
/-- A slot set. -/
def put1 (fr1 : Fr) (d : Nat) (v : Value) : Fr := ⟨fr1.ps.set d (some v), fr1.ts⟩
theorem fsetK_all {γ : Type} {N d : Nat} (h : Nat.blt d N = true) (fr1 : Fr) (v : Value) (k : Fr → Option γ) : fsetK N (List.range N) fr1 d v k = k (put1 fr1 d v) := by
  have hd : d < N := by simpa using h
  unfold fsetK
  rw [h, pos_all hd]
  simp only [lsetK_eq]
  rfl
theorem Sub.put {N : Nat} {fr : Frm} {fr1 : Fr} (h : Sub N fr fr1) {d : Nat} (v : Value) (hd : Nat.blt d N = true) : Sub N ((d, v) :: fr) (put1 fr1 d v) := by
  have hd : d < N := by simpa using hd
  refine ⟨by simp [put1, h.len], fun t u hu => ?_⟩
  simp only [look] at hu
  split at hu
  · rename_i hb
    obtain rfl := Nat.eq_of_beq_eq_true hb
    cases hu
    exact ⟨hd, by simp [put1, lget_eq, List.getElem?_set, h.len, hd]⟩
  · rename_i hb
    obtain ⟨g1, g2⟩ := h.get t u hu
    have hne : d ≠ t := fun e => by subst e; rw [Nat.beq_refl] at hb; cases hb
    refine ⟨g1, ?_⟩
    rw [lget_eq] at g2 ⊢
    simp only [put1, List.getElem?_set, hne, if_false]
    exact g2
theorem Kept.refl (ds : List Nat) (fr1 : Fr) : Kept ds fr1 fr1 := fun _ _ => rfl
theorem memN_append : ∀ (a b : List Nat) (t : Nat), memN (a ++ b) t = false → memN a t = false ∧ memN b t = false
  | [], b, t, h => ⟨rfl, h⟩
  | s :: a, b, t, h => by
    simp only [List.cons_append, memN] at h ⊢
    split at h
    · cases h
    · rename_i hb
      simpa [hb] using memN_append a b t h
theorem Kept.trans {a b : List Nat} {fr1 fr2 fr3 : Fr} (h : Kept a fr1 fr2) (h' : Kept b fr2 fr3) : Kept (a ++ b) fr1 fr3 := fun t ht => by
  obtain ⟨h1, h2⟩ := memN_append a b t ht
  exact (h' t h2).trans (h t h1)
theorem Kept.left {a b : List Nat} {fr1 fr2 : Fr} (h : Kept a fr1 fr2) : Kept (a ++ b) fr1 fr2 := fun t ht => h t (memN_append a b t ht).1
theorem Kept.right {a b : List Nat} {fr1 fr2 : Fr} (h : Kept b fr1 fr2) : Kept (a ++ b) fr1 fr2 := fun t ht => h t (memN_append a b t ht).2
theorem Kept.put (fr1 : Fr) (d : Nat) (v : Value) : Kept [d] fr1 (put1 fr1 d v) := fun t ht => by
  simp only [memN] at ht
  split at ht
  · cases ht
  · rename_i hb
    have hne : d ≠ t := fun e => by subst e; rw [Nat.beq_refl] at hb; cases hb
    rw [lget_eq, lget_eq]
    simp only [put1, List.getElem?_set, hne, if_false]
theorem look_rmv {ds : List Nat} {t : Nat} {v : Value} : ∀ {fr : Frm}, look (rmv ds fr) t = some v → memN ds t = false ∧ look fr t = some v
  | [], h => by cases h
  | (s, u) :: fr, h => by
    simp only [rmv] at h
    split at h
    · rename_i hs
      obtain ⟨h1, h2⟩ := look_rmv h
      refine ⟨h1, ?_⟩
      simp only [look]
      split
      · rename_i hb
        obtain rfl := Nat.eq_of_beq_eq_true hb
        rw [hs] at h1; cases h1
      · exact h2
    · rename_i hs
      simp only [look] at h ⊢
      split at h
      · rename_i hb
        obtain rfl := Nat.eq_of_beq_eq_true hb
        exact ⟨hs, h⟩
      · exact look_rmv h
theorem Sub.rmv {N : Nat} {fr : Frm} {fr1 fr2 : Fr} (h : Sub N fr fr1) {ds : List Nat} (hk : Kept ds fr1 fr2) (hl : fr2.ps.length = N) : Sub N (rmv ds fr) fr2 := by
  refine ⟨hl, fun t v hv => ?_⟩
  obtain ⟨h1, h2⟩ := look_rmv hv
  obtain ⟨h3, h4⟩ := h.get t v h2
  exact ⟨h3, (hk t h1).trans h4⟩
theorem un0_some {l : List Value} {k : Option β} {r : β} (h : un0 l k = some r) : l = [] ∧ k = some r := by
  unfold un0 at h
  split at h
  · exact ⟨rfl, h⟩
  · cases h

theorem uc_some {l : List Value} {k : Value → List Value → Option β} {r : β} (h : uc l k = some r) : ∃ a l', l = a :: l' ∧ k a l' = some r := by
  unfold uc at h
  split at h
  · rename_i a l'; exact ⟨a, l', rfl, h⟩
  · cases h
theorem Sub.cons {N : Nat} {fr : Frm} {fr1 : Fr} (h : Sub N fr fr1) {s : Nat} {v : Value} (hs : s < N ∧ lget fr1.ps s = some (some v)) : Sub N ((s, v) :: fr) fr1 := by
  refine ⟨h.len, fun t u hu => ?_⟩
  simp only [look] at hu
  split at hu
  · rename_i hb
    obtain rfl := Nat.eq_of_beq_eq_true hb
    cases hu
    exact hs
  · exact h.get t u hu
/-- What is packed is unpacked. -/
theorem pack_bind {N : Nat} {fr1 : Fr} {r : β} : ∀ (K : List Nat) {fr fr0 : Frm} {k : Frm → Option β}, Sub N fr fr1 → Sub N fr0 fr1 → packK K fr (fun vs => bindK K vs fr0 k) = some r → ∃ fr', Sub N fr' fr1 ∧ k fr' = some r
  | [], fr, fr0, k, h1, h2, h => ⟨fr0, h2, h⟩
  | s :: ss, fr, fr0, k, h1, h2, h => by
    simp only [packK, deep_eq] at h
    split at h
    · rename_i v hv
      simp only [bindK, deep_eq, uc] at h
      exact pack_bind ss h1 (h2.cons (h1.get s v hv)) h
    · cases h

section
variable {P : Program} {G N L lf : Nat} {callK : CallK β} {call : CallT} {ka : Kat}

/-- A run of operations that are all wanted. -/
theorem denRun_ok (hc : CallSim callK call) {ops : List Oper} {r : β} {k : KN β} {W : Fr → Prop} : ∀ (l : List (Oper × Bool)) (fr : Frm) (m : Mem) (fr1 : Fr),
    (∀ x, x ∈ l → ∀ fr2, W fr2 → wantA (List.range N) ops fr2 x.1 = some true) → (∀ x, x ∈ l → ∀ d, x.1.dst = some d → ∀ v fr2, W fr2 → W (put1 fr2 d v)) → W fr1 → Sub N fr fr1 →
    denRun P G N callK L l fr m k = some r → ∃ fr' fr1' m', (∀ rest, evOps P G N (List.range N) call ops L (l ++ rest) fr1 m = evOps P G N (List.range N) call ops L rest fr1' m') ∧ Sub N fr' fr1' ∧ Kept (dsts l) fr1 fr1' ∧ k fr' m' = some r
  | [], fr, m, fr1, _, _, _, hs, h => ⟨fr, fr1, m, fun rest => rfl, hs, Kept.refl _ _, h⟩
  | (o, e) :: l, fr, m, fr1, hw, hp, hW, hs, h => by
    simp only [denRun] at h
    obtain ⟨v, m1, hx, h⟩ := denOp_ok (ev' := aeval G (fget (List.range N) fr1)) (fun x v hx => hs.eval x v hx) (fun g => rfl) hc h
    have hwant := hw (o, e) (List.mem_cons_self ..) fr1 hW
    split at h
    · rename_i hd
      obtain ⟨fr', fr1', m', h1, h2, h3, h4⟩ := denRun_ok hc l fr m1 fr1 (fun x hx => hw x (List.mem_cons_of_mem _ hx)) (fun x hx => hp x (List.mem_cons_of_mem _ hx)) hW hs h
      refine ⟨fr', fr1', m', fun rest => ?_, h2, ?_, h4⟩
      · cases e <;> simp only [] at hx <;> simp only [List.cons_append, evOps, hwant, hx, hd] <;> exact h1 rest
      · simp only [dsts, hd]; exact h3
    · rename_i d hd
      split at h
      · rename_i hdN
        obtain ⟨fr', fr1', m', h1, h2, h3, h4⟩ := denRun_ok hc l ((d, v) :: fr) m1 (put1 fr1 d v) (fun x hx => hw x (List.mem_cons_of_mem _ hx)) (fun x hx => hp x (List.mem_cons_of_mem _ hx))
          (hp (o, e) (List.mem_cons_self ..) d hd v fr1 hW) (hs.put v hdN) h
        refine ⟨fr', fr1', m', fun rest => ?_, h2, ?_, h4⟩
        · cases e <;> simp only [] at hx <;> simp only [List.cons_append, evOps, hwant, hx, hd, fsetK_all hdN] <;> exact h1 rest
        · simp only [dsts, hd]
          exact Kept.trans (a := [d]) (Kept.put _ _ _) h3
      · cases h
/-- A run of operations none of which is wanted. -/
theorem undefK_ok {ops : List Oper} {r : β} {k : Frm → Option β} {W : Fr → Prop} : ∀ (l : List (Oper × Bool)) (fr : Frm) (m : Mem) (fr1 : Fr),
    (∀ x, x ∈ l → ∀ fr2, W fr2 → wantA (List.range N) ops fr2 x.1 = some false) → (∀ x, x ∈ l → ∀ d, x.1.dst = some d → ∀ v fr2, W fr2 → W (put1 fr2 d v)) → W fr1 → Sub N fr fr1 →
    undefK N l fr k = some r → ∃ fr' fr1', (∀ rest, evOps P G N (List.range N) call ops L (l ++ rest) fr1 m = evOps P G N (List.range N) call ops L rest fr1' m) ∧ Sub N fr' fr1' ∧ Kept (dsts l) fr1 fr1' ∧ k fr' = some r
  | [], fr, m, fr1, _, _, _, hs, h => ⟨fr, fr1, fun rest => rfl, hs, Kept.refl _ _, h⟩
  | (o, e) :: l, fr, m, fr1, hw, hp, hW, hs, h => by
    simp only [undefK, deep_eq] at h
    have hwant := hw (o, e) (List.mem_cons_self ..) fr1 hW
    split at h
    · rename_i hd
      obtain ⟨fr', fr1', h1, h2, h3, h4⟩ := undefK_ok l fr m fr1 (fun x hx => hw x (List.mem_cons_of_mem _ hx)) (fun x hx => hp x (List.mem_cons_of_mem _ hx)) hW hs h
      refine ⟨fr', fr1', fun rest => ?_, h2, ?_, h4⟩
      · simp only [List.cons_append, evOps, hwant, hd]
        exact h1 rest
      · simp only [dsts, hd]; exact h3
    · rename_i d hd
      split at h
      · rename_i hdN
        obtain ⟨fr', fr1', h1, h2, h3, h4⟩ := undefK_ok l ((d, Go.undef) :: fr) m (put1 fr1 d Go.undef) (fun x hx => hw x (List.mem_cons_of_mem _ hx)) (fun x hx => hp x (List.mem_cons_of_mem _ hx))
          (hp (o, e) (List.mem_cons_self ..) d hd _ fr1 hW) (hs.put _ hdN) h
        refine ⟨fr', fr1', fun rest => ?_, h2, ?_, h4⟩
        · simp only [List.cons_append, evOps, hwant, hd, fsetK_all hdN]
          exact h1 rest
        · simp only [dsts, hd]
          exact Kept.trans (a := [d]) (Kept.put _ _ _) h3
      · cases h
end
end
end Go.Vit

/- The shallow form is sound: regions, code, functions. -/
namespace Go.Vit
open Go

theorem dsts_append : ∀ a b : List (Oper × Bool), dsts (a ++ b) = dsts a ++ dsts b
  | [], b => rfl
  | (o, e) :: a, b => by
    simp only [List.cons_append, dsts]
    cases o.dst <;> simp [dsts_append a b]
theorem memN_tail {d s : Nat} {l : List Nat} (h : memN (s :: l) d = false) : s ≠ d ∧ memN l d = false := by
  simp only [memN] at h
  split at h
  · cases h
  · rename_i hb
    refine ⟨fun he => ?_, h⟩
    subst he
    rw [Nat.beq_refl] at hb
    cases hb
theorem dsts_mem {d d' : Nat} : ∀ {l : List (Oper × Bool)} {x : Oper × Bool}, memN (dsts l) d = false → x ∈ l → x.1.dst = some d' → d' ≠ d
  | [], x, _, hx, _ => absurd hx List.not_mem_nil
  | (o, e) :: l, x, h, hx, hd => by
    have hcons : dsts ((o, e) :: l) = match o.dst with | some d => d :: dsts l | none => dsts l := rfl
    rw [hcons] at h
    rcases List.mem_cons.1 hx with rfl | hx
    · have hd : o.dst = some d' := hd
      rw [hd] at h
      exact (memN_tail h).1
    · refine dsts_mem (l := l) ?_ hx hd
      cases ho : o.dst with
      | none => rw [ho] at h; exact h
      | some d2 => rw [ho] at h; exact (memN_tail h).2
theorem sameG_eq {a b : Option (Nat × Bool)} (h : sameG a b = true) : a = b := by
  unfold sameG at h
  split at h
  · rfl
  · obtain rfl := Nat.eq_of_beq_eq_true h; rfl
  · obtain rfl := Nat.eq_of_beq_eq_true h; rfl
  · cases h
def flat (sg : List (Option (Nat × Bool) × List (Oper × Bool))) : List (Oper × Bool) := sg.flatMap (·.2)
theorem segs_ok : ∀ l, flat (segs l) = l ∧ ∀ g os, (g, os) ∈ segs l → ∀ x, x ∈ os → x.1.guard = g
  | [] => ⟨rfl, fun g os h => by cases h⟩
  | x :: l => by
    obtain ⟨h1, h2⟩ := segs_ok l
    simp only [segs]
    split
    · rename_i hs
      rw [hs] at h1
      refine ⟨by rw [← h1]; rfl, fun g os h y hy => ?_⟩
      simp only [List.mem_singleton, Prod.mk.injEq] at h
      obtain ⟨rfl, rfl⟩ := h
      simp only [List.mem_singleton] at hy
      subst hy
      rfl
    · rename_i g os rest hs
      rw [hs] at h1 h2
      split
      · rename_i hg
        have hg := sameG_eq hg
        refine ⟨by rw [← h1]; rfl, fun g' os' h y hy => ?_⟩
        cases h with
        | head =>
          cases hy with
          | head => exact hg.symm
          | tail _ hy => exact h2 g os (List.mem_cons_self ..) y hy
        | tail _ h => exact h2 g' os' (List.mem_cons_of_mem _ h) y hy
      · refine ⟨by rw [← h1]; rfl, fun g' os' h y hy => ?_⟩
        cases h with
        | head =>
          simp only [List.mem_singleton] at hy
          subst hy
          rfl
        | tail _ h => exact h2 g' os' h y hy

section
variable {β : Type} {P : Program} {G N L lf : Nat} {callK : CallK β} {call : CallT} {ka : Kat}

theorem guardK_some {want : Bool} {v : Value} {a b : Option β} {r : β} (h : guardK want v a b = some r) : (v = .bool want ∧ a = some r) ∨ ((v = .bool (!want) ∨ ∃ vs, v = .tuple vs) ∧ b = some r) := by
  simp only [guardK, deep_eq] at h
  split at h
  · unfold oGT at h
    split at h
    · split at h
      · exact .inl ⟨rfl, h⟩
      · exact .inr ⟨.inl rfl, h⟩
    · rename_i vs; exact .inr ⟨.inr ⟨_, rfl⟩, h⟩
    · cases h
  · unfold oGF at h
    split at h
    · split at h
      · exact .inr ⟨.inl rfl, h⟩
      · exact .inl ⟨rfl, h⟩
    · rename_i vs; exact .inr ⟨.inr ⟨_, rfl⟩, h⟩
    · cases h

theorem Kept.len {ds : List Nat} {fr1 fr2 : Fr} {N : Nat} {fr : Frm} (h : Sub N fr fr2) : fr2.ps.length = N := h.len

theorem denSegs_ok (hc : CallSim callK call) {ops : List Oper} {p : Nat} {r : β} {k : KN β} : ∀ (sg : List (Option (Nat × Bool) × List (Oper × Bool))) (i : Nat) (fr : Frm) (m : Mem) (fr1 : Fr),
    (∀ g os, (g, os) ∈ sg → ∀ x, x ∈ os → x.1.guard = g) → Sub N fr fr1 → denSegs P G N callK ka L ops p sg i fr m k = some r →
    ∃ fr' fr1' m', evOps P G N (List.range N) call ops L (flat sg) fr1 m = some (fr1', m') ∧ Sub N fr' fr1' ∧ Kept (dsts (flat sg)) fr1 fr1' ∧ k fr' m' = some r
  | [], i, fr, m, fr1, _, hs, h => ⟨fr, fr1, m, rfl, hs, Kept.refl _ _, h⟩
  | (g, os) :: rest, i, fr, m, fr1, hg, hs, h => by
    have hgo := hg g os (List.mem_cons_self ..)
    have hgr : ∀ g os, (g, os) ∈ rest → ∀ x, x ∈ os → x.1.guard = g := fun g os hm => hg g os (List.mem_cons_of_mem _ hm)
    have hfl : flat ((g, os) :: rest) = os ++ flat rest := rfl
    simp only [denSegs] at h
    split at h
    · obtain ⟨fr', fr1', m', h1, h2, h3, h4⟩ := denRun_ok (W := fun _ => True) (ops := ops) hc os fr m fr1 (fun x hx fr2 _ => by simp only [wantA, hgo x hx]) (fun _ _ _ _ _ _ _ => trivial) trivial hs h
      obtain ⟨fr2, fr3, m2, g1, g2, g3, g4⟩ := denSegs_ok hc rest (Nat.succ i) fr' m' fr1' hgr h2 h4
      refine ⟨fr2, fr3, m2, ?_, g2, ?_, g4⟩
      · rw [hfl, h1, g1]
      · rw [hfl, dsts_append]; exact h3.trans g3
    · rename_i j want
      split at h
      · cases h
      · rename_i oj hoj
        split at h
        · cases h
        · rename_i d hd
          split at h
          · cases h
          · rename_i hmem
            split at h
            · cases h
            · rename_i vb hvb
              obtain ⟨hdN, hlg⟩ := hs.get d vb hvb
              have hfg : ∀ fr2 : Fr, lget fr2.ps d = some (some vb) → fget (List.range N) fr2 d = some vb := fun fr2 h2 => by
                unfold fget; rw [pos_all hdN]; show oJ (lget fr2.ps d) = some vb; rw [h2]; rfl
              have pres : ∀ x, x ∈ os → ∀ d', x.1.dst = some d' → ∀ v fr2, lget fr2.ps d = some (some vb) → lget (put1 fr2 d' v).ps d = some (some vb) := fun x hx d' hd' v fr2 h2 => by
                have hne := dsts_mem hmem hx hd'
                rw [lget_eq] at h2 ⊢
                simp only [put1, List.getElem?_set, hne, if_false]
                exact h2
              -- behind the join
              have fin : ∀ fr' fr1' m', (∀ rest, evOps P G N (List.range N) call ops L (os ++ rest) fr1 m = evOps P G N (List.range N) call ops L rest fr1' m') → Sub N fr' fr1' → Kept (dsts os) fr1 fr1' →
                  packK (katOf ka p i) fr' (fun vs => bindK (katOf ka p i) vs (rmv (dsts os) fr) fun fr => denSegs P G N callK ka L ops p rest (Nat.succ i) fr m' k) = some r →
                  ∃ fr' fr1' m', evOps P G N (List.range N) call ops L (flat ((some (j, want), os) :: rest)) fr1 m = some (fr1', m') ∧ Sub N fr' fr1' ∧ Kept (dsts (flat ((some (j, want), os) :: rest))) fr1 fr1' ∧ k fr' m' = some r := by
                intro fr' fr1' m' h1 h2 h3 h4
                obtain ⟨fr4, h5, h6⟩ := pack_bind _ h2 (hs.rmv h3 h2.len) h4
                obtain ⟨fr2, fr3, m2, g1, g2, g3, g4⟩ := denSegs_ok hc rest (Nat.succ i) fr4 m' fr1' hgr h5 h6
                refine ⟨fr2, fr3, m2, ?_, g2, ?_, g4⟩
                · rw [hfl, h1, g1]
                · rw [hfl, dsts_append]; exact h3.trans g3
              simp only [join] at h
              have hh := guardK_some h
              clear h
              rcases hh with ⟨rfl, h⟩ | ⟨hv, h⟩
              · obtain ⟨fr', fr1', m', h1, h2, h3, h4⟩ := denRun_ok (W := fun fr2 => lget fr2.ps d = some (some (.bool want))) (ops := ops) hc os fr m fr1
                  (fun x hx fr2 hW => by simp only [wantA, hgo x hx, hoj, hd, hfg fr2 hW]; cases want <;> rfl) pres hlg hs h
                exact fin fr' fr1' m' h1 h2 h3 h4
              · obtain ⟨fr', fr1', h1, h2, h3, h4⟩ := undefK_ok (P := P) (G := G) (L := L) (call := call) (W := fun fr2 => lget fr2.ps d = some (some vb)) (ops := ops) os fr m fr1
                  (fun x hx fr2 hW => by
                    simp only [wantA, hgo x hx, hoj, hd, hfg fr2 hW]
                    rcases hv with rfl | ⟨vs, rfl⟩
                    · cases want <;> rfl
                    · rfl) pres hlg hs h
                exact fin fr' fr1' m h1 h2 h3 h4

theorem dsts_pairT : ∀ ops, dsts (pairT ops) = dsts0 ops
  | [] => rfl
  | o :: l => by
    have := dsts_pairT l
    simp only [pairT, List.map_cons, dsts, dsts0] at this ⊢
    cases o.dst <;> simp [this]
theorem dsts_fst : ∀ (a : List (Oper × Bool)), dsts a = dsts0 (a.map (·.1))
  | [] => rfl
  | (o, e) :: a => by
    simp only [dsts, List.map_cons, dsts0, dsts_fst a]
theorem dsts_flags (ops : List Oper) : dsts (flags ops) = dsts0 ops := by
  rw [dsts_fst, flags, flagsGo_fst]

theorem Sub.ts {fr : Frm} {fr1 : Fr} (h : Sub N fr fr1) (l : List (Nat × Value)) : Sub N fr ⟨fr1.ps, l⟩ := ⟨h.len, h.get⟩

theorem oNe_some {x y : Value} {k : Option β} {r : β} (h : oNe x y k = some r) : neB x y = true ∧ k = some r := by
  unfold oNe at h
  unfold neB
  split at h
  · split at h
    · split at h
      · cases h
      · rename_i hb
        simp only [hb]
        exact ⟨trivial, h⟩
    · cases h
  · cases h
theorem neK_some {ev ev' : Operand → Option Value} (he : ∀ x v, ev x = some v → ev' x = some v) {k : Option β} {r : β} : ∀ {l : List (Operand × Operand)}, neK ev l k = some r → neAll ev' l = true ∧ k = some r
  | [], h => ⟨rfl, h⟩
  | (a, b) :: l, h => by
    simp only [neK] at h
    split at h
    · cases h
    · rename_i x hx
      split at h
      · cases h
      · rename_i y hy
        obtain ⟨h1, h2⟩ := oNe_some h
        obtain ⟨h3, h4⟩ := neK_some he h2
        exact ⟨by simp only [neAll, he _ _ hx, he _ _ hy, h1, h3], h4⟩
theorem denReg1_ok (hc : CallSim callK call) {ops : List Oper} {p : Nat} {r : β} {k : KN β} {draw : Bool} {fr : Frm} {m : Mem} {fr1 : Fr} (hs : Sub N fr fr1)
    (h : denReg1 P G N callK ka L ops p draw fr m k = some r) :
    ∃ fr' fr1' m', evRegion1 P G N (List.range N) call L ops draw fr1 m = some (0, (fr1', m')) ∧ Sub N fr' fr1' ∧ Kept (dsts0 ops) fr1 fr1' ∧ k fr' m' = some r := by
  have core : ∀ (k : KN β) l, dsts l = dsts0 ops → denSegs P G N callK ka L ops p (segs l) 0 fr m k = some r →
      ∃ fr' fr1' m', evOps P G N (List.range N) call ops L l ⟨fr1.ps, []⟩ m = some (fr1', m') ∧ Sub N fr' fr1' ∧ Kept (dsts0 ops) fr1 fr1' ∧ k fr' m' = some r := fun k l hl h => by
    obtain ⟨h1, h2⟩ := segs_ok l
    obtain ⟨fr', fr1', m', g1, g2, g3, g4⟩ := denSegs_ok hc (segs l) 0 fr m ⟨fr1.ps, []⟩ h2 (hs.ts []) h
    rw [h1] at g1 g3
    rw [hl] at g3
    exact ⟨fr', fr1', m', g1, g2, g3, g4⟩
  unfold denReg1 at h
  unfold evRegion1
  cases draw with
  | false =>
    unfold evRegion0
    obtain ⟨fr', fr1', m', g1, g2, g3, g4⟩ := core _ _ (dsts_pairT ops) h
    exact ⟨fr', fr1', m', by simp only [g1], g2, g3, g4⟩
  | true =>
    simp only [] at h
    split at h
    · rename_i hnl
      split at h
      · rename_i hlo
        obtain ⟨fr', fr1', m', g1, g2, g3, g4⟩ := core _ _ (dsts_pairT ops) h
        obtain ⟨h5, h6⟩ := neK_some (ev' := aeval G (fget (List.range N) fr1')) (fun x v hx => g2.eval x v hx) g4
        exact ⟨fr', fr1', m', by simp only [hnl, hlo, g1, h5], g2, g3, h6⟩
      · cases h
    · rename_i hnl
      split at h
      · rename_i hdr
        unfold evRegion0
        obtain ⟨fr', fr1', m', g1, g2, g3, g4⟩ := core _ _ (dsts_flags ops) h
        exact ⟨fr', fr1', m', by simp only [hnl, hdr, g1], g2, g3, g4⟩
      · cases h

theorem dsts_lflags (ops : List Oper) : dsts (lflags ops) = dsts0 ops := by
  rw [dsts_fst, lflags, lflagsGo_fst]
theorem smK_some {ev ev' : Operand → Option Value} {m m' : Mem} (he : ∀ x v, ev x = some v → ev' x = some v) {k : Option β} {r : β} : ∀ {l : List Operand}, smK ev m m' l k = some r → smAll m m' ev' l = true ∧ k = some r
  | [], h => ⟨rfl, h⟩
  | a :: l, h => by
    simp only [smK] at h
    split at h
    · cases h
    · rename_i v hv
      unfold oSm at h
      split at h
      · rename_i hs
        obtain ⟨h1, h2⟩ := smK_some he h
        exact ⟨by simp only [smAll, he _ _ hv, hs, h1], h2⟩
      · cases h
theorem denReg_ok (hc : CallSim callK call) {ops : List Oper} {p : Nat} {r : β} {k : KN β} {draw : Bool} {fr : Frm} {m : Mem} {fr1 : Fr} (hs : Sub N fr fr1)
    (h : denReg P G N callK ka L ops p draw fr m k = some r) :
    ∃ fr' fr1' m', evRegion P G N (List.range N) call L ops draw fr1 m = some (0, (fr1', m')) ∧ Sub N fr' fr1' ∧ Kept (dsts0 ops) fr1 fr1' ∧ k fr' m' = some r := by
  unfold denReg at h
  unfold evRegion
  cases draw with
  | false => exact denReg1_ok hc hs h
  | true =>
    simp only [] at h ⊢
    split at h
    · exact denReg1_ok hc hs h
    · rename_i j hcut
      obtain ⟨a1, a2⟩ := segs_ok ((lflags ops).take j)
      obtain ⟨b1, b2⟩ := segs_ok (((lflags ops).drop j).take 1)
      obtain ⟨c1, c2⟩ := segs_ok ((lflags ops).drop (Nat.succ j))
      obtain ⟨frA, fA, mA, g1, g2, g3, g4⟩ := denSegs_ok hc _ _ fr m ⟨fr1.ps, []⟩ a2 (hs.ts []) h
      obtain ⟨frB, fB, mB, i1, i2, i3, i4⟩ := denSegs_ok hc _ _ frA mA fA b2 g2 g4
      obtain ⟨h5, h6⟩ := smK_some (ev' := aeval G (fget (List.range N) fA)) (fun x v hx => g2.eval x v hx) i4
      obtain ⟨frC, fC, mC, j1, j2, j3, j4⟩ := denSegs_ok hc _ _ frB mB fB c2 i2 h6
      rw [a1] at g1 g3
      rw [b1] at i1 i3
      rw [c1] at j1 j3
      have hk := g3.trans (i3.trans j3)
      rw [← dsts_append, ← dsts_append, show (lflags ops).drop (Nat.succ j) = ((lflags ops).drop j).drop 1 by rw [List.drop_drop], List.take_append_drop, List.take_append_drop, dsts_lflags] at hk
      refine ⟨frC, fC, mC, ?_, j2, hk, j4⟩
      unfold evLate
      simp only [g1, i1, h5, j1]

/-- Where a code ends, the one continuation or the other goes on. -/
def Cont (k : KN β) (ks : List (Nat × KN β)) (kr : KN β) (e : Nat) (fr : Frm) (m : Mem) (r : β) : Prop :=
  (e = 0 ∧ k fr m = some r) ∨ (e = 1 ∧ kr fr m = some r) ∨ ∃ i kk, e = i + 2 ∧ lookK ks i = some kk ∧ kk fr m = some r
theorem oIf_some {v : Value} {a b : Option β} {r : β} (h : oIf v a b = some r) : (v = .bool true ∧ a = some r) ∨ (v = .bool false ∧ b = some r) := by
  unfold oIf at h
  split at h
  · split at h
    · exact .inl ⟨rfl, h⟩
    · exact .inr ⟨rfl, h⟩
  · cases h

theorem packK_some {fr : Frm} {fr1 : Fr} (hs : Sub N fr fr1) {r : β} : ∀ {l : List Nat} {k : List Value → Option β}, packK l fr k = some r → ∃ vs, getsK (List.range N) fr1 l = some vs ∧ k vs = some r
  | [], k, h => ⟨[], rfl, h⟩
  | s :: l, k, h => by
    simp only [packK, deep_eq] at h
    split at h
    · rename_i v hv
      obtain ⟨vs, h1, h2⟩ := packK_some hs h
      exact ⟨v :: vs, by simp only [getsK, hs.fget hv, h1], h2⟩
    · cases h
theorem oRange_some (hc : CallSim callK call) {f : Nat} {vf : Value} {vs : List Value} {m : Mem} {k : Mem → Option β} {r : β} (h : oRange callK f vf vs L m k = some r) : ∃ m', oRange0 call f vf vs L m = some m' ∧ k m' = some r := by
  unfold oRange at h
  split at h
  · cases h
  · rename_i g cs hg
    simp only [natK_eq] at h
    split at h
    · cases h
    · rename_i m1 hm1
      obtain ⟨v, m2, h1, h2⟩ := hc _ _ _ _ _ _ h
      split at h2
      · cases h2
      · rename_i cs2 hl
        exact ⟨_, by simp only [oRange0, hg, natK_eq, hm1, h1, hl], h2⟩

theorem den_ok (hc : CallSim callK call) {X : Option (Nat × LInfo)} {r : β} : ∀ (c : Code) (p : Nat) (fr : Frm) (m : Mem) (k : KN β) (ks : List (Nat × KN β)) (kr : KN β) (fr1 : Fr), Sub N fr fr1 →
    den P X G N callK ka lf L c p fr m k ks kr = some r →
    ∃ e fr' fr1' m', ev P X G N (List.range N) call lf L c fr1 m = some (e, (fr1', m')) ∧ Sub N fr' fr1' ∧ Kept (asg c) fr1 fr1' ∧ Cont k ks kr e fr' m' r := by
  intro c
  induction c with
  | skip => intro p fr m k ks kr fr1 hs h; exact ⟨0, fr, fr1, m, rfl, hs, Kept.refl _ _, .inl ⟨rfl, h⟩⟩
  | region id ops draw =>
    intro p fr m k ks kr fr1 hs h
    obtain ⟨fr', fr1', m', g1, g2, g3, g4⟩ := denReg_ok hc hs h
    exact ⟨0, fr', fr1', m', g1, g2, g3, .inl ⟨rfl, g4⟩⟩
  | seq a b iha ihb =>
    intro p fr m k ks kr fr1 hs h
    simp only [den] at h
    obtain ⟨e, fr2, fr3, m2, g1, g2, g3, g4⟩ := iha _ _ _ _ _ _ _ hs h
    rcases g4 with ⟨rfl, h4⟩ | ⟨rfl, h4⟩ | ⟨i, kk, rfl, h5, h4⟩
    · obtain ⟨e', fr4, fr5, m3, f1, f2, f3, f4⟩ := ihb _ _ _ _ _ _ _ g2 h4
      exact ⟨e', fr4, fr5, m3, by simp only [ev, g1]; exact f1, f2, g3.trans f3, f4⟩
    · exact ⟨1, fr2, fr3, m2, by simp only [ev, g1], g2, g3.left, .inr (.inl ⟨rfl, h4⟩)⟩
    · exact ⟨i + 2, fr2, fr3, m2, by simp only [ev, g1], g2, g3.left, .inr (.inr ⟨i, kk, rfl, h5, h4⟩)⟩
  | cond c a b iha ihb =>
    intro p fr m k ks kr fr1 hs h
    simp only [den] at h
    split at h
    · cases h
    · rename_i v hv
      have hv1 := hs.eval _ _ hv
      have goT : v = .bool true → ∀ e fr3 m2, ev P X G N (List.range N) call lf L a fr1 m = some (e, (fr3, m2)) → ev P X G N (List.range N) call lf L (.cond c a b) fr1 m = some (e, (fr3, m2)) := fun hv e fr3 m2 hq => by
        rw [hv] at hv1; simp only [ev, hv1]; exact hq
      have goF : v = .bool false → ∀ e fr3 m2, ev P X G N (List.range N) call lf L b fr1 m = some (e, (fr3, m2)) → ev P X G N (List.range N) call lf L (.cond c a b) fr1 m = some (e, (fr3, m2)) := fun hv e fr3 m2 hq => by
        rw [hv] at hv1; simp only [ev, hv1]; exact hq
      split at h
      · simp only [join] at h
        have fin : ∀ e fr2 fr3 m2, Sub N fr2 fr3 → Kept (asg a ++ asg b) fr1 fr3 → Cont (fun fr' m => packK (katOf ka p 0) fr' fun vs => bindK (katOf ka p 0) vs (rmv (asg a ++ asg b) fr) fun fr => k fr m) ks kr e fr2 m2 r → ∃ fr4, Sub N fr4 fr3 ∧ Cont k ks kr e fr4 m2 r := by
          intro e fr2 fr3 m2 g2 g3 g4
          rcases g4 with ⟨rfl, h4⟩ | ⟨rfl, h4⟩ | h4
          · obtain ⟨fr4, h5, h6⟩ := pack_bind _ g2 (hs.rmv g3 g2.len) h4
            exact ⟨fr4, h5, .inl ⟨rfl, h6⟩⟩
          · exact ⟨fr2, g2, .inr (.inl ⟨rfl, h4⟩)⟩
          · exact ⟨fr2, g2, .inr (.inr h4)⟩
        rcases oIf_some h with ⟨hv', h⟩ | ⟨hv', h⟩
        · obtain ⟨e, fr2, fr3, m2, g1, g2, g3, g4⟩ := iha _ _ _ _ _ _ _ hs h
          obtain ⟨fr4, h5, h6⟩ := fin e fr2 fr3 m2 g2 g3.left g4
          exact ⟨e, fr4, fr3, m2, goT hv' _ _ _ g1, h5, g3.left, h6⟩
        · obtain ⟨e, fr2, fr3, m2, g1, g2, g3, g4⟩ := ihb _ _ _ _ _ _ _ hs h
          obtain ⟨fr4, h5, h6⟩ := fin e fr2 fr3 m2 g2 g3.right g4
          exact ⟨e, fr4, fr3, m2, goF hv' _ _ _ g1, h5, g3.right, h6⟩
      · rcases oIf_some h with ⟨hv', h⟩ | ⟨hv', h⟩
        · obtain ⟨e, fr2, fr3, m2, g1, g2, g3, g4⟩ := iha _ _ _ _ _ _ _ hs h
          exact ⟨e, fr2, fr3, m2, goT hv' _ _ _ g1, g2, g3.left, g4⟩
        · obtain ⟨e, fr2, fr3, m2, g1, g2, g3, g4⟩ := ihb _ _ _ _ _ _ _ hs h
          exact ⟨e, fr2, fr3, m2, goF hv' _ _ _ g1, g2, g3.right, g4⟩
  | block id body ih =>
    intro p fr m k ks kr fr1 hs h
    have goX : ∀ fr3 m2, ev P X G N (List.range N) call lf L body fr1 m = some (2 * id + 2, (fr3, m2)) → ev P X G N (List.range N) call lf L (.block id body) fr1 m = some (0, (fr3, m2)) := fun fr3 m2 h => by
      have hb : Nat.beq (2 * id + 2) (Nat.succ (Nat.succ (Nat.mul 2 id))) = true := Nat.beq_refl _
      simp only [ev, h, hb]
    have goN : ∀ e fr3 m2, e ≠ 2 * id + 2 → ev P X G N (List.range N) call lf L body fr1 m = some (e, (fr3, m2)) → ev P X G N (List.range N) call lf L (.block id body) fr1 m = some (e, (fr3, m2)) := fun e fr3 m2 hne h => by
      have hb : Nat.beq e (Nat.succ (Nat.succ (Nat.mul 2 id))) = false := by
        cases hh : Nat.beq e (Nat.succ (Nat.succ (Nat.mul 2 id))) with
        | false => rfl
        | true => exact absurd (Nat.eq_of_beq_eq_true hh) hne
      simp only [ev, h, hb]
    -- one way out or several
    have fin : ∀ kx : KN β, (∀ fr2 fr3 m2, Sub N fr2 fr3 → Kept (asg body) fr1 fr3 → kx fr2 m2 = some r → ∃ fr4, Sub N fr4 fr3 ∧ k fr4 m2 = some r) → den P X G N callK ka lf L body (Nat.add (Nat.mul 2 p) 1) fr m kx ((Nat.mul 2 id, kx) :: ks) kr = some r →
        ∃ e fr' fr1' m', ev P X G N (List.range N) call lf L (.block id body) fr1 m = some (e, (fr1', m')) ∧ Sub N fr' fr1' ∧ Kept (asg body) fr1 fr1' ∧ Cont k ks kr e fr' m' r := by
      intro kx hkx h
      obtain ⟨e, fr2, fr3, m2, g1, g2, g3, g4⟩ := ih _ _ _ _ _ _ _ hs h
      rcases g4 with ⟨rfl, h4⟩ | ⟨rfl, h4⟩ | ⟨i, kk, rfl, h5, h4⟩
      · obtain ⟨fr4, h6, h7⟩ := hkx _ _ _ g2 g3 h4
        exact ⟨0, fr4, fr3, m2, goN _ _ _ (by omega) g1, h6, g3, .inl ⟨rfl, h7⟩⟩
      · exact ⟨1, fr2, fr3, m2, goN _ _ _ (by omega) g1, g2, g3, .inr (.inl ⟨rfl, h4⟩)⟩
      · simp only [lookK] at h5
        split at h5
        · rename_i hb
          obtain rfl := Nat.eq_of_beq_eq_true hb
          cases h5
          obtain ⟨fr4, h6, h7⟩ := hkx _ _ _ g2 g3 h4
          exact ⟨0, fr4, fr3, m2, goX _ _ g1, h6, g3, .inl ⟨rfl, h7⟩⟩
        · rename_i hb
          have hne : 2 * id ≠ i := fun e => by
            have e : Nat.mul 2 id = i := e
            subst e; rw [Nat.beq_refl] at hb; cases hb
          exact ⟨i + 2, fr2, fr3, m2, goN _ _ _ (by omega) g1, g2, g3, .inr (.inr ⟨i, kk, rfl, h5, h4⟩)⟩
    simp only [den] at h
    split at h
    · simp only [join] at h
      exact fin _ (fun fr2 fr3 m2 g2 g3 h4 => pack_bind _ g2 (hs.rmv g3 g2.len) h4) h
    · exact fin k (fun fr2 fr3 m2 g2 g3 h4 => ⟨fr2, g2, h4⟩) h
  | loop body ih =>
    intro p fr m k ks kr fr1 hs h
    simp only [den] at h
    have key : ∀ n fr2 m fr3, Sub N fr2 fr3 → Kept (asg body) fr1 fr3 → packK (katOf ka p 0) fr2 (fun vs =>
        loopS (fun self vs m => bindK (katOf ka p 0) vs (rmv (asg body) fr) fun fr => den P X G N callK ka lf L body (Nat.add (Nat.mul 2 p) 1) fr m (fun fr m => packK (katOf ka p 0) fr fun vs => self vs m) ks kr) n vs m) = some r →
        ∃ e fr' fr1' m', loopN (ev P X G N (List.range N) call lf L body) n fr3 m = some (e, (fr1', m')) ∧ Sub N fr' fr1' ∧ Kept (asg body) fr1 fr1' ∧ Cont k ks kr e fr' m' r := by
      intro n
      induction n with
      | zero =>
        intro fr2 m fr3 g2 g3 h
        exfalso
        have : ∀ (K : List Nat) (f : Frm) (kk : List Value → Option β), (∀ vs, kk vs = none) → packK K f kk = none := by
          intro K
          induction K with
          | nil => intro f kk hk; exact hk []
          | cons s ss ihs =>
            intro f kk hk
            simp only [packK, deep_eq]
            split
            · exact ihs _ _ fun vs => hk _
            · rfl
        simp only [loopS] at h
        rw [this _ _ _ fun vs => rfl] at h
        cases h
      | succ n ihn =>
        intro fr2 m fr3 g2 g3 h
        simp only [loopS] at h
        obtain ⟨fr4, h5, h6⟩ := pack_bind (k := fun fr => den P X G N callK ka lf L body (Nat.add (Nat.mul 2 p) 1) fr m (fun fr' m => packK (katOf ka p 0) fr' fun vs =>
          loopS (fun self vs m => bindK (katOf ka p 0) vs (rmv (asg body) _) fun fr => den P X G N callK ka lf L body (Nat.add (Nat.mul 2 p) 1) fr m (fun fr m => packK (katOf ka p 0) fr fun vs => self vs m) ks kr) n vs m) ks kr) _ g2 (hs.rmv g3 g2.len) h
        obtain ⟨e, fr5, fr6, m2, f1, f2, f3, f4⟩ := ih _ _ _ _ _ _ _ h5 h6
        have hk6 : Kept (asg body) fr1 fr6 := fun t ht => (f3 t ht).trans (g3 t ht)
        rcases f4 with ⟨rfl, h4⟩ | ⟨rfl, h4⟩ | ⟨i, kk, rfl, h7, h4⟩
        · obtain ⟨e', fr7, fr8, m3, q1, q2, q3, q4⟩ := ihn _ _ _ f2 hk6 h4
          exact ⟨e', fr7, fr8, m3, by simp only [loopN, f1]; exact q1, q2, q3, q4⟩
        · exact ⟨1, fr5, fr6, m2, by simp only [loopN, f1], f2, hk6, .inr (.inl ⟨rfl, h4⟩)⟩
        · exact ⟨i + 2, fr5, fr6, m2, by simp only [loopN, f1], f2, hk6, .inr (.inr ⟨i, kk, rfl, h7, h4⟩)⟩
    obtain ⟨e, fr', fr1', m', q1, q2, q3, q4⟩ := key lf fr m fr1 hs (Kept.refl _ _) h
    exact ⟨e, fr', fr1', m', q1, q2, q3, q4⟩
  | exit id =>
    intro p fr m k ks kr fr1 hs h
    simp only [den] at h
    split at h
    · rename_i kk hk
      exact ⟨2 * id + 2, fr, fr1, m, rfl, hs, Kept.refl _ _, .inr (.inr ⟨2 * id, kk, rfl, hk, h⟩)⟩
    · cases h
  | goto l =>
    intro p fr m k ks kr fr1 hs h
    simp only [den] at h
    split at h
    · rename_i kk hk
      exact ⟨2 * l + 1 + 2, fr, fr1, m, rfl, hs, Kept.refl _ _, .inr (.inr ⟨2 * l + 1, kk, rfl, hk, h⟩)⟩
    · cases h
  | ret => intro p fr m k ks kr fr1 hs h; exact ⟨1, fr, fr1, m, rfl, hs, Kept.refl _ _, .inr (.inl ⟨rfl, h⟩)⟩
  | label l => intro p fr m k ks kr fr1 hs h; exact ⟨0, fr, fr1, m, rfl, hs, Kept.refl _ _, .inl ⟨rfl, h⟩⟩
  | rangeFunc g ps as bd _ _ =>
    intro p fr m k ks kr fr1 hs h
    simp only [den] at h
    split at h
    · cases h
    · rename_i f i
      split at h
      · cases h
      · rename_i vf hv
        obtain ⟨vs, h1, h2⟩ := packK_some hs h
        obtain ⟨m', h3, h4⟩ := oRange_some hc h2
        exact ⟨0, fr, fr1, m', by simp only [ev, hs.eval _ _ hv, h1, h3], hs, Kept.refl _ _, .inl ⟨rfl, h4⟩⟩
  | _ => intro p fr m k ks kr fr1 hs h; cases h

theorem packK_none {r : β} : ∀ (K : List Nat) (f : Frm) (kk : List Value → Option β), (∀ vs, kk vs = none) → packK K f kk ≠ some r := by
  intro K
  induction K with
  | nil =>
    intro f kk hk h
    simp only [packK, deep_eq] at h
    rw [hk] at h; cases h
  | cons s ss ihs =>
    intro f kk hk h
    simp only [packK, deep_eq] at h
    split at h
    · exact ihs _ _ (fun vs => hk _) h
    · cases h
theorem gotoOf_key (l : Nat) : gotoOf (2 * l + 1 + 2) = some l := by
  simp only [gotoOf]
  rw [if_neg (by omega)]
  congr 1; omega
theorem denB_ok (hc : CallSim callK call) {X : Option (Nat × LInfo)} {r : β} : ∀ (c : Code) (p : Nat) (fr : Frm) (m : Mem) (k kr : KN β) (fr1 : Fr), Sub N fr fr1 →
    denB P X G N callK ka lf L c p fr m k kr = some r →
    ∃ e fr' fr1' m', evB P X G N (List.range N) call lf L c fr1 m = some (e, (fr1', m')) ∧ Sub N fr' fr1' ∧ Cont k [] kr e fr' m' r := by
  intro c
  induction c with
  | seq a b _ ihb =>
    intro p fr m k kr fr1 hs h
    simp only [denB] at h
    obtain ⟨e, fr2, fr3, m2, g1, g2, g3, g4⟩ := den_ok hc _ _ _ _ _ _ _ _ hs h
    rcases g4 with ⟨rfl, h4⟩ | ⟨rfl, h4⟩ | ⟨i, kk, rfl, h5, h4⟩
    · obtain ⟨e', fr4, fr5, m3, f1, f2, f4⟩ := ihb _ _ _ _ _ _ g2 h4
      exact ⟨e', fr4, fr5, m3, by simp only [evB, g1]; exact f1, f2, f4⟩
    · exact ⟨1, fr2, fr3, m2, by simp only [evB, g1], g2, .inr (.inl ⟨rfl, h4⟩)⟩
    · cases h5
  | scope c _ =>
    intro p fr m k kr fr1 hs h
    simp only [denB] at h
    split at h
    · cases h
    · rename_i l hl
      split at h
      · cases h
      · rename_i rest hrest
        simp only [join] at h
        have key : ∀ n fr2 m fr3, Sub N fr2 fr3 → Kept (asg c ++ asg rest) fr1 fr3 → packK (katOf ka p 0) fr2 (fun vs =>
            loopS (fun self vs m => bindK (katOf ka p 0) vs (rmv (asg c ++ asg rest) fr) fun fr => den P none G N callK ka lf L rest (Nat.add (Nat.mul 2 p) 2) fr m k [(Nat.succ (Nat.mul 2 l), fun fr m => packK (katOf ka p 0) fr fun vs => self vs m)] kr) n vs m) = some r →
            ∃ e fr' fr1' m', scopeN P none G N (List.range N) call lf L c n rest fr3 m = some (e, (fr1', m')) ∧ Sub N fr' fr1' ∧ Cont k [] kr e fr' m' r := by
          intro n
          induction n with
          | zero => intro fr2 m fr3 g2 g3 h; exact absurd h (packK_none _ _ _ fun vs => rfl)
          | succ n ihn =>
            intro fr2 m fr3 g2 g3 h
            simp only [loopS] at h
            obtain ⟨fr4, h5, h6⟩ := pack_bind (k := fun fr => den P none G N callK ka lf L rest (Nat.add (Nat.mul 2 p) 2) fr m k [(Nat.succ (Nat.mul 2 l), fun fr' m => packK (katOf ka p 0) fr' fun vs =>
              loopS (fun self vs m => bindK (katOf ka p 0) vs (rmv (asg c ++ asg rest) _) fun fr => den P none G N callK ka lf L rest (Nat.add (Nat.mul 2 p) 2) fr m k [(Nat.succ (Nat.mul 2 l), fun fr m => packK (katOf ka p 0) fr fun vs => self vs m)] kr) n vs m)] kr) _ g2 (hs.rmv g3 g2.len) h
            obtain ⟨e, fr5, fr6, m2, f1, f2, f3, f4⟩ := den_ok hc _ _ _ _ _ _ _ _ h5 h6
            have hk6 : Kept (asg c ++ asg rest) fr1 fr6 := fun t ht => (f3 t (memN_append _ _ _ ht).2).trans (g3 t ht)
            rcases f4 with ⟨rfl, h4⟩ | ⟨rfl, h4⟩ | ⟨i, kk, rfl, h7, h4⟩
            · exact ⟨0, fr5, fr6, m2, by simp only [scopeN, f1]; rfl, f2, .inl ⟨rfl, h4⟩⟩
            · exact ⟨1, fr5, fr6, m2, by simp only [scopeN, f1]; rfl, f2, .inr (.inl ⟨rfl, h4⟩)⟩
            · simp only [lookK] at h7
              split at h7
              · rename_i hb
                obtain rfl := Nat.eq_of_beq_eq_true hb
                cases h7
                obtain ⟨e', fr7, fr8, m3, q1, q2, q4⟩ := ihn _ _ _ f2 hk6 h4
                exact ⟨e', fr7, fr8, m3, by simp only [scopeN, f1]; rw [show Nat.succ (Nat.mul 2 l) + 2 = 2 * l + 1 + 2 from rfl, gotoOf_key]; simp only [hrest]; exact q1, q2, q4⟩
              · cases h7
        obtain ⟨e, fr2, fr3, m2, g1, g2, g3, g4⟩ := den_ok hc _ _ _ _ _ _ _ _ hs h
        rcases g4 with ⟨rfl, h4⟩ | ⟨rfl, h4⟩ | ⟨i, kk, rfl, h5, h4⟩
        · exact ⟨0, fr2, fr3, m2, by simp only [evB, scopeN, g1]; rfl, g2, .inl ⟨rfl, h4⟩⟩
        · exact ⟨1, fr2, fr3, m2, by simp only [evB, scopeN, g1]; rfl, g2, .inr (.inl ⟨rfl, h4⟩)⟩
        · simp only [lookK] at h5
          split at h5
          · rename_i hb
            obtain rfl := Nat.eq_of_beq_eq_true hb
            cases h5
            obtain ⟨e', fr7, fr8, m3, q1, q2, q4⟩ := key lf _ _ _ g2 g3.left h4
            exact ⟨e', fr7, fr8, m3, by simp only [evB, scopeN, g1]; rw [show Nat.succ (Nat.mul 2 l) + 2 = 2 * l + 1 + 2 from rfl, gotoOf_key]; simp only [hrest]; exact q1, q2, q4⟩
          · cases h5
  | _ =>
    intro p fr m k kr fr1 hs h
    obtain ⟨e, fr2, fr3, m2, g1, g2, g3, g4⟩ := den_ok hc _ _ _ _ _ _ _ _ hs h
    exact ⟨e, fr2, fr3, m2, g1, g2, g4⟩
/-! ### Rounds -/
theorem bindR_ok {n : Nat} {L1 : List (Nat × Value)} {r : β} {k : Frm → Option β} : ∀ (l : List Nat) (as : List Value) (fr : Frm), (∀ t v, look fr t = some v → t < n) → bindR n l as fr k = some r →
    l.length = as.length ∧ (∀ t v, look (zipR l as fr) t = some v → t < n) ∧ k (zipR l as fr) = some r
  | [], as, fr, hn, h => by
    simp only [bindR, deep_eq] at h
    obtain ⟨rfl, h⟩ := un0_some h
    exact ⟨rfl, hn, h⟩
  | s :: l, as, fr, hn, h => by
    simp only [bindR, deep_eq] at h
    split at h
    · rename_i hs
      obtain ⟨a, as', rfl, h⟩ := uc_some h
      obtain ⟨h1, h2, h3⟩ := bindR_ok (L1 := L1) l as' ((s, a) :: fr) (fun t v hv => by
        simp only [look] at hv
        split at hv
        · rename_i hb
          rw [← Nat.eq_of_beq_eq_true hb]
          simpa using hs
        · exact hn t v hv) h
      exact ⟨by simp [h1], h2, h3⟩
    · cases h
theorem denR_ok (hc : CallSim callK call) {LT : Nat → Option LInfo} {f : Nat} {args : List Value} {m : Mem} {k : Value → Mem → Option β} {r : β} (h : denR P LT G ka lf callK f args L m k = some r) :
    ∃ v m', evR P LT G lf call f args L m = some (v, m') ∧ k v m' = some r := by
  unfold denR at h
  split at h
  · cases h
  · rename_i i hi
    obtain ⟨yv, as, hargs, h0⟩ := uc_some h
    subst hargs
    clear h
    have h := h0
    clear h0
    unfold oYv at h
    split at h
    · cases h
    · rename_i y hy
      split at h
      · rename_i hLy
        obtain ⟨h1, h2, h3⟩ := bindR_ok (L1 := []) _ _ _ (fun t v hv => by cases hv) h
        have hs : Sub i.n (zipR (i.fs ++ i.ps) as []) ⟨startR i.n (zipR (i.fs ++ i.ps) as []), []⟩ := ⟨by simp [startR], fun t v hv => by
          have ht := h2 t v hv
          refine ⟨ht, ?_⟩
          simp only [startR, lget_eq, List.getElem?_map, List.getElem?_range ht, Option.map_some, hv]⟩
        have hlen : (Nat.beq as.length (Nat.add i.fs.length i.ps.length) && Nat.ble L y) = true := by
          rw [hLy, Bool.and_true, Nat.beq_eq]
          rw [← h1, List.length_append]; rfl
        obtain ⟨e, fr2, fr3, m2, g1, g2, g3, g4⟩ := den_ok hc _ _ _ _ _ _ _ _ hs h3
        rcases g4 with ⟨rfl, h4⟩ | ⟨rfl, h4⟩ | ⟨_, _, _, h5, _⟩
        · simp only [oBusy] at h4
          split at h4
          · rename_i cs hcs
            obtain ⟨e', fr4, fr5, m3, f1, f2, f3, f4⟩ := den_ok hc _ _ _ _ _ _ _ _ g2 h4
            rcases f4 with ⟨rfl, h6⟩ | ⟨rfl, h6⟩ | ⟨_, _, _, h7, _⟩
            · simp only [oReady] at h6
              split at h6
              · rename_i cs2 hcs2
                exact ⟨.bool true, _, by simp only [evR, hi, hy, hlen, g1, hcs, f1, hcs2], h6⟩
              · cases h6
            · cases h6
            · cases h7
          · cases h4
        · cases h4
        · cases h5
      · cases h
end
end Go.Vit

/- The shallow form: whole functions, a table of them, and what a run of it says. -/
namespace Go.Vit
open Go

def kAll (P : Program) (f : FuncId) : List Nat := match P.funcs[f]? with
  | some fn => List.range fn.ntmps
  | none => []

theorem initPs_range (args : List Value) : ∀ (n a i : Nat), i < n → lget (initPs args (List.range' a n)) i = some (some ((args[a + i]?).getD Go.undef))
  | 0, a, i, h => by omega
  | n + 1, a, i, h => by
    rw [range_cons]
    simp only [initPs]
    cases i with
    | zero =>
      simp only [lget, lget_eq, Nat.add_zero]
      cases args[a]? <;> rfl
    | succ i =>
      simp only [lget]
      rw [initPs_range args n (a + 1) i (by omega)]
      rw [show a + 1 + i = a + (i + 1) by omega]
theorem initPs_len (args : List Value) : ∀ (l : List Nat), (initPs args l).length = l.length
  | [] => rfl
  | t :: l => by simp [initPs, initPs_len args l]
section
variable {β : Type} {P : Program} {G lf : Nat} {callK : CallK β} {call : CallT}

theorem bindA_ok {N : Nat} {args : List Value} {r : β} {k : Frm → Option β} : ∀ (n s : Nat) (l : List Value) (fr : Frm), l = args.drop s → s + n ≤ N → s ≤ args.length → Sub N fr ⟨initPs args (List.range N), []⟩ → bindA s n l fr k = some r →
    args.length = s + n ∧ ∃ fr', Sub N fr' ⟨initPs args (List.range N), []⟩ ∧ k fr' = some r
  | 0, s, l, fr, hl, hn, hsl, hs, h => by
    simp only [bindA, deep_eq] at h
    obtain ⟨h1, h2⟩ := un0_some h
    rw [h1] at hl
    have := List.drop_eq_nil_iff.1 hl.symm
    exact ⟨by omega, fr, hs, h2⟩
  | n + 1, s, l, fr, hl, hn, hsl, hs, h => by
    simp only [bindA, deep_eq] at h
    obtain ⟨a, l', rfl, h⟩ := uc_some h
    have ha : args[s]? = some a := by
      have := congrArg (·[0]?) hl
      simpa using this.symm
    have hlt : s < args.length := (List.getElem?_eq_some_iff.1 ha).1
    have hl' : l' = args.drop (s + 1) := by
      have := congrArg List.tail hl
      simpa using this
    have hget : lget (initPs args (List.range N)) s = some (some a) := by
      rw [List.range_eq_range', initPs_range args N 0 s (by omega)]
      simp [ha]
    obtain ⟨h1, h2⟩ := bindA_ok n (s + 1) l' ((s, a) :: fr) hl' (by omega) (by omega) (hs.cons ⟨by omega, hget⟩) h
    exact ⟨by omega, h2⟩

theorem denLd_some {m : Mem} {t : TypeId} {x : Value} {k : Value → Option β} {r : β} (h : denLd P m t x k = some r) : ∃ v, aload P m t x = some v ∧ k v = some r := by
  simp only [denLd, deep_eq] at h
  split at h
  · rename_i ht
    obtain ⟨v, h2, h⟩ := oOpt_some h
    refine ⟨v, ?_, h⟩
    unfold ld1 at h2
    split at h2
    · simp only [aload, ht]; exact h2
    · cases h2
  · rename_i ht
    split at h
    · rename_i s hs
      obtain ⟨v, h2, h⟩ := oOpt_some h
      refine ⟨v, ?_, h⟩
      unfold ldN at h2
      split at h2
      · simp only [aload, ht, hs]; exact h2
      · cases h2
    · cases h
  · cases h

theorem denRes_ok {N : Nat} {fr : Frm} {fr1 : Fr} (hs : Sub N fr fr1) {m : Mem} {r : β} : ∀ (l : List ResultVar) (k : List Value → Option β), denRes P l fr m k = some r → ∃ vs, resA P (List.range N) fr1 m l = some vs ∧ k vs = some r
  | [], k, h => ⟨[], rfl, h⟩
  | .tmp t :: l, k, h => by
    simp only [denRes, deep_eq] at h
    split at h
    · rename_i v hv
      obtain ⟨vs, h1, h2⟩ := denRes_ok hs l _ h
      exact ⟨v :: vs, by simp only [resA, hs.fget hv, h1], h2⟩
    · cases h
  | .cell a t :: l, k, h => by
    simp only [denRes, deep_eq] at h
    split at h
    · rename_i x hx
      obtain ⟨v, h0, h⟩ := denLd_some h
      obtain ⟨vs, h1, h2⟩ := denRes_ok hs l _ h
      exact ⟨v :: vs, by simp only [resA, hs.fget hx, h0, h1], h2⟩
    · cases h

theorem denF_ok (hc : CallSim callK call) {FSl : Nat → List Nat} {ka : Kat} {f : FuncId} {args : List Value} {L : Nat} {m : Mem} {k : Value → Mem → Option β} {r : β} (h : denF P FSl G ka lf callK f args L m k = some r) :
    ∃ v m', evF P FSl G (kAll P) lf call f args L m = some (v, m') ∧ k v m' = some r := by
  unfold denF at h
  split at h
  · cases h
  · rename_i fn hfn
    split at h
    · cases h
    · rename_i c hb
      split at h
      · cases h
      · rename_i hN
        have hN := Nat.le_of_ble_eq_true hN
        obtain ⟨h1, fr, h2, h3⟩ := bindA_ok (N := fn.ntmps) (args := args) _ 0 args [] rfl (by simpa using hN) (Nat.zero_le _) ⟨by simp [initPs_len], fun t v hv => by cases hv⟩ h
        obtain ⟨e, fr', fr1', m', g1, g2, g4⟩ := denB_ok hc _ _ _ _ _ _ _ h2 h3
        have hK : kAll P f = List.range fn.ntmps := by simp only [kAll, hfn]
        have hlen : Nat.ble args.length fn.ntmps = true := by
          rw [Nat.ble_eq]
          rw [h1]
          simpa using hN
        have fin : e ≤ 1 → (denRes P fn.results.toList fr' m' fun vs => k (oneOr vs) m') = some r → ∃ v m', evF P FSl G (kAll P) lf call f args L m = some (v, m') ∧ k v m' = some r := fun he h4 => by
          obtain ⟨vs, h5, h6⟩ := denRes_ok g2 _ _ h4
          refine ⟨oneOr vs, m', ?_, h6⟩
          have hle : Nat.ble e 1 = true := by rw [Nat.ble_eq]; exact he
          simp only [evF, hfn, hb, hlen, hK, g1, hle, h5]
        rcases g4 with ⟨rfl, h4⟩ | ⟨rfl, h4⟩ | ⟨id, kk, _, h5, _⟩
        · exact fin (by omega) h4
        · exact fin (by omega) h4
        · cases h5
end

/-! ### A table of functions -/
def callM (sp : FuncId → Bool) (S : CallT) (P : Program) (FSl : Nat → List Nat) (G lf : Nat) : Nat → CallT
  | 0 => noCalls
  | n + 1 => fun f args L m => match Nat.blt f RB with
    | true => match sp f with
      | true => S f args L m
      | false => evF P FSl G (kAll P) lf (callM sp S P FSl G lf n) f args L m
    | false => evR P (ltab P FSl) G lf (callM sp S P FSl G lf n) (Nat.sub f RB) args L m
theorem callM_ok {P : Program} {FSl : Nat → List Nat} {G R lf : Nat} {B : Base} {sp : FuncId → Bool} {S : CallT} (hB : B.lt = ltab P FSl) (hS : FOk P G R B S) (hP : Prog P) : ∀ n, CallOk P G R B (callM sp S P FSl G lf n) := by
  intro n
  induction n with
  | zero => exact noCalls_ok
  | succ n ih =>
    have hF := evF_ok hP hB (kAll P) lf ih
    have opn : ∀ f args L m v m', f < RB → callM sp S P FSl G lf (n + 1) f args L m = some (v, m') → S f args L m = some (v, m') ∨ evF P FSl G (kAll P) lf (callM sp S P FSl G lf n) f args L m = some (v, m') := by
      intro f args L m v m' hf h
      have hb : Nat.blt f RB = true := by simpa using hf
      simp only [callM, hb] at h
      split at h
      · exact .inl h
      · exact .inr h
    have opr : ∀ f args L m v m', callM sp S P FSl G lf (n + 1) (Nat.add RB f) args L m = some (v, m') → evR P (ltab P FSl) G lf (callM sp S P FSl G lf n) f args L m = some (v, m') := by
      intro f args L m v m' h
      have hb : Nat.blt (Nat.add RB f) RB = false := by
        cases hh : Nat.blt (Nat.add RB f) RB with
        | false => rfl
        | true =>
          have : RB + f < RB := by simpa using hh
          omega
      have hs : Nat.sub (Nat.add RB f) RB = f := by show RB + f - RB = f; omega
      simp only [callM, hb, hs] at h
      exact h
    refine ⟨fun f args L m v m' hm hL h => ?_, fun f args L m v m' hf h => ?_, fun f y cells vs L m v m' es h hrd U ι w cvs hr hR hL hU hvl e r he hw => ?_, fun f args L m v m' hf h => ?_⟩
    · by_cases hf : f < RB
      · rcases opn _ _ _ _ _ _ hf h with h | h
        · exact hS.ext _ _ _ _ _ _ hm hL h
        · exact hF.ext _ _ _ _ _ _ hm hL h
      · obtain ⟨d, rfl⟩ : ∃ d, f = Nat.add RB d := ⟨f - RB, (Nat.add_sub_cancel' (Nat.le_of_not_lt hf)).symm⟩
        exact evR_ext ih hm hL (opr _ _ _ _ _ _ h)
    · rcases opn _ _ _ _ _ _ hf h with h | h
      · exact hS.fn _ _ _ _ _ _ h
      · exact hF.fn _ _ _ _ _ _ h
    · exact evR_rnd hP ih hB (opr _ _ _ _ _ _ h) hrd hr hR hL hU hvl he hw
    · rcases opn _ _ _ _ _ _ hf h with h | h
      · exact hS.ok _ _ _ _ _ _ h
      · exact hF.ok _ _ _ _ _ _ h

abbrev FnK (β : Type) := CallK β → List Value → Nat → Mem → (Value → Mem → Option β) → Option β
inductive Bt (β : Type) where
  | e
  | n (key : Nat) (x : FnK β) (l r : Bt β)
def Bt.find {β : Type} (t : Bt β) (f : Nat) : Option (FnK β) := match t with
  | .e => none
  | .n key x l r => match Nat.beq key f with
    | true => some x
    | false => match Nat.blt f key with
      | true => Bt.find l f
      | false => Bt.find r f
def Bt.All {β : Type} (good : Nat → FnK β → Prop) : Bt β → Prop
  | .e => True
  | .n key x l r => good key x ∧ Bt.All good l ∧ Bt.All good r
theorem Bt.find_all {β : Type} {good : Nat → FnK β → Prop} {f : Nat} {x : FnK β} : ∀ {t : Bt β}, t.All good → t.find f = some x → good f x
  | .e, _, h => by cases h
  | .n key y l r, ha, h => by
    obtain ⟨h1, h2, h3⟩ := ha
    simp only [Bt.find] at h
    split at h
    · rename_i hb
      obtain rfl := Nat.eq_of_beq_eq_true hb
      cases h
      exact h1
    · split at h
      · exact Bt.find_all h2 h
      · exact Bt.find_all h3 h
/-- A text is a function's: its body in the shallow form, or what is known of it. -/
def Good {β : Type} (P : Program) (FSl : Nat → List Nat) (G lf : Nat) (sp : FuncId → Bool) (S : CallT) (f : Nat) (x : FnK β) : Prop :=
  (f < RB ∧ sp f = true ∧ ∀ cK args L m k r, x cK args L m k = some r → ∃ v m', S f args L m = some (v, m') ∧ k v m' = some r) ∨
  (f < RB ∧ sp f = false ∧ ∃ ka, ∀ cK args L m k, x cK args L m k = denF P FSl G ka lf cK f args L m k) ∨
  (∃ d, f = Nat.add RB d ∧ ∃ ka, ∀ cK args L m k, x cK args L m k = denR P (ltab P FSl) G ka lf cK d args L m k)
theorem Good.fn {β : Type} {P : Program} {FSl : Nat → List Nat} {G lf : Nat} {sp : FuncId → Bool} {S : CallT} {f : Nat} {x : FnK β} (hf : Nat.blt f RB = true) (hs : sp f = false) (ka : Kat) (h : ∀ cK args L m k, x cK args L m k = denF P FSl G ka lf cK f args L m k) : Good P FSl G lf sp S f x :=
  .inr (.inl ⟨by simpa using hf, hs, ka, h⟩)
theorem Good.rnd {β : Type} {P : Program} {FSl : Nat → List Nat} {G lf : Nat} {sp : FuncId → Bool} {S : CallT} {f : Nat} {x : FnK β} (d : Nat) (hf : f = Nat.add RB d) (ka : Kat) (h : ∀ cK args L m k, x cK args L m k = denR P (ltab P FSl) G ka lf cK d args L m k) : Good P FSl G lf sp S f x :=
  .inr (.inr ⟨d, hf, ka, h⟩)
def runT {β : Type} (t : Bt β) : Nat → CallK β
  | 0 => fun _ _ _ _ _ => none
  | n + 1 => fun f args L m k => match t.find f with
    | some x => x (runT t n) args L m k
    | none => none
theorem runT_sim {β : Type} {P : Program} {FSl : Nat → List Nat} {G lf : Nat} {sp : FuncId → Bool} {S : CallT} {t : Bt β} (ht : t.All (Good P FSl G lf sp S)) : ∀ n, CallSim (runT t n) (callM sp S P FSl G lf n)
  | 0 => fun f args L m k r h => by cases h
  | n + 1 => fun f args L m k r h => by
    simp only [runT] at h
    split at h
    · rename_i x hx
      rcases Bt.find_all ht hx with ⟨hf, h1, h2⟩ | ⟨hf, h1, ka, h2⟩ | ⟨d, rfl, ka, h2⟩
      · have hb : Nat.blt f RB = true := by simpa using hf
        obtain ⟨v, m', h3, h4⟩ := h2 _ _ _ _ _ _ h
        exact ⟨v, m', by simp only [callM, hb, h1]; exact h3, h4⟩
      · have hb : Nat.blt f RB = true := by simpa using hf
        rw [h2] at h
        obtain ⟨v, m', h3, h4⟩ := denF_ok (runT_sim ht n) h
        exact ⟨v, m', by simp only [callM, hb, h1]; exact h3, h4⟩
      · have hb : Nat.blt (Nat.add RB d) RB = false := by
          cases hh : Nat.blt (Nat.add RB d) RB with
          | false => rfl
          | true =>
            have : RB + d < RB := by simpa using hh
            omega
        have hs : Nat.sub (Nat.add RB d) RB = d := by show RB + d - RB = d; omega
        rw [h2] at h
        obtain ⟨v, m', h3, h4⟩ := denR_ok (runT_sim ht n) h
        exact ⟨v, m', by simp only [callM, hb, hs]; exact h3, h4⟩
    · cases h
def isTrue (v : Value) (_ : Mem) : Option Unit := match v with
  | .bool true => some ()
  | _ => none
theorem calls_of_runT {P : Program} {FSl : Nat → List Nat} {G lf : Nat} {sp : FuncId → Bool} {S : CallT} {t : Bt Unit} (ht : t.All (Good P FSl G lf sp S)) {m : Mem} {W : World} {ι : Inj} (hP : Prog P) (hS : FOk P G m.next ⟨W, ltab P FSl⟩ S) {n : Nat} {f : FuncId} {args : List Value} {cargs : Array Value}
    (hrel : ∀ U, Rel G m.next ⟨W, ltab P FSl⟩ U ι m W) (hargs : VL ι args cargs.toList) (h : runT t n f args m.next m isTrue = some ()) (hfl : f < RB := by exact Nat.le_of_ble_eq_true rfl) :
    Calls P f cargs W fun e W' => e = .returned (.bool true) ∧ Stays W W' := by
  obtain ⟨v, m', h1, h2⟩ := runT_sim ht n _ _ _ _ _ _ h
  have hc := callM_ok (G := G) (R := m.next) (B := ⟨W, ltab P FSl⟩) (sp := sp) (lf := lf) rfl hS hP n
  have hext := hc.ext _ _ _ _ _ _ (hrel 0).ok (Nat.le_refl _) h1
  refine (hc.ok _ _ _ _ _ _ hfl h1 m'.next ι W cargs (hrel _) (Nat.le_refl _) (Nat.le_refl _) (Nat.le_refl _) hargs).mono fun e W' ⟨u, κ, he, g1, g2, g3⟩ => ?_
  unfold isTrue at h2
  split at h2
  · cases g1
    exact ⟨he, g3.stays (Nat.le_refl _)⟩
  · cases h2
end Go.Vit

