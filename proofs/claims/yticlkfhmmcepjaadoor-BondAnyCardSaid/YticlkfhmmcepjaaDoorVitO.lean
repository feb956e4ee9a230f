/- Code and calls: the evaluator, and that what it reckons is what the machine does. -/
import Derived.Test.YticlkfhmmcepjaaDoorVitN
import Derived.LoopN
import Derived.Scope
set_option linter.unusedSimpArgs false
set_option linter.unusedVariables false
namespace Go.Vit
open Go

abbrev Out := Option (Nat × (Fr × Mem))
def exOf (n : Nat) : Exit := match n with
  | 0 => .normal
  | 1 => .ret
  | k + 2 => if k % 2 = 0 then .exit (k / 2) else .goto (k / 2)

def pairT (l : List Oper) : List (Oper × Bool) := l.map fun o => (o, true)
def evRegion (P : Program) (G N : Nat) (K : List Nat) (call : CallT) (L : Nat) (ops : List Oper) (draw : Bool) (fr : Fr) (m : Mem) : Out :=
  match (match draw with
    | false => some (pairT ops)
    | true => match drawOk ops with
      | true => some (flags ops)
      | false => none) with
  | none => none
  | some l => match fr with
    | ⟨ps, _⟩ => match evOps P G N K call ops L l ⟨ps, []⟩ m with
      | some (fr', m') => some (0, (fr', m'))
      | none => none

def loopN (body : Fr → Mem → Out) : Nat → Fr → Mem → Out
  | 0, _, _ => none
  | n + 1, fr, m => match body fr m with
    | some (e, (fr', m')) => match e with
      | 0 => loopN body n fr' m'
      | Nat.succ k => some (Nat.succ k, (fr', m'))
    | none => none

def ev (P : Program) (G N : Nat) (K : List Nat) (call : CallT) (lf : Nat) (L : Nat) : Code → Fr → Mem → Out
  | .skip, fr, m => some (0, (fr, m))
  | .region _ ops draw, fr, m => evRegion P G N K call L ops.toList draw fr m
  | .seq a b, fr, m => match ev P G N K call lf L a fr m with
    | some (e, (fr', m')) => match e with
      | 0 => ev P G N K call lf L b fr' m'
      | Nat.succ k => some (Nat.succ k, (fr', m'))
    | none => none
  | .cond c a b, fr, m => match aeval G (fget K fr) c with
    | some (.bool true) => ev P G N K call lf L a fr m
    | some (.bool false) => ev P G N K call lf L b fr m
    | _ => none
  | .block id body, fr, m => match ev P G N K call lf L body fr m with
    | some (e, (fr', m')) => match Nat.beq e (Nat.succ (Nat.succ (Nat.mul 2 id))) with
      | true => some (0, (fr', m'))
      | false => some (e, (fr', m'))
    | none => none
  | .loop body, fr, m => loopN (ev P G N K call lf L body) lf fr m
  | .exit id, fr, m => some (Nat.succ (Nat.succ (Nat.mul 2 id)), (fr, m))
  | .ret, fr, m => some (1, (fr, m))
  | .label _, fr, m => some (0, (fr, m))
  | _, _, _ => none

def initPs (args : List Value) : List Nat → List Value
  | [] => []
  | t :: l => (match lget args t with
    | some v => v
    | none => Go.undef) :: initPs args l
def resA (P : Program) (K : List Nat) (fr : Fr) (m : Mem) : List ResultVar → Option (List Value)
  | [] => some []
  | r :: l => match (match r with
      | .tmp t => fget K fr t
      | .cell a t => match fget K fr a with
        | some x => aload P m t x
        | none => none) with
    | some v => match resA P K fr m l with
      | some vs => some (v :: vs)
      | none => none
    | none => none
def oneOr (vs : List Value) : Value := match vs with
  | [v] => v
  | vs => .tuple ⟨vs⟩

/-- A function's body. -/
def evF (P : Program) (G : Nat) (KK : FuncId → List Nat) (lf : Nat) (call : CallT) : CallT := fun f args L m => match P.funcs[f]? with
  | none => none
  | some fn => match fn.body with
    | none => none
    | some c => match Nat.ble args.length fn.ntmps with
      | false => none
      | true => match ev P G fn.ntmps (KK f) call lf L c ⟨initPs args (KK f), []⟩ m with
        | none => none
        | some (e, (fr, m')) => match Nat.ble e 1 with
          | false => none
          | true => match resA P (KK f) fr m' fn.results.toList with
            | some vs => some (oneOr vs, m')
            | none => none
/-- Calls, to a depth. S: what is known of some calls; KK: of each function, its lasting slots. -/
def callN (S : CallT) (P : Program) (G : Nat) (KK : FuncId → List Nat) (lf : Nat) : Nat → CallT
  | 0 => S
  | n + 1 => fun f args L m => match S f args L m with
    | some r => some r
    | none => evF P G KK lf (callN S P G KK lf n) f args L m
def noCalls : CallT := fun _ _ _ _ => none

section
variable {P : Program} {G R U L : Nat} {B : World} {call : CallT}

theorem pairT_fst (l : List Oper) : pairT l = l.map fun o => (o, true) := rfl

theorem evRegion_ext (hc : CallOk P G R B call) {N : Nat} {K : List Nat} {ops : List Oper} {draw : Bool} {fr fr' : Fr} {m m' : Mem} {e : Nat} (hm : m.ok) (hL : L ≤ m.next)
    (h : evRegion P G N K call L ops draw fr m = some (e, (fr', m'))) : Ext L m m' := by
  unfold evRegion at h
  split at h
  · cases h
  · split at h
    rename_i ps ts
    split at h
    · rename_i fr1 m1 hh
      cases h
      exact evOps_ext hc _ _ _ _ _ hm hL hh
    · cases h

theorem evRegion_ok (hP : Prog P) (hc : CallOk P G R B call) {N : Nat} {K : List Nat} {ops : Array Oper} {id : Nat} {draw : Bool} (hR : R ≤ L) {Q : Exit → Act → World → Prop} {fr fr' : Fr} {m m' : Mem} {e : Nat} {ι : Inj} {a : Act} {w : World}
    (h : evRegion P G N K call L ops.toList draw fr m = some (e, (fr', m'))) (hr : Rel G R B U ι m w) (hL : L ≤ m.next) (hU : m'.next ≤ U) (hf : FR ι (fget K fr) a) (hN : N ≤ a.tmps.size)
    (hq : ∀ κ a' w', Rel G R B U κ m' w' → FR κ (fget K fr') a' → a'.tmps.size = a.tmps.size → a'.defers = a.defers → Step L ι m w κ m' w' → Q (exOf e) a' w') : (Code.region id ops draw).wp P Q a w := by
  unfold evRegion at h
  have hf0 : FR ι (fget K ⟨fr.ps, []⟩) a := fun t v hv => by
    refine hf t v ?_
    unfold fget at hv ⊢
    split at hv
    · exact hv
    · cases hv
  cases draw with
  | false =>
    simp only [] at h
    split at h
    · rename_i fr1 m1 hh
      simp only [Option.some.injEq, Prod.mk.injEq] at h
      obtain ⟨rfl, rfl, rfl⟩ := h
      have := evOps_ok (U := U) (Q := Q) hP hc hR ops.toList 0 ⟨fr.ps, []⟩ m ι a w fr1 m1 hh (by simp) hr hL hU hf0 hN hq
      refine wp_region ?_
      rw [List.range_eq_range']
      simpa using this
    · cases h
  | true =>
    simp only [] at h
    split at h
    · cases h
    · rename_i l hl
      split at hl
      · rename_i hdr
        cases hl
        split at h
        · rename_i fr1 m1 hh
          simp only [Option.some.injEq, Prod.mk.injEq] at h
          obtain ⟨rfl, rfl, rfl⟩ := h
          obtain ⟨tr, t0, t1, t2⟩ := evOps_trace _ _ _ _ _ hh
          have hlen : (flags ops.toList).length = ops.size := by
            have := congrArg List.length (flags_fst ops.toList)
            simpa using this
          rw [hlen] at t1
          have ht : Txt P G R B L call ops N K tr := ⟨drawOk_facts hdr, t2, by rw [t0]; exact hr.ok, hc, by rw [t0]; exact hL⟩
          have hUn : (tr ops.size).2.next ≤ U := by rw [t1]; exact hU
          have hd0 : ∀ b e, ι b = some e → b < (tr 0).2.next ∨ U ≤ b := by rw [t0]; exact hr.dom
          refine wp_region_any hP.mixed ?_
          refine draw_core (G := G) (R := R) (B := B) (U := U) (L := L) (N := N) (K := K) tr hP ht hR hUn (ι0 := ι) (a0 := a) (w0 := { w with drawn := w.drawn + 1 }) hN ?_ hd0 _ _ _ _ ⟨by simp, ?_, rfl, rfl, ?_⟩ (by omega)
          · intro κ a' w' g1 g2 g3 g4 g5
            rw [t1] at g1 g2 g5
            rw [t0] at g5
            exact hq κ a' w' g1 g2 g3 g4 ((Step.same rfl rfl rfl rfl : Step L ι m w ι m { w with drawn := w.drawn + 1 }).trans g5)
          · intro i o ho hd
            have := hd.2
            simp [Array.getD_eq_getD_getElem?, Array.getElem?_replicate] at this
            split at this <;> simp_all
          · obtain ⟨r, r1, r2, r3, r4⟩ := nextEM ops ops.size 0 (by omega)
            have hnd : ∀ i, ¬ Done (Array.replicate ops.size false) i := fun i hd => by
              have := hd.2
              simp [Array.getD_eq_getD_getElem?, Array.getElem?_replicate] at this
              split at this <;> simp_all
            have hext := (ht.exts tr (p := 0) r (by omega) r2).2 r3
            have hUr : (tr r).2.next ≤ U := Nat.le_trans (ht.exts tr (p := r) ops.size r2 (Nat.le_refl _)).1.next hUn
            have hr0 : Rel G R B U ι (tr 0).2 { w with drawn := w.drawn + 1 } := by rw [t0]; exact hr.world rfl
            refine ⟨ι, r, r2, fun i hi hem => absurd hem (r3 i (by omega) hi), fun h => ⟨r4 h, hnd r⟩, fun i _ _ => hnd i, hr0.fwd hext.next hext.ok hUr (fun b hb => hext.kept b hb hb), fun i hi _ b hb1 hb2 => ?_,
              (Step.refl' L ι (tr 0).2 { w with drawn := w.drawn + 1 }).fwd hext.next (fun b e he => (hd0 b e he).imp (fun h => h) fun h => by omega) (fun b hb1 hb2 => hext.kept b hb2 hb2), ?_⟩
            · cases hι : ι b with
              | none => rfl
              | some e =>
                have h1 := hd0 b e hι
                have h2 := (ht.exts tr (p := 0) i (by omega) (by omega)).1.next
                have h3 := (ht.exts tr (p := i + 1) ops.size (by omega) (Nat.le_refl _)).1.next
                omega
            · intro t j hj hcond v hv
              rw [ht.nowrite tr (p := 0) (t := t) j (by omega) hj fun k x _ hk hx hxd => hnd k ((hcond k x hx hxd).2 hk)] at hv
              rw [t0] at hv
              exact hf0 t v hv
        · cases h
      · cases hl

theorem loopN_ext {body : Fr → Mem → Out} (hb : ∀ fr m e fr' m', m.ok → L ≤ m.next → body fr m = some (e, (fr', m')) → Ext L m m') {e : Nat} {fr' : Fr} {m' : Mem} : ∀ n fr m, m.ok → L ≤ m.next → loopN body n fr m = some (e, (fr', m')) → Ext L m m'
  | 0, fr, m, hm, hL, h => by cases h
  | n + 1, fr, m, hm, hL, h => by
    simp only [loopN] at h
    split at h
    · rename_i e1 fr1 m1 h1
      have g1 := hb _ _ _ _ _ hm hL h1
      split at h
      · exact g1.trans (loopN_ext hb n _ _ g1.ok (Nat.le_trans hL g1.next) h)
      · cases h; exact g1
    · cases h

theorem ev_ext (hc : CallOk P G R B call) {N : Nat} {K : List Nat} {lf : Nat} : ∀ (c : Code) (fr : Fr) (m : Mem) (e : Nat) (fr' : Fr) (m' : Mem), m.ok → L ≤ m.next → ev P G N K call lf L c fr m = some (e, (fr', m')) → Ext L m m' := by
  intro c
  induction c with
  | skip => intro fr m e fr' m' hm hL h; cases h; exact Ext.refl hm
  | region id ops draw => intro fr m e fr' m' hm hL h; exact evRegion_ext hc hm hL h
  | seq a b iha ihb =>
    intro fr m e fr' m' hm hL h
    simp only [ev] at h
    split at h
    · rename_i e1 fr1 m1 h1
      have g1 := iha _ _ _ _ _ hm hL h1
      split at h
      · exact g1.trans (ihb _ _ _ _ _ g1.ok (Nat.le_trans hL g1.next) h)
      · cases h; exact g1
    · cases h
  | cond c a b iha ihb =>
    intro fr m e fr' m' hm hL h
    simp only [ev] at h
    split at h
    · exact iha _ _ _ _ _ hm hL h
    · exact ihb _ _ _ _ _ hm hL h
    · cases h
  | block id body ih =>
    intro fr m e fr' m' hm hL h
    simp only [ev] at h
    split at h
    · rename_i e1 fr1 m1 h1
      have g1 := ih _ _ _ _ _ hm hL h1
      split at h <;> (cases h; exact g1)
    · cases h
  | loop body ih =>
    intro fr m e fr' m' hm hL h
    simp only [ev] at h
    exact loopN_ext (fun fr m e fr' m' => ih fr m e fr' m') lf fr m hm hL h
  | exit id => intro fr m e fr' m' hm hL h; cases h; exact Ext.refl hm
  | ret => intro fr m e fr' m' hm hL h; cases h; exact Ext.refl hm
  | label l => intro fr m e fr' m' hm hL h; cases h; exact Ext.refl hm
  | _ => intros; rename_i h; cases h

theorem exOf_succ {k : Nat} : exOf (Nat.succ k) ≠ .normal := by
  cases k with
  | zero => simp [exOf]
  | succ k => simp only [exOf]; split <;> simp

theorem ev_ok (hP : Prog P) (hc : CallOk P G R B call) {N : Nat} {K : List Nat} {lf : Nat} (hR : R ≤ L) : ∀ (c : Code) (Q : Exit → Act → World → Prop) (fr : Fr) (m : Mem) (e : Nat) (fr' : Fr) (m' : Mem) (ι : Inj) (a : Act) (w : World),
    ev P G N K call lf L c fr m = some (e, (fr', m')) → Rel G R B U ι m w → L ≤ m.next → m'.next ≤ U → FR ι (fget K fr) a → N ≤ a.tmps.size →
    (∀ κ a' w', Rel G R B U κ m' w' → FR κ (fget K fr') a' → a'.tmps.size = a.tmps.size → a'.defers = a.defers → Step L ι m w κ m' w' → Q (exOf e) a' w') → c.wp P Q a w := by
  intro c
  induction c with
  | skip => intro Q fr m e fr' m' ι a w h hr hL hU hf hN hq; cases h; exact wp_skip (hq ι a w hr hf rfl rfl (Step.refl' _ _ _ _))
  | region id ops draw => intro Q fr m e fr' m' ι a w h hr hL hU hf hN hq; exact evRegion_ok hP hc hR h hr hL hU hf hN hq
  | seq x y ihx ihy =>
    intro Q fr m e fr' m' ι a w h hr hL hU hf hN hq
    simp only [ev] at h
    split at h
    · rename_i e1 fr1 m1 h1
      have g1 := ev_ext hc x _ _ _ _ _ hr.ok hL h1
      have hL1 := Nat.le_trans hL g1.next
      split at h
      · have g2 := ev_ext hc y _ _ _ _ _ g1.ok hL1 h
        refine wp_seq (ihx _ fr m 0 fr1 m1 ι a w h1 hr hL (Nat.le_trans g2.next hU) hf hN fun κ a' w' k1 k2 k3 k4 k5 => ?_)
        exact ihy Q fr1 m1 e fr' m' κ a' w' h k1 hL1 hU k2 (by omega) fun κ' a'' w'' j1 j2 j3 j4 j5 => hq κ' a'' w'' j1 j2 (by omega) (j4.trans k4) (k5.trans j5)
      · rename_i k
        simp only [Option.some.injEq, Prod.mk.injEq] at h
        obtain ⟨rfl, rfl, rfl⟩ := h
        refine wp_seq (ihx _ fr m (Nat.succ k) fr1 m1 ι a w h1 hr hL hU hf hN fun κ a' w' k1 k2 k3 k4 k5 => ?_)
        have := hq κ a' w' k1 k2 k3 k4 k5
        have hne := @exOf_succ k
        generalize exOf (Nat.succ k) = x at this hne
        cases x <;> first | exact absurd rfl hne | exact this
    · cases h
  | cond c x y ihx ihy =>
    intro Q fr m e fr' m' ι a w h hr hL hU hf hN hq
    simp only [ev] at h
    have hcv : ∀ b, aeval G (fget K fr) c = some (.bool b) → a.eval c = .bool b := fun b hb => by
      have := aeval_ok hr.gl hf hb
      generalize a.eval c = z at this
      cases this; rfl
    split at h
    · rename_i hb
      exact wp_cond (t := true) (hcv _ hb) (ihx Q fr m e fr' m' ι a w h hr hL hU hf hN hq)
    · rename_i hb
      exact wp_cond (t := false) (hcv _ hb) (ihy Q fr m e fr' m' ι a w h hr hL hU hf hN hq)
    · cases h
  | block id body ih =>
    intro Q fr m e fr' m' ι a w h hr hL hU hf hN hq
    simp only [ev] at h
    split at h
    · rename_i e1 fr1 m1 h1
      refine wp_block ?_
      split at h
      · rename_i he
        have he' : e1 = 2 * id + 2 := Nat.eq_of_beq_eq_true he
        simp only [Option.some.injEq, Prod.mk.injEq] at h
        obtain ⟨rfl, rfl, rfl⟩ := h
        refine ih _ fr m e1 fr1 m1 ι a w h1 hr hL hU hf hN fun κ a' w' k1 k2 k3 k4 k5 => ?_
        have : Q .normal a' w' := hq κ a' w' k1 k2 k3 k4 k5
        have hex : exOf e1 = .exit id := by
          rw [he']
          show (if 2 * id % 2 = 0 then Exit.exit (2 * id / 2) else _) = _
          rw [if_pos (by omega)]
          congr 1; omega
        rw [hex]
        simp only [Exit.inBlock, if_true]
        exact this
      · rename_i he
        have he' : e1 ≠ 2 * id + 2 := Nat.ne_of_beq_eq_false he
        simp only [Option.some.injEq, Prod.mk.injEq] at h
        obtain ⟨rfl, rfl, rfl⟩ := h
        refine ih _ fr m e1 fr1 m1 ι a w h1 hr hL hU hf hN fun κ a' w' k1 k2 k3 k4 k5 => ?_
        have := hq κ a' w' k1 k2 k3 k4 k5
        have hne : ∀ id', exOf e1 = .exit id' → id' ≠ id := fun id' hx => by
          intro hid
          subst hid
          match e1, hx, he' with
          | 0, hx, _ => cases hx
          | 1, hx, _ => cases hx
          | k + 2, hx, he' =>
            simp only [exOf] at hx
            split at hx
            · cases hx; omega
            · cases hx
        generalize exOf e1 = x at this hne
        cases x with
        | exit id' =>
          simp only [Exit.inBlock, if_neg (hne id' rfl)]
          exact this
        | _ => exact this
    · cases h
  | loop body ih =>
    intro Q fr m e fr' m' ι a w h hr hL hU hf hN hq
    simp only [ev] at h
    have key : ∀ n fr m ι a w, loopN (ev P G N K call lf L body) n fr m = some (e, (fr', m')) → Rel G R B U ι m w → L ≤ m.next → FR ι (fget K fr) a → N ≤ a.tmps.size →
        (∀ κ a' w', Rel G R B U κ m' w' → FR κ (fget K fr') a' → a'.tmps.size = a.tmps.size → a'.defers = a.defers → Step L ι m w κ m' w' → Q (exOf e) a' w') → Code.rounds P body Q n a w := by
      intro n
      induction n with
      | zero => intro fr m ι a w h; cases h
      | succ n ihn =>
        intro fr m ι a w h hr hL hf hN hq
        simp only [loopN] at h
        rw [rounds_succ]
        split at h
        · rename_i e1 fr1 m1 h1
          have g1 := ev_ext hc body _ _ _ _ _ hr.ok hL h1
          have hL1 := Nat.le_trans hL g1.next
          split at h
          · have g2 : Ext L m1 m' := loopN_ext (fun fr m e fr' m' hm hl hb => ev_ext hc body fr m e fr' m' hm hl hb) n fr1 m1 g1.ok hL1 h
            refine ih _ fr m 0 fr1 m1 ι a w h1 hr hL (Nat.le_trans g2.next hU) hf hN fun κ a' w' k1 k2 k3 k4 k5 => ?_
            exact ihn fr1 m1 κ a' w' h k1 hL1 k2 (by omega) fun κ' a'' w'' j1 j2 j3 j4 j5 => hq κ' a'' w'' j1 j2 (by omega) (j4.trans k4) (k5.trans j5)
          · rename_i k
            simp only [Option.some.injEq, Prod.mk.injEq] at h
            obtain ⟨rfl, rfl, rfl⟩ := h
            refine ih _ fr m (Nat.succ k) fr1 m1 ι a w h1 hr hL hU hf hN fun κ a' w' k1 k2 k3 k4 k5 => ?_
            have := hq κ a' w' k1 k2 k3 k4 k5
            have hne := @exOf_succ k
            generalize exOf (Nat.succ k) = x at this hne
            cases x <;> first | exact absurd rfl hne | exact this
        · cases h
    exact wp_loop_rounds lf (key lf fr m ι a w h hr hL hf hN hq)
  | exit id =>
    intro Q fr m e fr' m' ι a w h hr hL hU hf hN hq
    simp only [ev, Option.some.injEq, Prod.mk.injEq] at h
    obtain ⟨rfl, rfl, rfl⟩ := h
    have := hq ι a w hr hf rfl rfl (Step.refl' _ _ _ _)
    have hex : exOf (Nat.succ (Nat.succ (Nat.mul 2 id))) = .exit id := by
      show (if 2 * id % 2 = 0 then Exit.exit (2 * id / 2) else _) = _
      rw [if_pos (by omega)]
      congr 1; omega
    rw [hex] at this
    exact wp_exit this
  | ret => intro Q fr m e fr' m' ι a w h hr hL hU hf hN hq; cases h; exact wp_ret (hq ι a w hr hf rfl rfl (Step.refl' _ _ _ _))
  | label l => intro Q fr m e fr' m' ι a w h hr hL hU hf hN hq; cases h; exact wp_label (hq ι a w hr hf rfl rfl (Step.refl' _ _ _ _))
  | _ => intros; rename_i h _ _ _ _ _ _; cases h
end
end Go.Vit
