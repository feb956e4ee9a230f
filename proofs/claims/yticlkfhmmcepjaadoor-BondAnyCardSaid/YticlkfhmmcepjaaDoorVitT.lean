/- The shallow form is sound: regions, code, functions. -/
import Derived.Test.YticlkfhmmcepjaaDoorVitS
set_option linter.unusedSimpArgs false
set_option linter.unusedVariables false
namespace Go.Vit
open Go

theorem dsts_append : ∀ a b : List (Oper × Bool), dsts (a ++ b) = dsts a ++ dsts b
  | [], b => rfl
  | (o, e) :: a, b => by
    simp only [List.cons_append, dsts]
    cases o.dst <;> simp [dsts_append a b]
theorem memN_tail {d s : Nat} {l : List Nat} (h : memN (s :: l) d = false) : s ≠ d ∧ memN l d = false := by
  simp only [memN] at h
  split at h
  · cases h
  · rename_i hb
    refine ⟨fun he => ?_, h⟩
    subst he
    rw [Nat.beq_refl] at hb
    cases hb
theorem dsts_mem {d d' : Nat} : ∀ {l : List (Oper × Bool)} {x : Oper × Bool}, memN (dsts l) d = false → x ∈ l → x.1.dst = some d' → d' ≠ d
  | [], x, _, hx, _ => absurd hx List.not_mem_nil
  | (o, e) :: l, x, h, hx, hd => by
    have hcons : dsts ((o, e) :: l) = match o.dst with | some d => d :: dsts l | none => dsts l := rfl
    rw [hcons] at h
    rcases List.mem_cons.1 hx with rfl | hx
    · have hd : o.dst = some d' := hd
      rw [hd] at h
      exact (memN_tail h).1
    · refine dsts_mem (l := l) ?_ hx hd
      cases ho : o.dst with
      | none => rw [ho] at h; exact h
      | some d2 => rw [ho] at h; exact (memN_tail h).2
theorem sameG_eq {a b : Option (Nat × Bool)} (h : sameG a b = true) : a = b := by
  unfold sameG at h
  split at h
  · rfl
  · obtain rfl := Nat.eq_of_beq_eq_true h; rfl
  · obtain rfl := Nat.eq_of_beq_eq_true h; rfl
  · cases h
def flat (sg : List (Option (Nat × Bool) × List (Oper × Bool))) : List (Oper × Bool) := sg.flatMap (·.2)
theorem segs_ok : ∀ l, flat (segs l) = l ∧ ∀ g os, (g, os) ∈ segs l → ∀ x, x ∈ os → x.1.guard = g
  | [] => ⟨rfl, fun g os h => by cases h⟩
  | x :: l => by
    obtain ⟨h1, h2⟩ := segs_ok l
    simp only [segs]
    split
    · rename_i hs
      rw [hs] at h1
      refine ⟨by rw [← h1]; rfl, fun g os h y hy => ?_⟩
      simp only [List.mem_singleton, Prod.mk.injEq] at h
      obtain ⟨rfl, rfl⟩ := h
      simp only [List.mem_singleton] at hy
      subst hy
      rfl
    · rename_i g os rest hs
      rw [hs] at h1 h2
      split
      · rename_i hg
        have hg := sameG_eq hg
        refine ⟨by rw [← h1]; rfl, fun g' os' h y hy => ?_⟩
        cases h with
        | head =>
          cases hy with
          | head => exact hg.symm
          | tail _ hy => exact h2 g os (List.mem_cons_self ..) y hy
        | tail _ h => exact h2 g' os' (List.mem_cons_of_mem _ h) y hy
      · refine ⟨by rw [← h1]; rfl, fun g' os' h y hy => ?_⟩
        cases h with
        | head =>
          simp only [List.mem_singleton] at hy
          subst hy
          rfl
        | tail _ h => exact h2 g' os' h y hy

section
variable {β : Type} {P : Program} {G N L lf : Nat} {callK : CallK β} {call : CallT} {ka : Kat}

theorem guardK_some {want : Bool} {v : Value} {a b : Option β} {r : β} (h : guardK want v a b = some r) : (v = .bool want ∧ a = some r) ∨ ((v = .bool (!want) ∨ ∃ vs, v = .tuple vs) ∧ b = some r) := by
  simp only [guardK, deep_eq] at h
  split at h
  · unfold oGT at h
    split at h
    · split at h
      · exact .inl ⟨rfl, h⟩
      · exact .inr ⟨.inl rfl, h⟩
    · rename_i vs; exact .inr ⟨.inr ⟨_, rfl⟩, h⟩
    · cases h
  · unfold oGF at h
    split at h
    · split at h
      · exact .inr ⟨.inl rfl, h⟩
      · exact .inl ⟨rfl, h⟩
    · rename_i vs; exact .inr ⟨.inr ⟨_, rfl⟩, h⟩
    · cases h

theorem Kept.len {ds : List Nat} {fr1 fr2 : Fr} {N : Nat} {fr : Frm} (h : Sub N fr fr2) : fr2.ps.length = N := h.len

theorem denSegs_ok (hc : CallSim callK call) {ops : List Oper} {p : Nat} {r : β} {k : KN β} : ∀ (sg : List (Option (Nat × Bool) × List (Oper × Bool))) (i : Nat) (fr : Frm) (m : Mem) (fr1 : Fr),
    (∀ g os, (g, os) ∈ sg → ∀ x, x ∈ os → x.1.guard = g) → Sub N fr fr1 → denSegs P G N callK ka L ops p sg i fr m k = some r →
    ∃ fr' fr1' m', evOps P G N (List.range N) call ops L (flat sg) fr1 m = some (fr1', m') ∧ Sub N fr' fr1' ∧ Kept (dsts (flat sg)) fr1 fr1' ∧ k fr' m' = some r
  | [], i, fr, m, fr1, _, hs, h => ⟨fr, fr1, m, rfl, hs, Kept.refl _ _, h⟩
  | (g, os) :: rest, i, fr, m, fr1, hg, hs, h => by
    have hgo := hg g os (List.mem_cons_self ..)
    have hgr : ∀ g os, (g, os) ∈ rest → ∀ x, x ∈ os → x.1.guard = g := fun g os hm => hg g os (List.mem_cons_of_mem _ hm)
    have hfl : flat ((g, os) :: rest) = os ++ flat rest := rfl
    simp only [denSegs] at h
    split at h
    · obtain ⟨fr', fr1', m', h1, h2, h3, h4⟩ := denRun_ok (W := fun _ => True) (ops := ops) hc os fr m fr1 (fun x hx fr2 _ => by simp only [wantA, hgo x hx]) (fun _ _ _ _ _ _ _ => trivial) trivial hs h
      obtain ⟨fr2, fr3, m2, g1, g2, g3, g4⟩ := denSegs_ok hc rest (Nat.succ i) fr' m' fr1' hgr h2 h4
      refine ⟨fr2, fr3, m2, ?_, g2, ?_, g4⟩
      · rw [hfl, h1, g1]
      · rw [hfl, dsts_append]; exact h3.trans g3
    · rename_i j want
      split at h
      · cases h
      · rename_i oj hoj
        split at h
        · cases h
        · rename_i d hd
          split at h
          · cases h
          · rename_i hmem
            split at h
            · cases h
            · rename_i vb hvb
              obtain ⟨hdN, hlg⟩ := hs.get d vb hvb
              have hfg : ∀ fr2 : Fr, lget fr2.ps d = some vb → fget (List.range N) fr2 d = some vb := fun fr2 h2 => by
                unfold fget; rw [pos_all hdN]; exact h2
              have pres : ∀ x, x ∈ os → ∀ d', x.1.dst = some d' → ∀ v fr2, lget fr2.ps d = some vb → lget (put1 fr2 d' v).ps d = some vb := fun x hx d' hd' v fr2 h2 => by
                have hne := dsts_mem hmem hx hd'
                rw [lget_eq] at h2 ⊢
                simp only [put1, List.getElem?_set, hne, if_false]
                exact h2
              -- behind the join
              have fin : ∀ fr' fr1' m', (∀ rest, evOps P G N (List.range N) call ops L (os ++ rest) fr1 m = evOps P G N (List.range N) call ops L rest fr1' m') → Sub N fr' fr1' → Kept (dsts os) fr1 fr1' →
                  packK (katOf ka p i) fr' (fun vs => bindK (katOf ka p i) vs (rmv (dsts os) fr) fun fr => denSegs P G N callK ka L ops p rest (Nat.succ i) fr m' k) = some r →
                  ∃ fr' fr1' m', evOps P G N (List.range N) call ops L (flat ((some (j, want), os) :: rest)) fr1 m = some (fr1', m') ∧ Sub N fr' fr1' ∧ Kept (dsts (flat ((some (j, want), os) :: rest))) fr1 fr1' ∧ k fr' m' = some r := by
                intro fr' fr1' m' h1 h2 h3 h4
                obtain ⟨fr4, h5, h6⟩ := pack_bind _ h2 (hs.rmv h3 h2.len) h4
                obtain ⟨fr2, fr3, m2, g1, g2, g3, g4⟩ := denSegs_ok hc rest (Nat.succ i) fr4 m' fr1' hgr h5 h6
                refine ⟨fr2, fr3, m2, ?_, g2, ?_, g4⟩
                · rw [hfl, h1, g1]
                · rw [hfl, dsts_append]; exact h3.trans g3
              simp only [join] at h
              have hh := guardK_some h
              clear h
              rcases hh with ⟨rfl, h⟩ | ⟨hv, h⟩
              · obtain ⟨fr', fr1', m', h1, h2, h3, h4⟩ := denRun_ok (W := fun fr2 => lget fr2.ps d = some (.bool want)) (ops := ops) hc os fr m fr1
                  (fun x hx fr2 hW => by simp only [wantA, hgo x hx, hoj, hd, hfg fr2 hW]; cases want <;> rfl) pres hlg hs h
                exact fin fr' fr1' m' h1 h2 h3 h4
              · obtain ⟨fr', fr1', h1, h2, h3, h4⟩ := undefK_ok (P := P) (G := G) (L := L) (call := call) (W := fun fr2 => lget fr2.ps d = some vb) (ops := ops) os fr m fr1
                  (fun x hx fr2 hW => by
                    simp only [wantA, hgo x hx, hoj, hd, hfg fr2 hW]
                    rcases hv with rfl | ⟨vs, rfl⟩
                    · cases want <;> rfl
                    · rfl) pres hlg hs h
                exact fin fr' fr1' m h1 h2 h3 h4

theorem dsts_pairT : ∀ ops, dsts (pairT ops) = dsts0 ops
  | [] => rfl
  | o :: l => by
    have := dsts_pairT l
    simp only [pairT, List.map_cons, dsts, dsts0] at this ⊢
    cases o.dst <;> simp [this]
theorem dsts_fst : ∀ (a : List (Oper × Bool)), dsts a = dsts0 (a.map (·.1))
  | [] => rfl
  | (o, e) :: a => by
    simp only [dsts, List.map_cons, dsts0, dsts_fst a]
theorem dsts_flags (ops : List Oper) : dsts (flags ops) = dsts0 ops := by
  rw [dsts_fst, flags, flagsGo_fst]

theorem Sub.ts {fr : Frm} {fr1 : Fr} (h : Sub N fr fr1) (l : List (Nat × Value)) : Sub N fr ⟨fr1.ps, l⟩ := ⟨h.len, h.get⟩

theorem denReg_ok (hc : CallSim callK call) {ops : List Oper} {p : Nat} {r : β} {k : KN β} {draw : Bool} {fr : Frm} {m : Mem} {fr1 : Fr} (hs : Sub N fr fr1)
    (h : denReg P G N callK ka L ops p draw fr m k = some r) :
    ∃ fr' fr1' m', evRegion P G N (List.range N) call L ops draw fr1 m = some (0, (fr1', m')) ∧ Sub N fr' fr1' ∧ Kept (dsts0 ops) fr1 fr1' ∧ k fr' m' = some r := by
  have core : ∀ l, dsts l = dsts0 ops → denSegs P G N callK ka L ops p (segs l) 0 fr m k = some r →
      ∃ fr' fr1' m', evOps P G N (List.range N) call ops L l ⟨fr1.ps, []⟩ m = some (fr1', m') ∧ Sub N fr' fr1' ∧ Kept (dsts0 ops) fr1 fr1' ∧ k fr' m' = some r := fun l hl h => by
    obtain ⟨h1, h2⟩ := segs_ok l
    obtain ⟨fr', fr1', m', g1, g2, g3, g4⟩ := denSegs_ok hc (segs l) 0 fr m ⟨fr1.ps, []⟩ h2 (hs.ts []) h
    rw [h1] at g1 g3
    rw [hl] at g3
    exact ⟨fr', fr1', m', g1, g2, g3, g4⟩
  unfold denReg at h
  unfold evRegion
  cases draw with
  | false =>
    obtain ⟨fr', fr1', m', g1, g2, g3, g4⟩ := core _ (dsts_pairT ops) h
    exact ⟨fr', fr1', m', by simp only [g1], g2, g3, g4⟩
  | true =>
    simp only [] at h
    split at h
    · rename_i hdr
      obtain ⟨fr', fr1', m', g1, g2, g3, g4⟩ := core _ (dsts_flags ops) h
      exact ⟨fr', fr1', m', by simp only [hdr, g1], g2, g3, g4⟩
    · cases h

/-- Where a code ends, the one continuation or the other goes on. -/
def Cont (k : KN β) (ks : List (Nat × KN β)) (kr : KN β) (e : Nat) (fr : Frm) (m : Mem) (r : β) : Prop :=
  (e = 0 ∧ k fr m = some r) ∨ (e = 1 ∧ kr fr m = some r) ∨ ∃ id kk, e = 2 * id + 2 ∧ lookK ks id = some kk ∧ kk fr m = some r
theorem oIf_some {v : Value} {a b : Option β} {r : β} (h : oIf v a b = some r) : (v = .bool true ∧ a = some r) ∨ (v = .bool false ∧ b = some r) := by
  unfold oIf at h
  split at h
  · split at h
    · exact .inl ⟨rfl, h⟩
    · exact .inr ⟨rfl, h⟩
  · cases h

theorem den_ok (hc : CallSim callK call) {r : β} : ∀ (c : Code) (p : Nat) (fr : Frm) (m : Mem) (k : KN β) (ks : List (Nat × KN β)) (kr : KN β) (fr1 : Fr), Sub N fr fr1 →
    den P G N callK ka lf L c p fr m k ks kr = some r →
    ∃ e fr' fr1' m', ev P G N (List.range N) call lf L c fr1 m = some (e, (fr1', m')) ∧ Sub N fr' fr1' ∧ Kept (asg c) fr1 fr1' ∧ Cont k ks kr e fr' m' r := by
  intro c
  induction c with
  | skip => intro p fr m k ks kr fr1 hs h; exact ⟨0, fr, fr1, m, rfl, hs, Kept.refl _ _, .inl ⟨rfl, h⟩⟩
  | region id ops draw =>
    intro p fr m k ks kr fr1 hs h
    obtain ⟨fr', fr1', m', g1, g2, g3, g4⟩ := denReg_ok hc hs h
    exact ⟨0, fr', fr1', m', g1, g2, g3, .inl ⟨rfl, g4⟩⟩
  | seq a b iha ihb =>
    intro p fr m k ks kr fr1 hs h
    simp only [den] at h
    obtain ⟨e, fr2, fr3, m2, g1, g2, g3, g4⟩ := iha _ _ _ _ _ _ _ hs h
    rcases g4 with ⟨rfl, h4⟩ | ⟨rfl, h4⟩ | ⟨i, kk, rfl, h5, h4⟩
    · obtain ⟨e', fr4, fr5, m3, f1, f2, f3, f4⟩ := ihb _ _ _ _ _ _ _ g2 h4
      exact ⟨e', fr4, fr5, m3, by simp only [ev, g1]; exact f1, f2, g3.trans f3, f4⟩
    · exact ⟨1, fr2, fr3, m2, by simp only [ev, g1], g2, g3.left, .inr (.inl ⟨rfl, h4⟩)⟩
    · exact ⟨2 * i + 2, fr2, fr3, m2, by simp only [ev, g1], g2, g3.left, .inr (.inr ⟨i, kk, rfl, h5, h4⟩)⟩
  | cond c a b iha ihb =>
    intro p fr m k ks kr fr1 hs h
    simp only [den] at h
    split at h
    · cases h
    · rename_i v hv
      have hv1 := hs.eval _ _ hv
      have goT : v = .bool true → ∀ e fr3 m2, ev P G N (List.range N) call lf L a fr1 m = some (e, (fr3, m2)) → ev P G N (List.range N) call lf L (.cond c a b) fr1 m = some (e, (fr3, m2)) := fun hv e fr3 m2 hq => by
        rw [hv] at hv1; simp only [ev, hv1]; exact hq
      have goF : v = .bool false → ∀ e fr3 m2, ev P G N (List.range N) call lf L b fr1 m = some (e, (fr3, m2)) → ev P G N (List.range N) call lf L (.cond c a b) fr1 m = some (e, (fr3, m2)) := fun hv e fr3 m2 hq => by
        rw [hv] at hv1; simp only [ev, hv1]; exact hq
      split at h
      · simp only [join] at h
        have fin : ∀ e fr2 fr3 m2, Sub N fr2 fr3 → Kept (asg a ++ asg b) fr1 fr3 → Cont (fun fr' m => packK (katOf ka p 0) fr' fun vs => bindK (katOf ka p 0) vs (rmv (asg a ++ asg b) fr) fun fr => k fr m) ks kr e fr2 m2 r → ∃ fr4, Sub N fr4 fr3 ∧ Cont k ks kr e fr4 m2 r := by
          intro e fr2 fr3 m2 g2 g3 g4
          rcases g4 with ⟨rfl, h4⟩ | ⟨rfl, h4⟩ | h4
          · obtain ⟨fr4, h5, h6⟩ := pack_bind _ g2 (hs.rmv g3 g2.len) h4
            exact ⟨fr4, h5, .inl ⟨rfl, h6⟩⟩
          · exact ⟨fr2, g2, .inr (.inl ⟨rfl, h4⟩)⟩
          · exact ⟨fr2, g2, .inr (.inr h4)⟩
        rcases oIf_some h with ⟨hv', h⟩ | ⟨hv', h⟩
        · obtain ⟨e, fr2, fr3, m2, g1, g2, g3, g4⟩ := iha _ _ _ _ _ _ _ hs h
          obtain ⟨fr4, h5, h6⟩ := fin e fr2 fr3 m2 g2 g3.left g4
          exact ⟨e, fr4, fr3, m2, goT hv' _ _ _ g1, h5, g3.left, h6⟩
        · obtain ⟨e, fr2, fr3, m2, g1, g2, g3, g4⟩ := ihb _ _ _ _ _ _ _ hs h
          obtain ⟨fr4, h5, h6⟩ := fin e fr2 fr3 m2 g2 g3.right g4
          exact ⟨e, fr4, fr3, m2, goF hv' _ _ _ g1, h5, g3.right, h6⟩
      · rcases oIf_some h with ⟨hv', h⟩ | ⟨hv', h⟩
        · obtain ⟨e, fr2, fr3, m2, g1, g2, g3, g4⟩ := iha _ _ _ _ _ _ _ hs h
          exact ⟨e, fr2, fr3, m2, goT hv' _ _ _ g1, g2, g3.left, g4⟩
        · obtain ⟨e, fr2, fr3, m2, g1, g2, g3, g4⟩ := ihb _ _ _ _ _ _ _ hs h
          exact ⟨e, fr2, fr3, m2, goF hv' _ _ _ g1, g2, g3.right, g4⟩
  | block id body ih =>
    intro p fr m k ks kr fr1 hs h
    have goX : ∀ fr3 m2, ev P G N (List.range N) call lf L body fr1 m = some (2 * id + 2, (fr3, m2)) → ev P G N (List.range N) call lf L (.block id body) fr1 m = some (0, (fr3, m2)) := fun fr3 m2 h => by
      have hb : Nat.beq (2 * id + 2) (Nat.succ (Nat.succ (Nat.mul 2 id))) = true := Nat.beq_refl _
      simp only [ev, h, hb]
    have goN : ∀ e fr3 m2, e ≠ 2 * id + 2 → ev P G N (List.range N) call lf L body fr1 m = some (e, (fr3, m2)) → ev P G N (List.range N) call lf L (.block id body) fr1 m = some (e, (fr3, m2)) := fun e fr3 m2 hne h => by
      have hb : Nat.beq e (Nat.succ (Nat.succ (Nat.mul 2 id))) = false := by
        cases hh : Nat.beq e (Nat.succ (Nat.succ (Nat.mul 2 id))) with
        | false => rfl
        | true => exact absurd (Nat.eq_of_beq_eq_true hh) hne
      simp only [ev, h, hb]
    -- one way out or several
    have fin : ∀ kx : KN β, (∀ fr2 fr3 m2, Sub N fr2 fr3 → Kept (asg body) fr1 fr3 → kx fr2 m2 = some r → ∃ fr4, Sub N fr4 fr3 ∧ k fr4 m2 = some r) → den P G N callK ka lf L body (Nat.add (Nat.mul 2 p) 1) fr m kx ((id, kx) :: ks) kr = some r →
        ∃ e fr' fr1' m', ev P G N (List.range N) call lf L (.block id body) fr1 m = some (e, (fr1', m')) ∧ Sub N fr' fr1' ∧ Kept (asg body) fr1 fr1' ∧ Cont k ks kr e fr' m' r := by
      intro kx hkx h
      obtain ⟨e, fr2, fr3, m2, g1, g2, g3, g4⟩ := ih _ _ _ _ _ _ _ hs h
      rcases g4 with ⟨rfl, h4⟩ | ⟨rfl, h4⟩ | ⟨i, kk, rfl, h5, h4⟩
      · obtain ⟨fr4, h6, h7⟩ := hkx _ _ _ g2 g3 h4
        exact ⟨0, fr4, fr3, m2, goN _ _ _ (by omega) g1, h6, g3, .inl ⟨rfl, h7⟩⟩
      · exact ⟨1, fr2, fr3, m2, goN _ _ _ (by omega) g1, g2, g3, .inr (.inl ⟨rfl, h4⟩)⟩
      · simp only [lookK] at h5
        split at h5
        · rename_i hb
          obtain rfl := Nat.eq_of_beq_eq_true hb
          cases h5
          obtain ⟨fr4, h6, h7⟩ := hkx _ _ _ g2 g3 h4
          exact ⟨0, fr4, fr3, m2, goX _ _ g1, h6, g3, .inl ⟨rfl, h7⟩⟩
        · rename_i hb
          have hne : id ≠ i := fun e => by subst e; rw [Nat.beq_refl] at hb; cases hb
          exact ⟨2 * i + 2, fr2, fr3, m2, goN _ _ _ (by omega) g1, g2, g3, .inr (.inr ⟨i, kk, rfl, h5, h4⟩)⟩
    simp only [den] at h
    split at h
    · simp only [join] at h
      exact fin _ (fun fr2 fr3 m2 g2 g3 h4 => pack_bind _ g2 (hs.rmv g3 g2.len) h4) h
    · exact fin k (fun fr2 fr3 m2 g2 g3 h4 => ⟨fr2, g2, h4⟩) h
  | loop body ih =>
    intro p fr m k ks kr fr1 hs h
    simp only [den] at h
    have key : ∀ n fr2 m fr3, Sub N fr2 fr3 → Kept (asg body) fr1 fr3 → packK (katOf ka p 0) fr2 (fun vs =>
        loopS (fun self vs m => bindK (katOf ka p 0) vs (rmv (asg body) fr) fun fr => den P G N callK ka lf L body (Nat.add (Nat.mul 2 p) 1) fr m (fun fr m => packK (katOf ka p 0) fr fun vs => self vs m) ks kr) n vs m) = some r →
        ∃ e fr' fr1' m', loopN (ev P G N (List.range N) call lf L body) n fr3 m = some (e, (fr1', m')) ∧ Sub N fr' fr1' ∧ Kept (asg body) fr1 fr1' ∧ Cont k ks kr e fr' m' r := by
      intro n
      induction n with
      | zero =>
        intro fr2 m fr3 g2 g3 h
        exfalso
        have : ∀ (K : List Nat) (f : Frm) (kk : List Value → Option β), (∀ vs, kk vs = none) → packK K f kk = none := by
          intro K
          induction K with
          | nil => intro f kk hk; exact hk []
          | cons s ss ihs =>
            intro f kk hk
            simp only [packK, deep_eq]
            split
            · exact ihs _ _ fun vs => hk _
            · rfl
        simp only [loopS] at h
        rw [this _ _ _ fun vs => rfl] at h
        cases h
      | succ n ihn =>
        intro fr2 m fr3 g2 g3 h
        simp only [loopS] at h
        obtain ⟨fr4, h5, h6⟩ := pack_bind (k := fun fr => den P G N callK ka lf L body (Nat.add (Nat.mul 2 p) 1) fr m (fun fr' m => packK (katOf ka p 0) fr' fun vs =>
          loopS (fun self vs m => bindK (katOf ka p 0) vs (rmv (asg body) _) fun fr => den P G N callK ka lf L body (Nat.add (Nat.mul 2 p) 1) fr m (fun fr m => packK (katOf ka p 0) fr fun vs => self vs m) ks kr) n vs m) ks kr) _ g2 (hs.rmv g3 g2.len) h
        obtain ⟨e, fr5, fr6, m2, f1, f2, f3, f4⟩ := ih _ _ _ _ _ _ _ h5 h6
        have hk6 : Kept (asg body) fr1 fr6 := fun t ht => (f3 t ht).trans (g3 t ht)
        rcases f4 with ⟨rfl, h4⟩ | ⟨rfl, h4⟩ | ⟨i, kk, rfl, h7, h4⟩
        · obtain ⟨e', fr7, fr8, m3, q1, q2, q3, q4⟩ := ihn _ _ _ f2 hk6 h4
          exact ⟨e', fr7, fr8, m3, by simp only [loopN, f1]; exact q1, q2, q3, q4⟩
        · exact ⟨1, fr5, fr6, m2, by simp only [loopN, f1], f2, hk6, .inr (.inl ⟨rfl, h4⟩)⟩
        · exact ⟨2 * i + 2, fr5, fr6, m2, by simp only [loopN, f1], f2, hk6, .inr (.inr ⟨i, kk, rfl, h7, h4⟩)⟩
    obtain ⟨e, fr', fr1', m', q1, q2, q3, q4⟩ := key lf fr m fr1 hs (Kept.refl _ _) h
    exact ⟨e, fr', fr1', m', q1, q2, q3, q4⟩
  | exit id =>
    intro p fr m k ks kr fr1 hs h
    simp only [den] at h
    split at h
    · rename_i kk hk
      exact ⟨2 * id + 2, fr, fr1, m, rfl, hs, Kept.refl _ _, .inr (.inr ⟨id, kk, rfl, hk, h⟩)⟩
    · cases h
  | ret => intro p fr m k ks kr fr1 hs h; exact ⟨1, fr, fr1, m, rfl, hs, Kept.refl _ _, .inr (.inl ⟨rfl, h⟩)⟩
  | label l => intro p fr m k ks kr fr1 hs h; exact ⟨0, fr, fr1, m, rfl, hs, Kept.refl _ _, .inl ⟨rfl, h⟩⟩
  | _ => intro p fr m k ks kr fr1 hs h; cases h
end
end Go.Vit
