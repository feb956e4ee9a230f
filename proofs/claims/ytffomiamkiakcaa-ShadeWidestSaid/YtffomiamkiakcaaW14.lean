/- Walks: all arrangements gone through; the first of the least, and of the greatest. -/
import Derived.Test.YtffomiamkiakcaaW12
import Derived.Test.YtffomiamkiakcaaW13
set_option linter.unusedSimpArgs false
set_option linter.unusedVariables false
set_option maxRecDepth 20000
namespace Go.Vit
open Go Go.Proofs
attribute [local irreducible] runT loopS
section
variable {lf n ce L : Nat} {m : Mem} {k : Value → Mem → Option Unit} {sv : Value} {X : Nat → Prop} {s : List Int} {J : List (List Int) → Mem → Prop}
theorem all51_sp {g : Nat} {caps : List Value} (hlf : 1000000 ≤ lf) (hL : L ≤ m.next) (hs : s.Pairwise (· ≤ ·)) (h7 : s.length ≤ 7) (hs0 : ∀ x ∈ s, 0 ≤ x ∧ x ≤ 60) (hX : ∀ c, X c → c < m.next)
    (hsv : IL m sv s) (hsx : ∀ c, bid sv = some c → ¬ X c) (hE : ∀ m0, Gt m m0 → EachOk lf ce L (.func (.func g) #[] ⟨caps⟩) X m0 s J) (hJ : ∀ d m m', Gt m m' → J d m → J d m') (hJ0 : J [] m)
    (hk : ∀ m', GtX X m m' → J (allR s.length [] s) m' → k (.tuple ⟨[]⟩) m' = some ()) :
    runT (tab lf) (n + s.length + (ce + 2)) 51 [sv, .func (.func g) #[] ⟨caps⟩] L m k = some () := by
  rw [show n + s.length + (ce + 2) = (n + s.length + (ce + 1)) + 1 by omega, r51]; dsimp only [S51, iofNat, inegSucc]
  obtain ⟨p, c, hsve⟩ := hsv.ex
  have hb1 : abox m sv = some (ptrTo m.next, m.push ⟨1, [sv], none⟩) := by rw [hsve]; exact abox_e _ _
  have hb2 : ∀ m' : Mem, abox m' (.func (.func g) #[] ⟨caps⟩) = some (ptrTo m'.next, m'.push ⟨1, [.func (.func g) #[] ⟨caps⟩], none⟩) := fun m' => abox_e _ _
  rw [uc_e, uc_e, un0_e, hb1, oRes_e, hb2, oRes_e, anew_eq, oRes_e]
  have e1 := Mem.gt_push m ⟨1, [sv], none⟩
  have q1 : (m.push ⟨1, [sv], none⟩).rd m.next = some ⟨1, [sv], none⟩ := Mem.rd_push _ _
  have n1 : (m.push ⟨1, [sv], none⟩).next = m.next + 1 := Mem.push_next _ _
  generalize m.push ⟨1, [sv], none⟩ = m1 at e1 q1 n1 ⊢
  have e2 := Mem.gt_push m1 ⟨1, [.func (.func g) #[] ⟨caps⟩], none⟩
  have q2 : (m1.push ⟨1, [.func (.func g) #[] ⟨caps⟩], none⟩).rd m1.next = some ⟨1, [.func (.func g) #[] ⟨caps⟩], none⟩ := Mem.rd_push _ _
  have n2 : (m1.push ⟨1, [.func (.func g) #[] ⟨caps⟩], none⟩).next = m1.next + 1 := Mem.push_next _ _
  generalize m1.push ⟨1, [.func (.func g) #[] ⟨caps⟩], none⟩ = m2 at e2 q2 n2 ⊢
  have hst : st1 1 L (m2.push ⟨1, [.nilFunc], none⟩) (ptrTo m2.next) (.func (.func 90) #[] ⟨[ptrTo m.next, ptrTo m1.next, ptrTo m2.next]⟩) = some (Go.undef, (m2.push ⟨1, [.nilFunc], none⟩).put m2.next (some ⟨1, [.func (.func 90) #[] ⟨[ptrTo m.next, ptrTo m1.next, ptrTo m2.next]⟩], none⟩)) := by
    show st1 1 L _ (.pointer (some ⟨m2.next, 0, none⟩)) _ = _
    rw [st1_u, Mem.rd_push]
    exact stw_e (by omega) rfl (Nat.le_refl _) rfl
  rw [hst, oRes_e]
  have e3 : Gt m2 ((m2.push ⟨1, [.nilFunc], none⟩).put m2.next (some ⟨1, [.func (.func 90) #[] ⟨[ptrTo m.next, ptrTo m1.next, ptrTo m2.next]⟩], none⟩)) := Mem.put_gt (Mem.gt_push _ _) _ (Nat.le_refl _)
  have q3 : ((m2.push ⟨1, [.nilFunc], none⟩).put m2.next (some ⟨1, [.func (.func 90) #[] ⟨[ptrTo m.next, ptrTo m1.next, ptrTo m2.next]⟩], none⟩)).rd m2.next = some ⟨1, [.func (.func 90) #[] ⟨[ptrTo m.next, ptrTo m1.next, ptrTo m2.next]⟩], none⟩ := Mem.rd_put_eq _ _ (by rw [Mem.push_next]; omega)
  generalize (m2.push ⟨1, [.nilFunc], none⟩).put m2.next (some ⟨1, [.func (.func 90) #[] ⟨[ptrTo m.next, ptrTo m1.next, ptrTo m2.next]⟩], none⟩) = m3 at e3 q3 ⊢
  have n3 := e3.next
  have e03 := (e1.trans e2).trans e3
  have hld : ld1 m3 (ptrTo m2.next) = some (.func (.func 90) #[] ⟨[ptrTo m.next, ptrTo m1.next, ptrTo m2.next]⟩) := by
    show ld1 m3 (.pointer (some ⟨m2.next, 0, none⟩)) = _
    rw [ld1_u, q3]; rfl
  rw [hld, oOpt_e, oCallV_e (hf := rfl)]
  have hV : Vl s (2 ^ s.length - 1) s.length = s := by rw [Vl_all s _ (Nat.le_refl _), List.take_length]
  have h := put_sp (m0 := m3) (A := m.next) (B := m1.next) (C := m2.next) hlf hs h7 hs0 hX (by omega) (by omega) (((e2.trans e3).kept _ (by omega)).trans q1) ((e3.kept _ (by omega)).trans q2) q3 (hsv.mono e03) hsx (hE m3 e03) hJ s.length (n := n) (x := 2 ^ s.length - 1) (used := 0) (m := m3) (lv := .slice none 0 0) (begun := []) (done := []) (k := fun t13 m14 => k (.tuple ⟨[]⟩) m14)
    (by rw [hV]) (fun i hi => by rw [Nat.testBit_two_pow_sub_one, decide_eq_true hi]; simp) (by omega) (by simp) (by rw [hV]; exact List.Perm.refl _) (GL.nil _ _) (GtX.refl _) (hJ _ _ _ e03 hJ0) (fun m' e' hJ' => by
      rw [hV] at hJ'
      exact hk m' ((GtX.of e03).trans e') hJ')
  exact h
end
theorem firstL_snoc (cost : List Int → Int) (x : List Int) : ∀ (q : List (List Int)) (b : List Int), firstL cost b (q ++ [x]) = if cost x < cost (firstL cost b q) then x else firstL cost b q
  | [], b => rfl
  | y :: q, b => firstL_snoc cost x q _
theorem oOpt_ld {m : Mem} {b : Nat} {v : Value} (h : m.rd b = some ⟨1, [v], none⟩) (K : Value → Option Unit) : oOpt (ld1 m (.pointer (some ⟨b, 0, none⟩))) K = K v := by
  rw [ld1_u, h]; exact oOpt_e _ _
/-- What the law keeps of the arrangements so far. -/
def lstJ (r : Bool) (pl pf : Nat) (done : List (List Int)) (m : Mem) : Prop := ∃ (c : Int) (v : Value), m.rd pl = some ⟨1, [.int .i64 c], none⟩ ∧ m.rd pf = some ⟨1, [v], none⟩ ∧
  ((done = [] ∧ c = 1000 ∧ v = .slice none 0 0) ∨ ∃ b q, done = b :: q ∧ c = cM r (firstL (cM r) b q) ∧ IL m v (firstL (cM r) b q) ∧ ∀ c, bid v = some c → c ≠ pl ∧ c ≠ pf)
theorem lstJ.mono {r : Bool} {pl pf : Nat} {d : List (List Int)} {m m' : Mem} (e : Gt m m') (h : lstJ r pl pf d m) : lstJ r pl pf d m' := by
  obtain ⟨c, v, h1, h2, h3⟩ := h
  refine ⟨c, v, (e.kept _ (Mem.rd_lt h1)).trans h1, (e.kept _ (Mem.rd_lt h2)).trans h2, ?_⟩
  rcases h3 with h3 | ⟨b, q, g1, g2, g3, g4⟩
  · exact .inl h3
  · exact .inr ⟨b, q, g1, g2, g3.mono e, g4⟩
theorem lstEach {lf L pr pl pf : Nat} {m0 : Mem} {s : List Int} {r : Bool} (hlf : 1000000 ≤ lf) (hL : L ≤ pl) (hLf : L ≤ pf) (hpf : pl ≠ pf) (hr : m0.rd pr = some ⟨1, [.bool r], none⟩) (hprl : pr ≠ pl) (hprf : pr ≠ pf) (hplm : pl < m0.next) (hpfm : pf < m0.next)
    (h1 : 1 ≤ s.length) (h7 : s.length ≤ 7) (hs0 : ∀ x ∈ s, 0 ≤ x ∧ x ≤ 60) :
    EachOk lf 3 L (.func (.func 58) #[] ⟨[.pointer (some ⟨pr, 0, none⟩), .pointer (some ⟨pl, 0, none⟩), .pointer (some ⟨pf, 0, none⟩)]⟩) (fun c => c = pl ∨ c = pf) m0 s (lstJ r pl pf) := by
  intro n m v l done k e hJ hv hp hb hk
  rw [oCallV_e (hf := rfl)]
  show runT (tab lf) (n + 3) 58 [v, .pointer (some ⟨pr, 0, none⟩), .pointer (some ⟨pl, 0, none⟩), .pointer (some ⟨pf, 0, none⟩)] L m k = some ()
  rw [r58]; dsimp only [S58, iofNat, inegSucc]
  have hr' := (e.kept pr (Mem.rd_lt hr) (fun h => h.elim hprl hprf)).trans hr
  have cc : ∀ v : Value, ([v] : List Value)[0]? = some v := fun _ => rfl
  have hpl := hp.length_eq
  have hl0 : ∀ x ∈ l, 0 ≤ x ∧ x ≤ 60 := fun x hx => hs0 x (hp.mem_iff.1 hx)
  have nm := e.next
  try simp (disch := first | omega | with_unfolding_all exact id rfl | with_unfolding_all exact Nat.le_of_ble_eq_true rfl | (simp only [Jd, Je, Jr, Js, Jt, Nat.reduceAdd, allOne, oneCell, Bool.and_self, Jc]; first | done | omega)) only [hr', cc, ↓Qa, ↓Qb, ↓Qc, Qd, Qe, Qf, Qg, Qh, Qi, Qj, Qk, Ql, Qm, Qn, Qo, Qp, Qq, Qr, Qs, Qt, Qu, Qv, Qw, Qx, Qy, ptrTo, Qz, QA, QB, QC, QD, QE, QF, QG, QH, QI, QJ, QK, QL, QM, QN, QO, QP, QQ, QR, QS, QT, QU, QV, QW, QX, QY, QZ, Ja, Jb, Jc, Jd, Je, Jf, Jg, Jh, Ji, Jj, Jk, Jl, Jm, Jn, Jo, Jp, Jq, Jr, Js, Jt, Nat.reduceAdd]
  refine lsteps_sp hlf (by omega) hv (by omega) (by omega) hl0 fun u m1 e1 hu => ?_
  have n1 := e1.next
  have hsb := stepX_bd (r := r) hl0
  have hsl := stepX_len l r
  refine greatest_sp hlf (by omega) hu.il (by omega) fun m2 e2 => ?_
  have e02 := e1.trans e2
  have n02 := e02.next
  have hJ2 := hJ.mono e02
  have hbound : maxL (stepX l r) < 1000 := by
    have : maxL (stepX l r) ≤ 60 := maxL_le.2 ⟨by omega, fun x hx => (hsb x hx).2⟩
    omega
  have hval : maxL (stepX l r) = cM r l := rfl
  generalize maxL (stepX l r) = w at hbound hval ⊢
  obtain ⟨c, v0, g1, g2, g3⟩ := hJ2
  have gld : rdo (m2.rd pl) 0 = some (.int .i64 c) := by rw [g1]; rfl
  rw [gld, oOpt_e]
  have hv2 := hv.mono e02
  obtain ⟨p, cp, hve⟩ := hv2.ex
  have take : w < c → lstJ r pl pf (done ++ [l]) ((m2.put pl (some ⟨1, [.int .i64 w], none⟩)).put pf (some ⟨1, [v], none⟩)) := by
    intro hlt
    refine ⟨w, v, ?_, Mem.rd_put_eq _ _ (by rw [Mem.put_next']; exact Mem.rd_lt g2), ?_⟩
    · rw [Mem.rd_put _ _ _ _ (Ne.symm hpf)]
      exact Mem.rd_put_eq _ _ (Mem.rd_lt g1)
    · have hil : IL ((m2.put pl (some ⟨1, [.int .i64 w], none⟩)).put pf (some ⟨1, [v], none⟩)) v l := hv2.keep fun c hc => by
        have := (hb c hc).1
        rw [Mem.rd_put _ _ _ _ (fun h => this (.inr h.symm)), Mem.rd_put _ _ _ _ (fun h => this (.inl h.symm))]
      have hne : ∀ c, bid v = some c → c ≠ pl ∧ c ≠ pf := fun c hc => ⟨fun h => (hb c hc).1 (.inl h), fun h => (hb c hc).1 (.inr h)⟩
      rcases g3 with ⟨rfl, rfl, rfl⟩ | ⟨b, q, rfl, rfl, k3, k4⟩
      · exact .inr ⟨l, [], rfl, hval, hil, hne⟩
      · refine .inr ⟨b, q ++ [l], by simp, ?_, ?_, hne⟩
        · rw [firstL_snoc, if_pos (by omega)]; exact hval
        · rw [firstL_snoc, if_pos (by omega)]; exact hil
  have leave : ¬ w < c → lstJ r pl pf (done ++ [l]) m2 := by
    intro hlt
    refine ⟨c, v0, g1, g2, ?_⟩
    rcases g3 with ⟨rfl, rfl, rfl⟩ | ⟨b, q, rfl, rfl, k3, k4⟩
    · exact absurd hbound hlt
    · refine .inr ⟨b, q ++ [l], by simp, ?_, ?_, k4⟩
      · rw [firstL_snoc, if_neg (by omega)]
      · rw [firstL_snoc, if_neg (by omega)]; exact k3
  rw [oInt_lss]
  refine oIf_dec (fun h => ?_) (fun h => ?_)
  · have s1 : stw 1 L m2 pl 0 (Value.int .i64 w).cells.toList (m2.rd pl) = some (Go.undef, m2.put pl (some ⟨1, [.int .i64 w], none⟩)) := by
      rw [g1]; exact stw_e hL rfl (Nat.le_refl _) rfl
    have s2 : stw 1 L (m2.put pl (some ⟨1, [.int .i64 w], none⟩)) pf 0 v.cells.toList ((m2.put pl (some ⟨1, [.int .i64 w], none⟩)).rd pf) = some (Go.undef, (m2.put pl (some ⟨1, [.int .i64 w], none⟩)).put pf (some ⟨1, [v], none⟩)) := by
      rw [Mem.rd_put _ _ _ _ hpf, g2, hve]; exact stw_e hLf rfl (Nat.le_refl _) rfl
    rw [s1, oRes_e, s2, oRes_e]
    exact hk _ (((GtX.of e02).put (.inl rfl) _).put (.inr rfl) _) (take h)
  · exact hk _ (GtX.of e02) (leave h)
/-- What the law keeps of the arrangements so far. -/
def wstJ (r : Bool) (pl pf : Nat) (done : List (List Int)) (m : Mem) : Prop := ∃ (c : Int) (v : Value), m.rd pl = some ⟨1, [.int .i64 c], none⟩ ∧ m.rd pf = some ⟨1, [v], none⟩ ∧
  ((done = [] ∧ c = -1 ∧ v = .slice none 0 0) ∨ ∃ b q, done = b :: q ∧ c = - cS r (firstL (cS r) b q) ∧ IL m v (firstL (cS r) b q) ∧ ∀ c, bid v = some c → c ≠ pl ∧ c ≠ pf)
theorem wstJ.mono {r : Bool} {pl pf : Nat} {d : List (List Int)} {m m' : Mem} (e : Gt m m') (h : wstJ r pl pf d m) : wstJ r pl pf d m' := by
  obtain ⟨c, v, h1, h2, h3⟩ := h
  refine ⟨c, v, (e.kept _ (Mem.rd_lt h1)).trans h1, (e.kept _ (Mem.rd_lt h2)).trans h2, ?_⟩
  rcases h3 with h3 | ⟨b, q, g1, g2, g3, g4⟩
  · exact .inl h3
  · exact .inr ⟨b, q, g1, g2, g3.mono e, g4⟩
theorem wstEach {lf L pr pl pf : Nat} {m0 : Mem} {s : List Int} {r : Bool} (hlf : 1000000 ≤ lf) (hL : L ≤ pl) (hLf : L ≤ pf) (hpf : pl ≠ pf) (hr : m0.rd pr = some ⟨1, [.bool r], none⟩) (hprl : pr ≠ pl) (hprf : pr ≠ pf) (hplm : pl < m0.next) (hpfm : pf < m0.next)
    (h1 : 1 ≤ s.length) (h7 : s.length ≤ 7) (hs0 : ∀ x ∈ s, 0 ≤ x ∧ x ≤ 60) :
    EachOk lf 3 L (.func (.func 52) #[] ⟨[.pointer (some ⟨pr, 0, none⟩), .pointer (some ⟨pl, 0, none⟩), .pointer (some ⟨pf, 0, none⟩)]⟩) (fun c => c = pl ∨ c = pf) m0 s (wstJ r pl pf) := by
  intro n m v l done k e hJ hv hp hb hk
  rw [oCallV_e (hf := rfl)]
  show runT (tab lf) (n + 3) 52 [v, .pointer (some ⟨pr, 0, none⟩), .pointer (some ⟨pl, 0, none⟩), .pointer (some ⟨pf, 0, none⟩)] L m k = some ()
  rw [r52]; dsimp only [S52, iofNat, inegSucc]
  have hr' := (e.kept pr (Mem.rd_lt hr) (fun h => h.elim hprl hprf)).trans hr
  have cc : ∀ v : Value, ([v] : List Value)[0]? = some v := fun _ => rfl
  have hpl := hp.length_eq
  have hl0 : ∀ x ∈ l, 0 ≤ x ∧ x ≤ 60 := fun x hx => hs0 x (hp.mem_iff.1 hx)
  have nm := e.next
  try simp (disch := first | omega | with_unfolding_all exact id rfl | with_unfolding_all exact Nat.le_of_ble_eq_true rfl | (simp only [Jd, Je, Jr, Js, Jt, Nat.reduceAdd, allOne, oneCell, Bool.and_self, Jc]; first | done | omega)) only [hr', cc, ↓Qa, ↓Qb, ↓Qc, Qd, Qe, Qf, Qg, Qh, Qi, Qj, Qk, Ql, Qm, Qn, Qo, Qp, Qq, Qr, Qs, Qt, Qu, Qv, Qw, Qx, Qy, ptrTo, Qz, QA, QB, QC, QD, QE, QF, QG, QH, QI, QJ, QK, QL, QM, QN, QO, QP, QQ, QR, QS, QT, QU, QV, QW, QX, QY, QZ, Ja, Jb, Jc, Jd, Je, Jf, Jg, Jh, Ji, Jj, Jk, Jl, Jm, Jn, Jo, Jp, Jq, Jr, Js, Jt, Nat.reduceAdd]
  refine lsteps_sp hlf (by omega) hv (by omega) (by omega) hl0 fun u m1 e1 hu => ?_
  have n1 := e1.next
  have hsb := stepX_bd (r := r) hl0
  have hsl := stepX_len l r
  refine lsum_sp hlf hu.il (by omega) (fun i => ?_) (fun x hx => by have := hsb x hx; omega) ?_
  · have hb := foldl_bd hsb i
    by_cases hi9 : i ≤ (stepX l r).length
    · omega
    · have hb2 := foldl_bd hsb (stepX l r).length
      rw [List.take_of_length_le (Nat.le_refl _)] at hb2
      rw [List.take_of_length_le (by omega)]
      omega
  have e02 := e1
  generalize m1 = m2 at e02 ⊢
  have n02 := e02.next
  have hJ2 := hJ.mono e02
  have hbound : -1 < sumL (stepX l r) := by
    have := sumL_nn (fun x hx => (hsb x hx).1)
    omega
  have hval : sumL (stepX l r) = - cS r l := (Int.neg_neg _).symm
  generalize sumL (stepX l r) = w at hbound hval ⊢
  obtain ⟨c, v0, g1, g2, g3⟩ := hJ2
  have gld : rdo (m2.rd pl) 0 = some (.int .i64 c) := by rw [g1]; rfl
  rw [gld, oOpt_e]
  have hv2 := hv.mono e02
  obtain ⟨p, cp, hve⟩ := hv2.ex
  have take : c < w → wstJ r pl pf (done ++ [l]) ((m2.put pl (some ⟨1, [.int .i64 w], none⟩)).put pf (some ⟨1, [v], none⟩)) := by
    intro hlt
    refine ⟨w, v, ?_, Mem.rd_put_eq _ _ (by rw [Mem.put_next']; exact Mem.rd_lt g2), ?_⟩
    · rw [Mem.rd_put _ _ _ _ (Ne.symm hpf)]
      exact Mem.rd_put_eq _ _ (Mem.rd_lt g1)
    · have hil : IL ((m2.put pl (some ⟨1, [.int .i64 w], none⟩)).put pf (some ⟨1, [v], none⟩)) v l := hv2.keep fun c hc => by
        have := (hb c hc).1
        rw [Mem.rd_put _ _ _ _ (fun h => this (.inr h.symm)), Mem.rd_put _ _ _ _ (fun h => this (.inl h.symm))]
      have hne : ∀ c, bid v = some c → c ≠ pl ∧ c ≠ pf := fun c hc => ⟨fun h => (hb c hc).1 (.inl h), fun h => (hb c hc).1 (.inr h)⟩
      rcases g3 with ⟨rfl, rfl, rfl⟩ | ⟨b, q, rfl, rfl, k3, k4⟩
      · exact .inr ⟨l, [], rfl, hval, hil, hne⟩
      · refine .inr ⟨b, q ++ [l], by simp, ?_, ?_, hne⟩
        · rw [firstL_snoc, if_pos (by omega)]; exact hval
        · rw [firstL_snoc, if_pos (by omega)]; exact hil
  have leave : ¬ c < w → wstJ r pl pf (done ++ [l]) m2 := by
    intro hlt
    refine ⟨c, v0, g1, g2, ?_⟩
    rcases g3 with ⟨rfl, rfl, rfl⟩ | ⟨b, q, rfl, rfl, k3, k4⟩
    · exact absurd hbound hlt
    · refine .inr ⟨b, q ++ [l], by simp, ?_, ?_, k4⟩
      · rw [firstL_snoc, if_neg (by omega)]
      · rw [firstL_snoc, if_neg (by omega)]; exact k3
  rw [oInt_gtr]
  refine oIf_dec (fun h => ?_) (fun h => ?_)
  · have s1 : stw 1 L m2 pl 0 (Value.int .i64 w).cells.toList (m2.rd pl) = some (Go.undef, m2.put pl (some ⟨1, [.int .i64 w], none⟩)) := by
      rw [g1]; exact stw_e hL rfl (Nat.le_refl _) rfl
    have s2 : stw 1 L (m2.put pl (some ⟨1, [.int .i64 w], none⟩)) pf 0 v.cells.toList ((m2.put pl (some ⟨1, [.int .i64 w], none⟩)).rd pf) = some (Go.undef, (m2.put pl (some ⟨1, [.int .i64 w], none⟩)).put pf (some ⟨1, [v], none⟩)) := by
      rw [Mem.rd_put _ _ _ _ hpf, g2, hve]; exact stw_e hLf rfl (Nat.le_refl _) rfl
    rw [s1, oRes_e, s2, oRes_e]
    exact hk _ (((GtX.of e02).put (.inl rfl) _).put (.inr rfl) _) (take h)
  · exact hk _ (GtX.of e02) (leave h)
end Go.Vit
