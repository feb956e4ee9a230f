/- Walks of the group Bond, numbered for this seat by a program: W2. -/
import Derived.Test.YtppallabmjdolaaGreatDoorB1
set_option linter.unusedSimpArgs false
set_option linter.unusedVariables false
namespace Go.Vit
open Go Go.Proofs
attribute [local irreducible] runT loopS
/-- A function value that answers by p at the members of a list. -/
def FnN (call : CallK Unit) (fv : Value) (L : Nat) (m0 : Mem) (gs : List Nat) (p : Nat → Bool) : Prop :=
  ∀ (m : Mem) (x : Nat) (k : Value → Mem → Option Unit), Gt m0 m → x ∈ gs → (∀ m', Gt m m' → k (.bool (p x)) m' = some ()) → oCallV call fv [.int .i64 (x : Int)] L m k = some ()
def mayB (gs : List Nat) (g : Nat) : Bool := gs.any fun o => decide (o &&& g = o)
def lack (gs : List Nat) (g : Nat) : List Nat := (List.range gs.length).filter fun i => decide ((gs[i]?).getD 0 &&& g = 0)
def lackTo (gs : List Nat) (g i : Nat) : List Nat := (List.range i).filter fun i => decide ((gs[i]?).getD 0 &&& g = 0)
theorem lackTo_succ (gs : List Nat) (g i : Nat) (hi : i < gs.length) : lackTo gs g (i + 1) = if gs[i] &&& g = 0 then lackTo gs g i ++ [i] else lackTo gs g i := by
  unfold lackTo
  rw [List.range_succ, List.filter_append]
  by_cases h : gs[i] &&& g = 0
  · rw [if_pos h]; simp [hi, h]
  · rw [if_neg h]; simp [hi, h]
theorem lackTo_len (gs : List Nat) (g i : Nat) : (lackTo gs g i).length ≤ i := by
  have := List.length_filter_le (fun i => decide ((gs[i]?).getD 0 &&& g = 0)) (List.range i)
  rw [List.length_range] at this
  exact this
section
variable {lf n L : Nat} {m : Mem} {k : Value → Mem → Option Unit}
theorem containsFuncN_sp {v fv : Value} {gs : List Nat} {p : Nat → Bool} (hlf : 1000000 ≤ lf) (hv : IN m v gs) (hl : gs.length < 1000000) (hf : FnN (runT (tabC lf) n) fv L m gs p)
    (hk : ∀ m', Gt m m' → k (.bool (gs.any p)) m' = some ()) : runT (tabC lf) (n + 2) 43 [v, fv] L m k = some () := by
  refine containsFunc_sp (p := fun x => p x.toNat) hlf hv (by rwa [ci_length]) ?_ fun m' hg => ?_
  · intro m2 x k2 hg2 hx hk2
    have hx : x ∈ ci gs := hx
    simp only [ci, List.mem_map] at hx
    obtain ⟨g, hg, rfl⟩ := hx
    exact hf m2 g k2 hg2 hg hk2
  · have : (ci gs).any (fun x => p x.toNat) = gs.any p := by simp [ci, List.any_map, Function.comp_def]
    rw [this]; exact hk m' hg
theorem may_sp {h : Int} {v : Value} {gs : List Nat} {g : Nat} (hlf : 1000000 ≤ lf) (hv : IN m v gs) (hl : gs.length < 1000000) (hs : ∀ x ∈ gs, x < 64) (hg : g < 64)
    (hk : ∀ m', Gt m m' → k (.bool (mayB gs g)) m' = some ()) : runT (tabC lf) (n + 5) 70 [Vit.hg h v, .int .i64 (g : Int)] L m k = some () := by
  rw [r70]
  dsimp only [S70, iofNat, inegSucc]
  obtain ⟨p, c, rfl⟩ := hv.ex
  try simp (disch := first | omega | with_unfolding_all exact id rfl | with_unfolding_all exact Nat.le_of_ble_eq_true rfl | (simp only [Jd, Je, Jr, Js, Jt, Nat.reduceAdd, allOne, oneCell, Bool.and_self, Jc]; first | done | omega)) only [↓Qa, ↓Qb, ↓Qc, Qd, Qe, Qf, Qg, Qh, Qi, Qj, Qk, Ql, Qm, Qn, Qo, Qp, Qq, Qr, Qs, Qt, Qu, Qv, Qw, Qx, Qy, ptrTo, Qz, QA, QB, QC, QD, QE, QF, QG, QH, QI, QJ, QK, QL, QM, QN, QO, QP, QQ, QR, QS, QT, QU, QV, QW, QX, QY, QZ, Ja, Jb, Jc, Jd, Je, Jf, Jg, Jh, Ji, Jj, Jk, Jl, Jm, Jn, Jo, Jp, Jq, Jr, Js, Jt, Nat.reduceAdd]
  have g1 := Mem.gt_push m ⟨1, [.int .i64 h, .slice p gs.length c], none⟩
  have g2 := Mem.gt_push (m.push ⟨1, [.int .i64 h, .slice p gs.length c], none⟩) ⟨1, [.int .i64 (g : Int)], none⟩
  refine containsFuncN_sp (p := fun o => decide (o &&& g = o)) hlf ((hv.mono g1).mono g2) hl ?_ fun m' hg' => hk m' ((g1.trans g2).trans hg')
  intro m2 x k2 e2 hx hk2
  have hb : m2.rd (m.next + 1) = _ := (At.push (m.push ⟨1, [.int .i64 h, .slice p gs.length c], none⟩) [.int .i64 (g : Int)]).mono e2
  rw [oCallV_e (hf := rfl), r128]
  dsimp only [S128, iofNat, inegSucc]
  try simp (disch := first | omega | with_unfolding_all exact id rfl | with_unfolding_all exact Nat.le_of_ble_eq_true rfl | (simp only [Jd, Je, Jr, Js, Jt, Nat.reduceAdd, allOne, oneCell, Bool.and_self, Jc]; first | done | omega)) only [hb, ↓Qa, ↓Qb, ↓Qc, Qd, Qe, Qf, Qg, Qh, Qi, Qj, Qk, Ql, Qm, Qn, Qo, Qp, Qq, Qr, Qs, Qt, Qu, Qv, Qw, Qx, Qy, ptrTo, Qz, QA, QB, QC, QD, QE, QF, QG, QH, QI, QJ, QK, QL, QM, QN, QO, QP, QQ, QR, QS, QT, QU, QV, QW, QX, QY, QZ, Ja, Jb, Jc, Jd, Je, Jf, Jg, Jh, Ji, Jj, Jk, Jl, Jm, Jn, Jo, Jp, Jq, Jr, Js, Jt, Nat.reduceAdd]
  exact lies_sp x g (hs x hx) hg (hk2 m2 (Gt.refl _))
theorem lacks_sp {h : Int} {v : Value} {gs : List Nat} {g : Nat} (hlf : 1000000 ≤ lf) (hL : L ≤ m.next) (hv : IN m v gs) (hl : gs.length < 1000000) (hs : ∀ x ∈ gs, x < 64) (hg : g < 64)
    (hk : ∀ u m', Gt m m' → GN m.next m' u (lack gs g) → k u m' = some ()) : runT (tabC lf) (n + 2) 72 [Vit.hg h v, .int .i64 (g : Int)] L m k = some () := by
  rw [r72]
  dsimp only [S72, iofNat, inegSucc]
  obtain ⟨p, c, rfl⟩ := hv.ex
  have g1 := Mem.gt_push m ⟨1, [.int .i64 h, .slice p gs.length c], none⟩
  have hb : (m.push ⟨1, [.int .i64 h, .slice p gs.length c], none⟩).rd m.next = _ := At.push m [.int .i64 h, .slice p gs.length c]
  have hv1 := hv.mono g1
  try simp (disch := first | omega | with_unfolding_all exact id rfl | with_unfolding_all exact Nat.le_of_ble_eq_true rfl | (simp only [Jd, Je, Jr, Js, Jt, Nat.reduceAdd, allOne, oneCell, Bool.and_self, Jc]; first | done | omega)) only [hv.ln, ↓Qa, ↓Qb, ↓Qc, Qd, Qe, Qf, Qg, Qh, Qi, Qj, Qk, Ql, Qm, Qn, Qo, Qp, Qq, Qr, Qs, Qt, Qu, Qv, Qw, Qx, Qy, ptrTo, Qz, QA, QB, QC, QD, QE, QF, QG, QH, QI, QJ, QK, QL, QM, QN, QO, QP, QQ, QR, QS, QT, QU, QV, QW, QX, QY, QZ, Ja, Jb, Jc, Jd, Je, Jf, Jg, Jh, Ji, Jj, Jk, Jl, Jm, Jn, Jo, Jp, Jq, Jr, Js, Jt, Nat.reduceAdd]
  generalize m.push ⟨1, [.int .i64 h, .slice p gs.length c], none⟩ = m1 at g1 hb hv1 ⊢
  have hn1 := g1.next
  refine loop_up gs.length (fun i vs m' => ∃ u, vs = [u, .int .i64 (i : Int)] ∧ Gt m1 m' ∧ GN m1.next m' u (lackTo gs g i)) (by omega) ⟨_, rfl, Gt.refl _, GN.nil _ _⟩ ?_
  rintro i vs m' hi ⟨u, rfl, hg', hu⟩ self hself
  have hv' := hv1.mono hg'
  have hn' := hg'.next
  have hlen := lackTo_len gs g i
  try simp (disch := first | omega | with_unfolding_all exact id rfl | with_unfolding_all exact Nat.le_of_ble_eq_true rfl | (simp only [Jd, Je, Jr, Js, Jt, Nat.reduceAdd, allOne, oneCell, Bool.and_self, Jc]; first | done | omega)) only [↓Qa, ↓Qb, ↓Qc, Qd, Qe, Qf, Qg, Qh, Qi, Qj, Qk, Ql, Qm, Qn, Qo, Qp, Qq, Qr, Qs, Qt, Qu, Qv, Qw, Qx, Qy, ptrTo, Qz, QA, QB, QC, QD, QE, QF, QG, QH, QI, QJ, QK, QL, QM, QN, QO, QP, QQ, QR, QS, QT, QU, QV, QW, QX, QY, QZ, Ja, Jb, Jc, Jd, Je, Jf, Jg, Jh, Ji, Jj, Jk, Jl, Jm, Jn, Jo, Jp, Jq, Jr, Js, Jt, Nat.reduceAdd]
  refine oIf_dec (fun h1 => ?_) (fun h1 => ?_)
  · have h2 : i < gs.length := by omega
    have h3 := hs _ (List.getElem_mem h2)
    try simp (disch := first | omega | with_unfolding_all exact id rfl | with_unfolding_all exact Nat.le_of_ble_eq_true rfl | (simp only [Jd, Je, Jr, Js, Jt, Nat.reduceAdd, allOne, oneCell, Bool.and_self, Jc]; first | done | omega)) only [hv'.ia h2, hv'.ld h2, oInt_and (a := gs[i]) (b := g) (by omega) (by omega), ↓Qa, ↓Qb, ↓Qc, Qd, Qe, Qf, Qg, Qh, Qi, Qj, Qk, Ql, Qm, Qn, Qo, Qp, Qq, Qr, Qs, Qt, Qu, Qv, Qw, Qx, Qy, ptrTo, Qz, QA, QB, QC, QD, QE, QF, QG, QH, QI, QJ, QK, QL, QM, QN, QO, QP, QQ, QR, QS, QT, QU, QV, QW, QX, QY, QZ, Ja, Jb, Jc, Jd, Je, Jf, Jg, Jh, Ji, Jj, Jk, Jl, Jm, Jn, Jo, Jp, Jq, Jr, Js, Jt, Nat.reduceAdd]
    refine oIf_dec (fun h4 => ?_) (fun h4 => ?_)
    · obtain ⟨u2, m2, h5, h6, h7, h8⟩ := GN.snoc (P := Tryz.prog) (t := 22) (L := L) (m0 := m1) i ael22 (by omega) hu (by omega) (by omega) hg' (Nat.le_refl _)
      try simp (disch := first | omega | with_unfolding_all exact id rfl | with_unfolding_all exact Nat.le_of_ble_eq_true rfl | (simp only [Jd, Je, Jr, Js, Jt, Nat.reduceAdd, allOne, oneCell, Bool.and_self, Jc]; first | done | omega)) only [bs22, h5, ↓Qa, ↓Qb, ↓Qc, Qd, Qe, Qf, Qg, Qh, Qi, Qj, Qk, Ql, Qm, Qn, Qo, Qp, Qq, Qr, Qs, Qt, Qu, Qv, Qw, Qx, Qy, ptrTo, Qz, QA, QB, QC, QD, QE, QF, QG, QH, QI, QJ, QK, QL, QM, QN, QO, QP, QQ, QR, QS, QT, QU, QV, QW, QX, QY, QZ, Ja, Jb, Jc, Jd, Je, Jf, Jg, Jh, Ji, Jj, Jk, Jl, Jm, Jn, Jo, Jp, Jq, Jr, Js, Jt, Nat.reduceAdd]
      rw [oInt_add ⟨by omega, by omega⟩]
      refine hself h2 _ _ ⟨u2, rfl, h7, ?_⟩
      rw [lackTo_succ gs g i h2, if_pos (by omega)]
      exact h6.le hn'
    · try simp (disch := first | omega | with_unfolding_all exact id rfl | with_unfolding_all exact Nat.le_of_ble_eq_true rfl | (simp only [Jd, Je, Jr, Js, Jt, Nat.reduceAdd, allOne, oneCell, Bool.and_self, Jc]; first | done | omega)) only [↓Qa, ↓Qb, ↓Qc, Qd, Qe, Qf, Qg, Qh, Qi, Qj, Qk, Ql, Qm, Qn, Qo, Qp, Qq, Qr, Qs, Qt, Qu, Qv, Qw, Qx, Qy, ptrTo, Qz, QA, QB, QC, QD, QE, QF, QG, QH, QI, QJ, QK, QL, QM, QN, QO, QP, QQ, QR, QS, QT, QU, QV, QW, QX, QY, QZ, Ja, Jb, Jc, Jd, Je, Jf, Jg, Jh, Ji, Jj, Jk, Jl, Jm, Jn, Jo, Jp, Jq, Jr, Js, Jt, Nat.reduceAdd]
      rw [oInt_add ⟨by omega, by omega⟩]
      refine hself h2 _ _ ⟨u, rfl, hg', ?_⟩
      rw [lackTo_succ gs g i h2, if_neg (by omega)]
      exact hu
  · have : i = gs.length := by omega
    subst this
    exact hk _ _ (g1.trans hg') (hu.le hn1)
end
end Go.Vit
