/- Walks: Reverse; suffixes; swaps. -/
import Derived.Test.YtffomiamkiakcaaW11
set_option linter.unusedSimpArgs false
set_option linter.unusedVariables false
set_option maxRecDepth 20000
namespace Go.Vit
open Go Go.Proofs
attribute [local irreducible] runT loopS
def rvI (l : List Int) (i : Nat) : List Int := (List.range l.length).map fun p => if p < i ∨ l.length ≤ p + i then l.getD (l.length - 1 - p) 0 else l.getD p 0
theorem rvI_len (l : List Int) (i : Nat) : (rvI l i).length = l.length := by unfold rvI; rw [List.length_map, List.length_range]
theorem rvI_get {l : List Int} {i p : Nat} (h : p < l.length) (h' : p < (rvI l i).length) : (rvI l i)[p] = if p < i ∨ l.length ≤ p + i then l.getD (l.length - 1 - p) 0 else l.getD p 0 := by
  have h1 : (rvI l i)[p]? = some (if p < i ∨ l.length ≤ p + i then l.getD (l.length - 1 - p) 0 else l.getD p 0) := by
    unfold rvI
    rw [List.getElem?_map, List.getElem?_range h]; rfl
  rw [List.getElem?_eq_getElem h'] at h1
  exact Option.some.inj h1
theorem rvI_zero (l : List Int) : rvI l 0 = l := by
  refine List.ext_getElem (rvI_len l 0) fun p h1 h2 => ?_
  rw [rvI_get h2, if_neg (by omega), List.getD_eq_getElem?_getD, List.getElem?_eq_getElem h2]; rfl
theorem rvI_end {l : List Int} {i : Nat} (h : l.length ≤ 2 * i + 1) : rvI l i = l.reverse := by
  refine List.ext_getElem (by rw [rvI_len, List.length_reverse]) fun p h1 h2 => ?_
  rw [rvI_len] at h1
  rw [rvI_get h1, List.getElem_reverse]
  split
  · rw [List.getD_eq_getElem?_getD, List.getElem?_eq_getElem (by omega)]; rfl
  · have : p = l.length - 1 - p := by omega
    rw [List.getD_eq_getElem?_getD, List.getElem?_eq_getElem h1]
    simp only [Option.getD_some]
    congr 1
theorem rvI_step {l : List Int} {i j : Nat} (hij : i + j + 1 = l.length) (h : i < j) (hi : i < (rvI l i).length) (hj : j < (rvI l i).length) : ((rvI l i).set i (rvI l i)[j]).set j (rvI l i)[i] = rvI l (i + 1) := by
  refine List.ext_getElem (by rw [List.length_set, List.length_set, rvI_len, rvI_len]) fun p h1 h2 => ?_
  have hp := h2
  rw [rvI_len] at hp
  have e1 := rvI_get (l := l) (i := i + 1) hp h2
  have e2 := rvI_get (l := l) (i := i) (p := i) (by omega) hi
  have e3 := rvI_get (l := l) (i := i) (p := j) (by omega) hj
  rw [if_neg (by omega)] at e2 e3
  rw [List.getElem_set, List.getElem_set, e1]
  by_cases hpj : j = p
  · subst hpj
    rw [if_pos rfl, if_pos (by omega)]
    refine e2.trans ?_
    congr 1; omega
  · rw [if_neg hpj]
    by_cases hpi : i = p
    · subst hpi
      rw [if_pos rfl, if_pos (by omega)]
      refine e3.trans ?_
      congr 1; omega
    · rw [if_neg hpi]
      refine (rvI_get hp (by rw [rvI_len]; exact hp)).trans ?_
      by_cases hc : p < i ∨ l.length ≤ p + i
      · rw [if_pos hc, if_pos (by omega)]
      · rw [if_neg hc, if_neg (by omega)]
section
variable {lf n L : Nat} {m : Mem} {k : Value → Mem → Option Unit}
theorem reverse_sp {L0 : Nat} {m0 : Mem} {u : Value} {l : List Int} (hlf : 1000000 ≤ lf) (hu : GL L0 m u l) (hL : L ≤ L0) (e : Gt m0 m) (hm : m0.next ≤ L0) (hl : l.length < 1000)
    (hk : ∀ m', Gt m0 m' → GL L0 m' u l.reverse → m'.next = m.next → k (.tuple ⟨[]⟩) m' = some ()) : runT (tab lf) (n + 1) 56 [u] L m k = some () := by
  rw [r56]; dsimp only [S56, iofNat, inegSucc]
  try simp (disch := first | omega | with_unfolding_all exact id rfl | with_unfolding_all exact Nat.le_of_ble_eq_true rfl | (simp only [Jd, Je, Jr, Js, Jt, Nat.reduceAdd, allOne, oneCell, Bool.and_self, Jc]; first | done | omega)) only [hu.ln, ↓Qa, ↓Qb, ↓Qc, Qd, Qe, Qf, Qg, Qh, Qi, Qj, Qk, Ql, Qm, Qn, Qo, Qp, Qq, Qr, Qs, Qt, Qu, Qv, Qw, Qx, Qy, ptrTo, Qz, QA, QB, QC, QD, QE, QF, QG, QH, QI, QJ, QK, QL, QM, QN, QO, QP, QQ, QR, QS, QT, QU, QV, QW, QX, QY, QZ, Ja, Jb, Jc, Jd, Je, Jf, Jg, Jh, Ji, Jj, Jk, Jl, Jm, Jn, Jo, Jp, Jq, Jr, Js, Jt, Nat.reduceAdd]
  rw [oInt_sub ⟨by omega, by omega⟩]
  refine loop_up (l.length / 2) (fun i vs m' => vs = [.int .i64 (i : Int), .int .i64 ((l.length : Int) - 1 - i)] ∧ Gt m0 m' ∧ GL L0 m' u (rvI l i) ∧ m'.next = m.next) (by omega)
    ⟨by rw [show ((l.length : Int) - 1 - ((0 : Nat) : Int)) = (l.length : Int) - 1 by omega]; rfl, e, by rw [rvI_zero]; exact hu, rfl⟩ ?_
  rintro i vs m1 hi ⟨rfl, e1, hu1, n1⟩ self hself
  try simp (disch := first | omega | with_unfolding_all exact id rfl | with_unfolding_all exact Nat.le_of_ble_eq_true rfl | (simp only [Jd, Je, Jr, Js, Jt, Nat.reduceAdd, allOne, oneCell, Bool.and_self, Jc]; first | done | omega)) only [↓Qa, ↓Qb, ↓Qc, Qd, Qe, Qf, Qg, Qh, Qi, Qj, Qk, Ql, Qm, Qn, Qo, Qp, Qq, Qr, Qs, Qt, Qu, Qv, Qw, Qx, Qy, ptrTo, Qz, QA, QB, QC, QD, QE, QF, QG, QH, QI, QJ, QK, QL, QM, QN, QO, QP, QQ, QR, QS, QT, QU, QV, QW, QX, QY, QZ, Ja, Jb, Jc, Jd, Je, Jf, Jg, Jh, Ji, Jj, Jk, Jl, Jm, Jn, Jo, Jp, Jq, Jr, Js, Jt, Nat.reduceAdd]
  refine oIf_dec (fun h => ?_) (fun h => ?_)
  · have hij : i < l.length - 1 - i := by omega
    obtain ⟨j, hj⟩ : ∃ j, i + j + 1 = l.length := ⟨l.length - 1 - i, by omega⟩
    have hj2 : (l.length : Int) - 1 - i = (j : Int) := by omega
    rw [hj2]
    have hlen := rvI_len l i
    have hil : i < (rvI l i).length := by omega
    have hjl : j < (rvI l i).length := by omega
    try simp (disch := first | omega | with_unfolding_all exact id rfl | with_unfolding_all exact Nat.le_of_ble_eq_true rfl | (simp only [Jd, Je, Jr, Js, Jt, Nat.reduceAdd, allOne, oneCell, Bool.and_self, Jc]; first | done | omega)) only [hu1.il.ia hil, hu1.il.ld hil, hu1.il.ia hjl, hu1.il.ld hjl, ↓Qa, ↓Qb, ↓Qc, Qd, Qe, Qf, Qg, Qh, Qi, Qj, Qk, Ql, Qm, Qn, Qo, Qp, Qq, Qr, Qs, Qt, Qu, Qv, Qw, Qx, Qy, ptrTo, Qz, QA, QB, QC, QD, QE, QF, QG, QH, QI, QJ, QK, QL, QM, QN, QO, QP, QQ, QR, QS, QT, QU, QV, QW, QX, QY, QZ, Ja, Jb, Jc, Jd, Je, Jf, Jg, Jh, Ji, Jj, Jk, Jl, Jm, Jn, Jo, Jp, Jq, Jr, Js, Jt, Nat.reduceAdd]
    obtain ⟨m2, s2, u2, e2, n2, _⟩ := hu1.set (L := L) (m0 := m0) (rvI l i)[j] hil hL e1 hm
    rw [s2, oRes_e]
    have hjl2 : j < ((rvI l i).set i (rvI l i)[j]).length := by rw [List.length_set]; exact hjl
    obtain ⟨m3, s3, u3, e3, n3, _⟩ := u2.set (L := L) (m0 := m0) (rvI l i)[i] hjl2 hL e2 hm
    rw [s3, oRes_e, oInt_add ⟨by omega, by omega⟩, oInt_sub ⟨by omega, by omega⟩]
    rw [rvI_step hj (by omega) hil hjl] at u3
    refine hself (by omega) _ _ ⟨?_, e3, u3, by omega⟩
    rw [show ((l.length : Int) - 1 - ((i + 1 : Nat) : Int)) = (j : Int) - 1 by omega]
    rfl
  · rw [rvI_end (show l.length ≤ 2 * i + 1 by omega)] at hu1
    exact hk m1 e1 hu1 n1
theorem sl_suf0 {v : Value} {l : List Int} (hv : IL m v l) (ho : Opn v) {k : Nat} (hk : k ≤ l.length) (h0 : 0 < l.length) : ∃ u, sl Try.prog 22 v (some (.int .i64 (k : Int))) none none = some u ∧ IL m u (l.drop k) := by
  rcases Nat.eq_zero_or_pos k with rfl | hk0
  · rw [List.drop_zero]
    obtain ⟨b, o, x, c, kb, rfl, hr, he, hle, hcs⟩ := Sl.at hv (i := 0) h0
    rcases ho with h | ⟨b', o', x', n', c', h, hc, hx⟩
    · cases h
    · injection h with h1' h2 h3
      injection h1' with h1'
      injection h1' with h4 h5 h6
      subst h4; subst h5; subst h6; subst h2; subst h3
      refine ⟨.slice (some ⟨b, o, x⟩) l.length c, ?_, hv⟩
      have h1 : abound (tri (some (.int .i64 ((0 : Nat) : Int))) none none) (some (.tmp 0)) 0 = some 0 := by
        show anat (.int .i64 (Int.ofNat 0)) = _
        simp only [anat, natK_eq]
      have h2 : abounds (tri (some (.int .i64 ((0 : Nat) : Int))) none none) l.length c (some (.tmp 0)) none none = some (0, l.length, c) := by
        unfold abounds
        simp only [abound_none, h1, ble_t (Nat.zero_le _), ble_t hc, ble_t (Nat.le_refl c), Bool.and_self]
      unfold sl aslice
      rw [u22]
      simp only [ts3, Option.map_some, Option.map_none]
      have e1 : Nat.add o (Nat.mul 0 1) = o := by show o + 0 * 1 = o; omega
      have e2 : Nat.sub l.length 0 = l.length := rfl
      have e3 : Nat.sub c 0 = c := rfl
      rcases hx with rfl | rfl
      · simp only [h2, show Nat.beq 0 0 = true from rfl]
      · simp only [h2, beq_f (show c ≠ 0 by omega), e1, e2, e3]
  · exact sl_suf hv ho hk0 hk
end
end Go.Vit
