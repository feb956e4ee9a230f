/- Walks: the law's trays; clones that are appended to. -/
import Derived.Test.YtffomiamkiakcaaW10
import Derived.Test.YtffomiamkiakcaaCoreD
set_option linter.unusedSimpArgs false
set_option linter.unusedVariables false
set_option maxRecDepth 20000
namespace Go.Vit
open Go Go.Proofs
attribute [local irreducible] runT loopS
theorem boxX_len (l : List Int) (r : Bool) : (boxX l r).length ≤ 7 := by
  unfold boxX
  split
  · rename_i h
    have := (boxL_ok (r := r) h).1.1.length_eq
    have := (chkS_ok h).2.1
    omega
  · exact Nat.zero_le _
theorem wideX_len (l : List Int) (r : Bool) : (wideX l r).length ≤ 7 := by
  unfold wideX
  split
  · rename_i h
    have := (wideL_ok r h).1.length_eq
    have := (chkS_ok h).2.1
    omega
  · exact Nat.zero_le _
def trayV (a0 : Nat) (gl : List Nat) : Value := .agg ⟨.int .u8 (a0 : Int) :: gl.map fun (g : Nat) => .int .u8 (g : Int)⟩
theorem tray_of {ns : List (IntKind × Int)} (h : ns.map (·.1) = [.u8, .u8, .u8, .u8, .u8, .u8, .u8, .u8] ∧ ∀ p ∈ ns, p.1.has p.2) : ∃ (a0 : Nat) (gl : List Nat), Value.agg ⟨intsV ns⟩ = trayV a0 gl ∧ a0 < 256 ∧ gl.length = 7 ∧ ∀ g ∈ gl, g < 256 := by
  obtain ⟨l, h1, h2, h3⟩ := u8s_of (n := 8) h.1 h.2
  match l, h2 with
  | a0 :: gl, h2 =>
    refine ⟨a0, gl, ?_, h3 _ (by simp), by simpa using h2, fun g hg => h3 g (by simp [hg])⟩
    rw [h1]; rfl
theorem rdn_all {s : Nat} {cs : List Value} {n : Nat} (h : cs.length = n) : rdn (some ⟨s, cs, none⟩) 0 n = some (.agg ⟨cs⟩) := by
  rw [rdn_e _ _ _ _ (by omega), List.drop_zero, List.take_of_length_le (by omega)]
theorem iaA_u {b n o i : Nat} (h : i < n) : iaA n 1 (.pointer (some ⟨b, o, none⟩)) (.int .i64 (i : Int)) = some (.pointer (some ⟨b, o + i, none⟩)) := by
  show iaA n 1 _ (.int .i64 (Int.ofNat i)) = _
  have hb : Nat.blt i n = true := by simpa using h
  simp only [iaA, hb, natK_eq]
  rw [show Nat.add o (Nat.mul i 1) = o + i by show o + i * 1 = o + i; omega]
/-- The shades of a tray. -/
def madeT (a0 : Nat) (gl : List Nat) (most : Nat) : List Int := (gl.take (1 + a0 % most)).map fun g => ((g % 61 : Nat) : Int)
theorem madeT_len {a0 most : Nat} {gl : List Nat} (hl : gl.length = 7) (h : 0 < most) (h7 : most ≤ 7) : 1 ≤ (madeT a0 gl most).length ∧ (madeT a0 gl most).length ≤ most := by
  unfold madeT
  rw [List.length_map, List.length_take]
  have := Nat.mod_lt a0 h
  omega
theorem madeT_bd {a0 most : Nat} {gl : List Nat} : ∀ x ∈ madeT a0 gl most, 0 ≤ x ∧ x ≤ 60 := fun x hx => by
  obtain ⟨g, _, rfl⟩ := List.mem_map.1 hx
  have := Nat.mod_lt g (show 0 < 61 by omega)
  omega
theorem madeT_ok {a0 most : Nat} {gl : List Nat} (hl : gl.length = 7) (h : 0 < most) (h7 : most ≤ 7) : chkS (madeT a0 gl most) = 0 := by
  have := madeT_len (a0 := a0) hl h h7
  exact chkS_of (by omega) (by omega) madeT_bd
theorem u42 : Try.prog.underlying 42 = some (.array 7 5) := by kernel_rfl
theorem ts5 : tsize Try.prog 5 = some 1 := by kernel_rfl
theorem sl42 {b k : Nat} (hk : k ≤ 7) : sl Try.prog 42 (.pointer (some ⟨b, 1, none⟩)) none (some (.int .i64 (k : Int))) none = some (.slice (some ⟨b, 1, some 0⟩) k 7) := by
  unfold sl aslice
  rw [u42]
  simp only [ts5, Option.map_some, Option.map_none]
  have h1 : abound (tri none (some (.int .i64 (k : Int))) none) (some (.tmp 1)) 7 = some k := by
    show anat (.int .i64 (Int.ofNat k)) = _
    simp only [anat, natK_eq]
  have h2 : abounds (tri none (some (.int .i64 (k : Int))) none) 7 7 none (some (.tmp 1)) none = some (0, k, 7) := by
    unfold abounds
    simp only [abound_none, h1, ble_t hk, ble_t (Nat.zero_le k), ble_t (Nat.le_refl 7), Bool.and_self]
  simp only [h2, beq_f (show 7 ≠ 0 by omega)]
  rfl
section
variable {lf n L : Nat} {m : Mem} {k : Value → Mem → Option Unit}
theorem made_sp {a0 most : Nat} {gl : List Nat} (hlf : 1000000 ≤ lf) (hL : L ≤ m.next) (h0 : a0 < 256) (hlen : gl.length = 7) (hg : ∀ g ∈ gl, g < 256) (hm : 0 < most) (hm7 : most ≤ 7)
    (hk : ∀ u m', Gt m m' → GL m.next m' u (madeT a0 gl most) → k u m' = some ()) :
    runT (tab lf) (n + 1) 45 [trayV a0 gl, .int .i64 (most : Int)] L m k = some () := by
  rw [r45]; dsimp only [S45, iofNat, inegSucc]
  unfold trayV
  have hb : At (m.push ⟨1, .int .u8 (a0 : Int) :: gl.map (fun (g : Nat) => .int .u8 (g : Int)), none⟩) m.next _ := At.push m _
  have g1 := Mem.gt_push m ⟨1, .int .u8 (a0 : Int) :: gl.map (fun (g : Nat) => .int .u8 (g : Int)), none⟩
  try simp (disch := first | omega | with_unfolding_all exact id rfl | with_unfolding_all exact Nat.le_of_ble_eq_true rfl | (simp only [Jd, Je, Jr, Js, Jt, Nat.reduceAdd, allOne, oneCell, Bool.and_self, Jc]; first | done | omega)) only [↓Qa, ↓Qb, ↓Qc, Qd, Qe, Qf, Qg, Qh, Qi, Qj, Qk, Ql, Qm, Qn, Qo, Qp, Qq, Qr, Qs, Qt, Qu, Qv, Qw, Qx, Qy, ptrTo, Qz, QA, QB, QC, QD, QE, QF, QG, QH, QI, QJ, QK, QL, QM, QN, QO, QP, QQ, QR, QS, QT, QU, QV, QW, QX, QY, QZ, Ja, Jb, Jc, Jd, Je, Jf, Jg, Jh, Ji, Jj, Jk, Jl, Jm, Jn, Jo, Jp, Jq, Jr, Js, Jt, Nat.reduceAdd]
  generalize m.push ⟨1, .int .u8 (a0 : Int) :: gl.map (fun (g : Nat) => .int .u8 (g : Int)), none⟩ = m1 at hb g1 ⊢
  have g1n := g1.next
  have hn1 := Nat.mod_lt a0 hm
  have hc0 : (Value.int .u8 (a0 : Int) :: gl.map (fun (g : Nat) => Value.int .u8 (g : Int)))[0]? = some (.int .u8 (a0 : Int)) := rfl
  try simp (disch := first | omega | with_unfolding_all exact id rfl | with_unfolding_all exact Nat.le_of_ble_eq_true rfl | (simp only [Jd, Je, Jr, Js, Jt, Nat.reduceAdd, allOne, oneCell, Bool.and_self, Jc]; first | done | omega)) only [hb.rd, hc0, ↓Qa, ↓Qb, ↓Qc, Qd, Qe, Qf, Qg, Qh, Qi, Qj, Qk, Ql, Qm, Qn, Qo, Qp, Qq, Qr, Qs, Qt, Qu, Qv, Qw, Qx, Qy, ptrTo, Qz, QA, QB, QC, QD, QE, QF, QG, QH, QI, QJ, QK, QL, QM, QN, QO, QP, QQ, QR, QS, QT, QU, QV, QW, QX, QY, QZ, Ja, Jb, Jc, Jd, Je, Jf, Jg, Jh, Ji, Jj, Jk, Jl, Jm, Jn, Jo, Jp, Jq, Jr, Js, Jt, Nat.reduceAdd]
  rw [oCv_nat (by omega), oInt_remN hm, oInt_add ⟨by omega, by omega⟩, show (1 : Int) + ((a0 % most : Nat) : Int) = ((1 + a0 % most : Nat) : Int) by omega]
  unfold madeT at hk
  have hN7 : 1 + a0 % most ≤ 7 := by omega
  generalize 1 + a0 % most = q at hN7 hk ⊢
  have hsl : sl Try.prog 42 (.pointer (some ⟨m.next, 0 + 1, none⟩)) none (some (.int .i64 (q : Int))) none = some (.slice (some ⟨m.next, 1, some 0⟩) q 7) := sl42 hN7
  rw [hsl, oOpt_e, ln_e, oOpt_e]
  refine loop_up q (fun i vs m' => ∃ x, vs = [x, .int .i64 (i : Int)] ∧ Gt m1 m' ∧ GL m1.next m' x ((gl.take i).map fun g => ((g % 61 : Nat) : Int))) (by omega) ⟨_, rfl, Gt.refl _, GL.nil _ _⟩ ?_
  rintro i vs m2 hi ⟨x, rfl, e2, hx⟩ self hself
  have hb2 := hb.mono e2
  have e2n := e2.next
  try simp (disch := first | omega | with_unfolding_all exact id rfl | with_unfolding_all exact Nat.le_of_ble_eq_true rfl | (simp only [Jd, Je, Jr, Js, Jt, Nat.reduceAdd, allOne, oneCell, Bool.and_self, Jc]; first | done | omega)) only [↓Qa, ↓Qb, ↓Qc, Qd, Qe, Qf, Qg, Qh, Qi, Qj, Qk, Ql, Qm, Qn, Qo, Qp, Qq, Qr, Qs, Qt, Qu, Qv, Qw, Qx, Qy, ptrTo, Qz, QA, QB, QC, QD, QE, QF, QG, QH, QI, QJ, QK, QL, QM, QN, QO, QP, QQ, QR, QS, QT, QU, QV, QW, QX, QY, QZ, Ja, Jb, Jc, Jd, Je, Jf, Jg, Jh, Ji, Jj, Jk, Jl, Jm, Jn, Jo, Jp, Jq, Jr, Js, Jt, Nat.reduceAdd]
  refine oIf_dec (fun h2 => ?_) (fun h2 => ?_)
  · have h3 : i < q := by omega
    have h4 : i < gl.length := by omega
    have h5 := hg _ (List.getElem_mem h4)
    have hcell : (.int .u8 (a0 : Int) :: gl.map (fun (g : Nat) => Value.int .u8 (g : Int)))[1 + i * 1]? = some (.int .u8 (gl[i] : Int)) := by
      rw [show 1 + i * 1 = i + 1 by omega, List.getElem?_cons_succ, List.getElem?_map, List.getElem?_eq_getElem h4]; rfl
    rw [ia_e h3, oOpt_e, ld1_u, hb2.rd, rdo_e, hcell, oOpt_e, oCv_nat (by omega), show (61 : Int) = ((61 : Nat) : Int) from rfl, oInt_remN (by omega)]
    obtain ⟨x2, m3, h8, h9, e7, h10, _⟩ := GL.snocV (P := Try.prog) (L := L) (m0 := m1) ((gl[i] % 61 : Nat) : Int) ael22 (by omega) hx (by rw [List.length_map, List.length_take]; omega) (by omega) e2 (Nat.le_refl _)
    rw [bs22, oRes_e, h8, oRes_e, oInt_add ⟨by omega, by omega⟩]
    refine hself h3 _ _ ⟨x2, rfl, e7, ?_⟩
    rw [List.take_add_one, List.getElem?_eq_getElem h4, Option.toList_some, List.map_append]
    exact h9.le e2n
  · have : i = q := by omega
    subst this
    exact hk x m2 (g1.trans e2) (hx.le g1n)
/-- The tray, boxed and read. -/
theorem trayIn_sp {fid a0 most : Nat} {gl : List Nat} {m' : Mem} (hlf : 1000000 ≤ lf) (hL : L ≤ m'.next) (h0 : a0 < 256) (hlen : gl.length = 7) (hg : ∀ g ∈ gl, g < 256) (hm : 0 < most) (hm7 : most ≤ 7)
    {b : Nat} (hb : m'.rd b = some ⟨1, .int .u8 (a0 : Int) :: gl.map (fun (g : Nat) => .int .u8 (g : Int)), none⟩)
    (hk : ∀ u m2, Gt m' m2 → GL m'.next m2 u (madeT a0 gl most) → k u m2 = some ()) :
    (oOpt (rdn (m'.rd b) 0 8) fun t => runT (tab lf) (n + 1) 45 [t, .int .i64 (most : Int)] L m' k) = some () := by
  have hl8 : (Value.int .u8 (a0 : Int) :: gl.map (fun (g : Nat) => Value.int .u8 (g : Int))).length = 8 := by simp [hlen]
  rw [hb, rdn_all hl8, oOpt_e]
  exact made_sp hlf hL h0 hlen hg hm hm7 hk
/-- The steps of a box, in the law's words; their sum; the greatest. -/
theorem lsum_sp {v : Value} {l : List Int} (hlf : 1000000 ≤ lf) (hv : IL m v l) (hl : l.length < 1000) (hb : ∀ i, -100000 ≤ (l.take i).foldl fAdd 0 ∧ (l.take i).foldl fAdd 0 ≤ 100000) (hx : ∀ x ∈ l, -1000 ≤ x ∧ x ≤ 1000)
    (hk : k (.int .i64 (sumL l)) m = some ()) : runT (tab lf) (n + 1) 53 [v] L m k = some () := by
  rw [r53]; dsimp only [S53, iofNat, inegSucc]
  try simp (disch := first | omega | with_unfolding_all exact id rfl | with_unfolding_all exact Nat.le_of_ble_eq_true rfl | (simp only [Jd, Je, Jr, Js, Jt, Nat.reduceAdd, allOne, oneCell, Bool.and_self, Jc]; first | done | omega)) only [hv.ln, ↓Qa, ↓Qb, ↓Qc, Qd, Qe, Qf, Qg, Qh, Qi, Qj, Qk, Ql, Qm, Qn, Qo, Qp, Qq, Qr, Qs, Qt, Qu, Qv, Qw, Qx, Qy, ptrTo, Qz, QA, QB, QC, QD, QE, QF, QG, QH, QI, QJ, QK, QL, QM, QN, QO, QP, QQ, QR, QS, QT, QU, QV, QW, QX, QY, QZ, Ja, Jb, Jc, Jd, Je, Jf, Jg, Jh, Ji, Jj, Jk, Jl, Jm, Jn, Jo, Jp, Jq, Jr, Js, Jt, Nat.reduceAdd]
  refine loop_up l.length (fun i vs m' => vs = [.int .i64 ((l.take i).foldl fAdd 0), .int .i64 (i : Int)] ∧ m' = m) (by omega) ⟨rfl, rfl⟩ ?_
  rintro i vs m' hi ⟨rfl, rfl⟩ self hself
  try simp (disch := first | omega | with_unfolding_all exact id rfl | with_unfolding_all exact Nat.le_of_ble_eq_true rfl | (simp only [Jd, Je, Jr, Js, Jt, Nat.reduceAdd, allOne, oneCell, Bool.and_self, Jc]; first | done | omega)) only [↓Qa, ↓Qb, ↓Qc, Qd, Qe, Qf, Qg, Qh, Qi, Qj, Qk, Ql, Qm, Qn, Qo, Qp, Qq, Qr, Qs, Qt, Qu, Qv, Qw, Qx, Qy, ptrTo, Qz, QA, QB, QC, QD, QE, QF, QG, QH, QI, QJ, QK, QL, QM, QN, QO, QP, QQ, QR, QS, QT, QU, QV, QW, QX, QY, QZ, Ja, Jb, Jc, Jd, Je, Jf, Jg, Jh, Ji, Jj, Jk, Jl, Jm, Jn, Jo, Jp, Jq, Jr, Js, Jt, Nat.reduceAdd]
  refine oIf_dec (fun h => ?_) (fun h => ?_)
  · have hil : i < l.length := by omega
    have h1 := hb i
    have h2 := hx _ (List.getElem_mem hil)
    rw [hv.ia hil, oOpt_e, hv.ld hil, oOpt_e, oInt_add ⟨by omega, by omega⟩, oInt_add ⟨by omega, by omega⟩]
    refine hself hil _ _ ⟨?_, rfl⟩
    rw [foldl_take fAdd 0 hil]; rfl
  · rw [List.take_of_length_le (by omega)]
    exact hk
theorem max92_sp {v : Value} {x : Int} {l : List Int} (hlf : 1000000 ≤ lf) (hv : IL m v (x :: l)) (hl : l.length < 1000)
    (hk : k (.int .i64 (l.foldl fMax x)) m = some ()) : runT (tab lf) (n + 1) 92 [v] L m k = some () := by
  rw [r92]; dsimp only [S92, iofNat, inegSucc]
  have hlen : (x :: l).length = l.length + 1 := rfl
  have hln := hv.ln
  have i0 : ia 1 v (.int .i64 0) = some (ep 1 v 0) := hv.ia (i := 0) (by simp)
  have l0 : ld1 m (ep 1 v 0) = some (.int .i64 x) := hv.ld (i := 0) (by simp)
  rw [uc_e, un0_e, hln, oOpt_e, oInt_lss, decide_eq_false (by rw [hlen]; omega)]
  try simp (disch := first | omega | with_unfolding_all exact id rfl | with_unfolding_all exact Nat.le_of_ble_eq_true rfl | (simp only [Jd, Je, Jr, Js, Jt, Nat.reduceAdd, allOne, oneCell, Bool.and_self, Jc]; first | done | omega)) only [i0, l0, ↓Qa, ↓Qb, ↓Qc, Qd, Qe, Qf, Qg, Qh, Qi, Qj, Qk, Ql, Qm, Qn, Qo, Qp, Qq, Qr, Qs, Qt, Qu, Qv, Qw, Qx, Qy, ptrTo, Qz, QA, QB, QC, QD, QE, QF, QG, QH, QI, QJ, QK, QL, QM, QN, QO, QP, QQ, QR, QS, QT, QU, QV, QW, QX, QY, QZ, Ja, Jb, Jc, Jd, Je, Jf, Jg, Jh, Ji, Jj, Jk, Jl, Jm, Jn, Jo, Jp, Jq, Jr, Js, Jt, Nat.reduceAdd]
  refine loop_up l.length (fun i vs m' => vs = [.int .i64 ((l.take i).foldl fMax x), .int .i64 ((i + 1 : Nat) : Int)] ∧ m' = m) (by omega) ⟨rfl, rfl⟩ ?_
  rintro i vs m' hi ⟨rfl, rfl⟩ self hself
  rw [uc_e, uc_e]
  try rw [hln]
  try rw [oOpt_e]
  rw [oInt_lss]
  refine oIf_dec (fun h => ?_) (fun h => ?_)
  · have hil : i < l.length := by
      first | (rw [hlen] at h; omega) | (simp at h; omega)
    have hi1 : i + 1 < (x :: l).length := by rw [hlen]; omega
    rw [hv.ia hi1, oOpt_e, hv.ld hi1, oOpt_e, maxI_e, oOpt_e, oInt_add ⟨by omega, by omega⟩]
    refine hself hil _ _ ⟨?_, rfl⟩
    rw [foldl_take fMax x hil]; rfl
  · have : l.length ≤ i := by
      first | (rw [hlen] at h; omega) | (simp at h; omega)
    rw [List.take_of_length_le this]
    exact hk
theorem greatest_sp {v : Value} {l : List Int} (hlf : 1000000 ≤ lf) (hL : L ≤ m.next) (hv : IL m v l) (hl : l.length < 1000)
    (hk : ∀ m', Gt m m' → k (.int .i64 (maxL l)) m' = some ()) : runT (tab lf) (n + 2) 57 [v] L m k = some () := by
  rw [r57]; dsimp only [S57, iofNat, inegSucc]
  rw [uc_e, un0_e, bs22, oRes_e]
  have g1 := Mem.gt_push m ⟨1, [.int .i64 0], none⟩
  have o1 : GL m.next (m.push ⟨1, [.int .i64 0], none⟩) (slTo 1 m.next) [0] := .inr ⟨m.next, Nat.le_refl _, rfl, Mem.rd_push _ _, rfl, by simp⟩
  generalize m.push ⟨1, [.int .i64 0], none⟩ = m1 at g1 o1 ⊢
  obtain ⟨z, m2, q1, q2, q3, q4⟩ := GL.app (L := L) (m0 := m) o1 (hv.mono g1) (by simp; omega) hL g1.next g1 (Nat.le_refl _)
  rw [q1, oRes_e]
  exact max92_sp hlf q2.il hl (hk m2 q3)
theorem lsteps_sp {v : Value} {l : List Int} {r : Bool} (hlf : 1000000 ≤ lf) (hL : L ≤ m.next) (hv : IL m v l) (h1 : 1 ≤ l.length) (h7 : l.length ≤ 7) (hl : ∀ x ∈ l, 0 ≤ x ∧ x ≤ 60)
    (hk : ∀ u m', Gt m m' → GL m.next m' u (stepX l r) → k u m' = some ()) : runT (tab lf) (n + 1) 54 [v, .bool r] L m k = some () := by
  rw [r54]; dsimp only [S54, iofNat, inegSucc]
  rw [uc_e, uc_e, un0_e, hv.ln, oOpt_e]
  try simp (disch := first | omega | with_unfolding_all exact id rfl | with_unfolding_all exact Nat.le_of_ble_eq_true rfl | (simp only [Jd, Je, Jr, Js, Jt, Nat.reduceAdd, allOne, oneCell, Bool.and_self, Jc]; first | done | omega)) only [↓Qa, ↓Qb, ↓Qc, Qd, Qe, Qf, Qg, Qh, Qi, Qj, Qk, Ql, Qm, Qn, Qo, Qp, Qq, Qr, Qs, Qt, Qu, Qv, Qw, Qx, Qy, ptrTo, Qz, QA, QB, QC, QD, QE, QF, QG, QH, QI, QJ, QK, QL, QM, QN, QO, QP, QQ, QR, QS, QT, QU, QV, QW, QX, QY, QZ, Ja, Jb, Jc, Jd, Je, Jf, Jg, Jh, Ji, Jj, Jk, Jl, Jm, Jn, Jo, Jp, Jq, Jr, Js, Jt, Nat.reduceAdd]
  refine loop_up l.length (fun i vs m' => ∃ u, vs = [u, .int .i64 (i : Int)] ∧ Gt m m' ∧ ((i < l.length ∧ GL m.next m' u (stepL (l.take (i + 1)))) ∨ (i = l.length ∧ GL m.next m' u (stepX l r)))) (by omega) ⟨_, rfl, Gt.refl _, .inl ⟨by omega, by rw [show stepL (l.take (0 + 1)) = [] by rw [List.take_add_one, List.getElem?_eq_getElem (by omega)]; rfl]; exact GL.nil _ _⟩⟩ ?_
  rintro i vs m2 hi ⟨u, rfl, e2, hor⟩ self hself
  have n2 := e2.next
  rcases hor with ⟨hil, hu⟩ | ⟨hil, hu⟩
  rotate_left
  · try simp (disch := first | omega | with_unfolding_all exact id rfl | with_unfolding_all exact Nat.le_of_ble_eq_true rfl | (simp only [Jd, Je, Jr, Js, Jt, Nat.reduceAdd, allOne, oneCell, Bool.and_self, Jc]; first | done | omega)) only [decide_eq_false (show ¬ ((i : Nat) : Int) < (l.length : Int) by omega), ↓Qa, ↓Qb, ↓Qc, Qd, Qe, Qf, Qg, Qh, Qi, Qj, Qk, Ql, Qm, Qn, Qo, Qp, Qq, Qr, Qs, Qt, Qu, Qv, Qw, Qx, Qy, ptrTo, Qz, QA, QB, QC, QD, QE, QF, QG, QH, QI, QJ, QK, QL, QM, QN, QO, QP, QQ, QR, QS, QT, QU, QV, QW, QX, QY, QZ, Ja, Jb, Jc, Jd, Je, Jf, Jg, Jh, Ji, Jj, Jk, Jl, Jm, Jn, Jo, Jp, Jq, Jr, Js, Jt, Nat.reduceAdd]
    exact hk u m2 e2 hu
  have hv2 := hv.mono e2
  have hsl := stepL_len (l.take (i + 1))
  rw [List.length_take] at hsl
  have b1 := hl _ (List.getElem_mem hil)
  have hz : 0 < l.length := by omega
  have b0 := hl _ (List.getElem_mem hz)
  have i0 : ia 1 v (.int .i64 0) = some (ep 1 v 0) := hv2.ia hz
  have hadd : ∀ K : Value → Option Unit, oInt .add .i64 (.int .i64 (i : Int)) (.int .i64 1) K = K (.int .i64 ((i + 1 : Nat) : Int)) := fun K => by rw [oInt_add ⟨by omega, by omega⟩]; rfl
  try simp (disch := first | omega | with_unfolding_all exact id rfl | with_unfolding_all exact Nat.le_of_ble_eq_true rfl | (simp only [Jd, Je, Jr, Js, Jt, Nat.reduceAdd, allOne, oneCell, Bool.and_self, Jc]; first | done | omega)) only [decide_eq_true (show ((i : Nat) : Int) < (l.length : Int) by omega), hadd, ↓Qa, ↓Qb, ↓Qc, Qd, Qe, Qf, Qg, Qh, Qi, Qj, Qk, Ql, Qm, Qn, Qo, Qp, Qq, Qr, Qs, Qt, Qu, Qv, Qw, Qx, Qy, ptrTo, Qz, QA, QB, QC, QD, QE, QF, QG, QH, QI, QJ, QK, QL, QM, QN, QO, QP, QQ, QR, QS, QT, QU, QV, QW, QX, QY, QZ, Ja, Jb, Jc, Jd, Je, Jf, Jg, Jh, Ji, Jj, Jk, Jl, Jm, Jn, Jo, Jp, Jq, Jr, Js, Jt, Nat.reduceAdd]
  by_cases hlast : i + 1 = l.length
  · try simp (disch := first | omega | with_unfolding_all exact id rfl | with_unfolding_all exact Nat.le_of_ble_eq_true rfl | (simp only [Jd, Je, Jr, Js, Jt, Nat.reduceAdd, allOne, oneCell, Bool.and_self, Jc]; first | done | omega)) only [decide_eq_true (show ((i + 1 : Nat) : Int) = (l.length : Int) by omega), ↓Qa, ↓Qb, ↓Qc, Qd, Qe, Qf, Qg, Qh, Qi, Qj, Qk, Ql, Qm, Qn, Qo, Qp, Qq, Qr, Qs, Qt, Qu, Qv, Qw, Qx, Qy, ptrTo, Qz, QA, QB, QC, QD, QE, QF, QG, QH, QI, QJ, QK, QL, QM, QN, QO, QP, QQ, QR, QS, QT, QU, QV, QW, QX, QY, QZ, Ja, Jb, Jc, Jd, Je, Jf, Jg, Jh, Ji, Jj, Jk, Jl, Jm, Jn, Jo, Jp, Jq, Jr, Js, Jt, Nat.reduceAdd]
    rw [List.take_of_length_le (by omega)] at hu
    cases r with
    | false =>
      rw [stepX_flat (by simp)] at hk
      try simp (disch := first | omega | with_unfolding_all exact id rfl | with_unfolding_all exact Nat.le_of_ble_eq_true rfl | (simp only [Jd, Je, Jr, Js, Jt, Nat.reduceAdd, allOne, oneCell, Bool.and_self, Jc]; first | done | omega)) only [↓Qa, ↓Qb, ↓Qc, Qd, Qe, Qf, Qg, Qh, Qi, Qj, Qk, Ql, Qm, Qn, Qo, Qp, Qq, Qr, Qs, Qt, Qu, Qv, Qw, Qx, Qy, ptrTo, Qz, QA, QB, QC, QD, QE, QF, QG, QH, QI, QJ, QK, QL, QM, QN, QO, QP, QQ, QR, QS, QT, QU, QV, QW, QX, QY, QZ, Ja, Jb, Jc, Jd, Je, Jf, Jg, Jh, Ji, Jj, Jk, Jl, Jm, Jn, Jo, Jp, Jq, Jr, Js, Jt, Nat.reduceAdd]
      exact hk u m2 e2 hu
    | true =>
      by_cases h1l : l.length = 1
      · rw [stepX_flat (by simp; omega)] at hk
        try simp (disch := first | omega | with_unfolding_all exact id rfl | with_unfolding_all exact Nat.le_of_ble_eq_true rfl | (simp only [Jd, Je, Jr, Js, Jt, Nat.reduceAdd, allOne, oneCell, Bool.and_self, Jc]; first | done | omega)) only [decide_eq_true (show ((i + 1 : Nat) : Int) = 1 by omega), ↓Qa, ↓Qb, ↓Qc, Qd, Qe, Qf, Qg, Qh, Qi, Qj, Qk, Ql, Qm, Qn, Qo, Qp, Qq, Qr, Qs, Qt, Qu, Qv, Qw, Qx, Qy, ptrTo, Qz, QA, QB, QC, QD, QE, QF, QG, QH, QI, QJ, QK, QL, QM, QN, QO, QP, QQ, QR, QS, QT, QU, QV, QW, QX, QY, QZ, Ja, Jb, Jc, Jd, Je, Jf, Jg, Jh, Ji, Jj, Jk, Jl, Jm, Jn, Jo, Jp, Jq, Jr, Js, Jt, Nat.reduceAdd]
        exact hk u m2 e2 hu
      · rw [stepX_round (by omega)] at hk
        try simp (disch := first | omega | with_unfolding_all exact id rfl | with_unfolding_all exact Nat.le_of_ble_eq_true rfl | (simp only [Jd, Je, Jr, Js, Jt, Nat.reduceAdd, allOne, oneCell, Bool.and_self, Jc]; first | done | omega)) only [decide_eq_false (show ¬ ((i + 1 : Nat) : Int) = 1 by omega), hv2.ia hil, hv2.ld hil, i0, hv2.ld hz, ↓Qa, ↓Qb, ↓Qc, Qd, Qe, Qf, Qg, Qh, Qi, Qj, Qk, Ql, Qm, Qn, Qo, Qp, Qq, Qr, Qs, Qt, Qu, Qv, Qw, Qx, Qy, ptrTo, Qz, QA, QB, QC, QD, QE, QF, QG, QH, QI, QJ, QK, QL, QM, QN, QO, QP, QQ, QR, QS, QT, QU, QV, QW, QX, QY, QZ, Ja, Jb, Jc, Jd, Je, Jf, Jg, Jh, Ji, Jj, Jk, Jl, Jm, Jn, Jo, Jp, Jq, Jr, Js, Jt, Nat.reduceAdd]
        rw [oInt_sub ⟨by omega, by omega⟩]
        try rw [oInt_sub ⟨by omega, by omega⟩]
        rw [maxI_e, oOpt_e]
        have hab : max (l[i] - l[0]) (l[0] - l[i]) = ab (l[l.length - 1]'(by omega)) l[0] := by
          have : i = l.length - 1 := by omega
          subst this; rfl
        rw [hab]
        obtain ⟨u', m3, s1, s2, s3, s4, s5⟩ := GL.snocV (P := Try.prog) (L := L) (m0 := m) (ab (l[l.length - 1]'(by omega)) l[0]) ael22 (by omega) hu (by have := stepL_len l; omega) hL e2 (Nat.le_refl _)
        rw [bs22, oRes_e, s1, oRes_e]
        try simp (disch := first | omega | with_unfolding_all exact id rfl | with_unfolding_all exact Nat.le_of_ble_eq_true rfl | (simp only [Jd, Je, Jr, Js, Jt, Nat.reduceAdd, allOne, oneCell, Bool.and_self, Jc]; first | done | omega)) only [hadd, ↓Qa, ↓Qb, ↓Qc, Qd, Qe, Qf, Qg, Qh, Qi, Qj, Qk, Ql, Qm, Qn, Qo, Qp, Qq, Qr, Qs, Qt, Qu, Qv, Qw, Qx, Qy, ptrTo, Qz, QA, QB, QC, QD, QE, QF, QG, QH, QI, QJ, QK, QL, QM, QN, QO, QP, QQ, QR, QS, QT, QU, QV, QW, QX, QY, QZ, Ja, Jb, Jc, Jd, Je, Jf, Jg, Jh, Ji, Jj, Jk, Jl, Jm, Jn, Jo, Jp, Jq, Jr, Js, Jt, Nat.reduceAdd]
        refine hself (by omega) _ _ ⟨u', rfl, s3, .inr ⟨hlast, ?_⟩⟩
        rw [stepX_round (by omega)]
        exact s2.le n2
  · have hi1 : i + 1 < l.length := by omega
    have b2 := hl _ (List.getElem_mem hi1)
    try simp (disch := first | omega | with_unfolding_all exact id rfl | with_unfolding_all exact Nat.le_of_ble_eq_true rfl | (simp only [Jd, Je, Jr, Js, Jt, Nat.reduceAdd, allOne, oneCell, Bool.and_self, Jc]; first | done | omega)) only [decide_eq_false (show ¬ ((i + 1 : Nat) : Int) = (l.length : Int) by omega), hv2.ia hil, hv2.ld hil, hv2.ia hi1, hv2.ld hi1, ↓Qa, ↓Qb, ↓Qc, Qd, Qe, Qf, Qg, Qh, Qi, Qj, Qk, Ql, Qm, Qn, Qo, Qp, Qq, Qr, Qs, Qt, Qu, Qv, Qw, Qx, Qy, ptrTo, Qz, QA, QB, QC, QD, QE, QF, QG, QH, QI, QJ, QK, QL, QM, QN, QO, QP, QQ, QR, QS, QT, QU, QV, QW, QX, QY, QZ, Ja, Jb, Jc, Jd, Je, Jf, Jg, Jh, Ji, Jj, Jk, Jl, Jm, Jn, Jo, Jp, Jq, Jr, Js, Jt, Nat.reduceAdd]
    rw [oInt_sub ⟨by omega, by omega⟩]
    try rw [oInt_sub ⟨by omega, by omega⟩]
    rw [maxI_e, oOpt_e]
    have hab : max (l[i] - l[i + 1]) (l[i + 1] - l[i]) = ab l[i] l[i + 1] := rfl
    rw [hab]
    obtain ⟨u', m3, s1, s2, s3, s4, s5⟩ := GL.snocV (P := Try.prog) (L := L) (m0 := m) (ab l[i] l[i + 1]) ael22 (by omega) hu (by omega) hL e2 (Nat.le_refl _)
    rw [bs22, oRes_e, s1, oRes_e]
    try simp (disch := first | omega | with_unfolding_all exact id rfl | with_unfolding_all exact Nat.le_of_ble_eq_true rfl | (simp only [Jd, Je, Jr, Js, Jt, Nat.reduceAdd, allOne, oneCell, Bool.and_self, Jc]; first | done | omega)) only [hadd, ↓Qa, ↓Qb, ↓Qc, Qd, Qe, Qf, Qg, Qh, Qi, Qj, Qk, Ql, Qm, Qn, Qo, Qp, Qq, Qr, Qs, Qt, Qu, Qv, Qw, Qx, Qy, ptrTo, Qz, QA, QB, QC, QD, QE, QF, QG, QH, QI, QJ, QK, QL, QM, QN, QO, QP, QQ, QR, QS, QT, QU, QV, QW, QX, QY, QZ, Ja, Jb, Jc, Jd, Je, Jf, Jg, Jh, Ji, Jj, Jk, Jl, Jm, Jn, Jo, Jp, Jq, Jr, Js, Jt, Nat.reduceAdd]
    refine hself (by omega) _ _ ⟨u', rfl, s3, .inl ⟨hi1, ?_⟩⟩
    rw [stepL_take (by omega) hi1]
    exact s2.le n2
end
end Go.Vit
