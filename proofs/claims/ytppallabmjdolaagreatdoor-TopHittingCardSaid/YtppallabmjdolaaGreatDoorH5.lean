/- Walks of heaps: the most without a common hour. -/
import Derived.Test.YtppallabmjdolaaGreatDoorH4
set_option linter.unusedSimpArgs false
set_option linter.unusedVariables false
set_option maxRecDepth 20000
namespace Go.Vit
open Go Go.Proofs
attribute [local irreducible] runT loopS
theorem PL.keep0 {m m' : Mem} {v : Value} {l : List Hp} (h : PL m v l) (hk : ∀ c, bid v = some c → 0 < l.length → m'.rd c = m.rd c) : PL m' v l := by
  by_cases h0 : 0 < l.length
  · exact h.keep fun c hc => hk c hc h0
  · have hl : l = [] := List.length_eq_zero_iff.1 (by omega)
    subst hl
    refine ⟨?_, h.2⟩
    rcases h.2 with rfl | ⟨b, o, x, c, rfl⟩ <;> rfl
theorem PL.bid_lt {m : Mem} {v : Value} {l : List Hp} (h : PL m v l) (h0 : 0 < l.length) : ∀ c, bid v = some c → c < m.next := Sl.bid_lt h h0
theorem pcs_drop : ∀ (l : List Hp) (i : Nat), (pcs l).drop (i * 2) = pcs (l.drop i)
  | [], i => by simp [pcs]
  | p :: l, 0 => rfl
  | p :: l, i + 1 => by
    rw [show (i + 1) * 2 = i * 2 + 1 + 1 by omega]
    exact pcs_drop l i
theorem sl_endP {P : Program} {t e : TypeId} {s : Nat} (ht : P.underlying t = some (.slice e)) (hs : tsize P e = some s) {b o c : Nat} (h0 : 0 < c) :
    sl P t (.slice (some ⟨b, o, none⟩) c c) (some (.int .i64 (c : Int))) none none = some (.slice (some ⟨b, o, some 1⟩) 0 0) := by
  unfold sl aslice
  rw [ht]
  simp only [hs, Option.map_some, Option.map_none]
  have h1 : abound (tri (some (.int .i64 (c : Int))) none none) (some (.tmp 0)) 0 = some c := by
    show anat (.int .i64 (Int.ofNat c)) = _
    simp only [anat, natK_eq]
  have h2 : abounds (tri (some (.int .i64 (c : Int))) none none) c c (some (.tmp 0)) none none = some (c, c, c) := by
    unfold abounds
    simp only [abound_none, h1, ble_t (Nat.le_refl c), Bool.and_self]
  have h3 : Nat.beq c c = true := Nat.beq_refl c
  simp only [h2, beq_f (show c ≠ 0 by omega), h3]
/-- heaps[k:] of grown heaps. -/
theorem slH {L : Nat} {m : Mem} {v : Value} {l : List Hp} (h : PG L m v l) {k : Nat} (h0 : 0 < k) (hk : k ≤ l.length) : ∃ u, sl Tryz.prog 47 v (some (.int .i64 (k : Int))) none none = some u ∧ PL m u (l.drop k) := by
  rcases h with ⟨rfl, h2, h3⟩ | ⟨b, hb, rfl, hr, hlen, hn⟩
  · omega
  · by_cases he : k = l.length
    · subst he
      refine ⟨_, sl_endP u47 ts49 (by omega), ?_⟩
      rw [List.drop_eq_nil_of_le (Nat.le_refl _)]
      exact ⟨rfl, .inr ⟨_, _, _, _, rfl⟩⟩
    · refine ⟨_, sl_from u47 ts49 hk (by omega) (Nat.le_refl _), ?_, .inr ⟨_, _, _, _, by rw [List.length_drop]⟩⟩
      obtain ⟨j, hj⟩ : ∃ j, l.length - k = j + 1 := ⟨l.length - k - 1, by omega⟩
      rw [List.length_drop, hj]
      have e1 : rdc m b (k * 2) ((j + 1) * 2) = some (pcs (l.drop k)) := by
        rw [rdc_e hr (by omega), pcs_drop, List.take_of_length_le (by rw [pcs_len, List.length_drop]; omega)]
      simp only [asrc]
      rw [show Nat.mul (j + 1) 2 = (j + 1) * 2 from rfl, e1]
theorem row_eq (a b : Hp) : decide ((a.1 : Int) = (b.1 : Int) ∧ (a.2 : Int) = (b.2 : Int)) = decide (a = b) := by
  refine decide_eq_decide.2 ?_
  constructor
  · rintro ⟨h1, h2⟩
    exact Prod.ext (by omega) (by omega)
  · rintro rfl; exact ⟨rfl, rfl⟩
/-- What Apart's closure reads. -/
def ApI (ph pl L : Nat) (h : Hp) (lv : Value) (lf : List Hp) (m : Mem) : Prop := m.rd ph = some ⟨1, row2 h, none⟩ ∧ m.rd pl = some ⟨1, [lv], none⟩ ∧ PL m lv lf ∧ L ≤ m.next
section
variable {lf n L : Nat} {m : Mem} {k : Value → Mem → Option Unit}
theorem containsE_sp {v : Value} {l : List Hp} {h : Hp} (hlf : 1000000 ≤ lf) (hv : PL m v l) (hl : l.length < 1000) (hk : ∀ m', Gt m m' → k (.bool (decide (h ∈ l))) m' = some ()) : runT (tabC lf) (n + 2) 82 [v, .agg ⟨row2 h⟩] L m k = some () := by
  rw [r82]; dsimp only [S82, iofNat, inegSucc]
  rw [uc_e, uc_e, un0_e]
  show (oRes (abox m (.agg ⟨[.int .i64 (h.1 : Int), .int .i64 (h.2 : Int)]⟩)) _) = some ()
  refine bx2 fun m1 e1 q1 n1 => ?_
  rw [ldN2 q1, oOpt_e, r132]; dsimp only [S132, iofNat, inegSucc]
  rw [uc_e, uc_e, un0_e]
  refine bx2 fun m2 e2 q2 n2 => ?_
  have e12 := e1.trans e2
  have hv2 := hv.mono e12
  rw [hv.ln, oOpt_e]
  refine loop_up l.length (fun i vs m' => vs = [.int .i64 (i : Int)] ∧ m' = m2 ∧ h ∉ l.take i) (by omega) ⟨rfl, rfl, by simp⟩ ?_
  rintro i vs m3 hi ⟨rfl, rfl, hni⟩ self hself
  rw [uc_e, oInt_lss]
  refine oIf_dec (fun hc => ?_) (fun hc => ?_)
  · have hil : i < l.length := by omega
    rw [ldN2 q2, oOpt_e, hv2.ia hil, oOpt_e, hv2.ldN hil, oOpt_e]
    show (oOpt (abin Tryz.prog .eql 49 (.agg ⟨[.int .i64 (h.1 : Int), .int .i64 (h.2 : Int)]⟩) (.agg ⟨[.int .i64 (l[i].1 : Int), .int .i64 (l[i].2 : Int)]⟩)) _) = some ()
    rw [eq49, oOpt_e, row_eq]
    refine oIf_dec (fun he => ?_) (fun he => ?_)
    · have := hk m3 e12
      rw [decide_eq_true (by rw [he]; exact List.getElem_mem hil)] at this
      rw [oInt_geq, decide_eq_true (by omega)]
      exact this
    · rw [oInt_add ⟨by omega, by omega⟩]
      refine hself hil _ _ ⟨rfl, rfl, ?_⟩
      rw [List.take_add_one, List.getElem?_eq_getElem hil, Option.toList_some, List.mem_append, List.mem_singleton]
      rintro (h1 | h1)
      · exact hni h1
      · exact he h1
  · rw [List.take_of_length_le (by omega)] at hni
    have := hk m3 e12
    rw [decide_eq_false hni] at this
    rw [oInt_geq, decide_eq_false (by omega)]
    exact this
theorem fn83 {ph pl : Nat} {h : Hp} {lv : Value} {lfr l : List Hp} (hlf : 1000000 ≤ lf) (hl : lfr.length < 1000) : FnH (runT (tabC lf) (n + 3)) (.func (.func 83) #[] ⟨[.pointer (some ⟨ph, 0, none⟩), .pointer (some ⟨pl, 0, none⟩)]⟩) L (ApI ph pl L h lv lfr) l fun o => crs h o || !decide (o ∈ lfr) := by
  intro m o k hI ho hk
  rw [oCallV_e (hf := rfl)]
  show runT (tabC lf) (n + 3) 83 [.agg ⟨row2 o⟩, .pointer (some ⟨ph, 0, none⟩), .pointer (some ⟨pl, 0, none⟩)] L m k = some ()
  rw [r83]; dsimp only [S83, iofNat, inegSucc]
  obtain ⟨i1, i2, i3, i4⟩ := hI
  rw [uc_e, uc_e, uc_e, un0_e]
  show (oRes (abox m (.agg ⟨[.int .i64 (o.1 : Int), .int .i64 (o.2 : Int)]⟩)) _) = some ()
  refine bx2 fun m1 e1 q1 n1 => ?_
  have j1 : m1.rd ph = some ⟨1, [.int .i64 (h.1 : Int), .int .i64 (h.2 : Int)], none⟩ := (e1.kept _ (Mem.rd_lt i1)).trans i1
  have j2 := (e1.kept _ (Mem.rd_lt i2)).trans i2
  rw [fa0, oOpt_e, ld2a q1, oOpt_e, fa1, oOpt_e, ld2b j1, oOpt_e, oInt_leq, join_e]
  -- the last question
  have last : ∀ (c : Bool), c = crs h o → (join (fun l19 m20 => uc l19 fun t22 l23 => oPick (.bool c) (.bool true) t22 fun t24 => k t24 m20) fun j21 =>
      oGF (.bool c) (oOpt (ld1 m1 (.pointer (some ⟨pl, 0, none⟩))) fun t25 => oOpt (ldN m1 2 (.pointer (some ⟨m.next, 0, none⟩))) fun t26 => runT (tabC lf) (n + 2) 82 [t25, t26] L m1 fun t27 m28 => oOpt (aun .not t27) fun t29 => j21 [t29] m28) (j21 [Go.undef] m1)) = some () := fun c hc => by
    rw [join_e]
    cases c with
    | true =>
      rw [oGF_t]
      dsimp only
      rw [uc_e, oPick_t]
      have := hk m1 e1
      dsimp only at this
      rw [← hc, Bool.true_or] at this
      exact this
    | false =>
      rw [oGF_f, ldc j2, oOpt_e, ldN2 q1, oOpt_e]
      refine containsE_sp (h := o) hlf (i3.mono e1) hl fun m2 e2 => ?_
      rw [aun_not, oOpt_e]
      dsimp only
      rw [uc_e, oPick_f]
      have := hk m2 (e1.trans e2)
      dsimp only at this
      rw [← hc, Bool.false_or] at this
      exact this
  refine oGT_dec (fun hc => ?_) (fun hc => ?_)
  · rw [fa0, oOpt_e, ld2a j1, oOpt_e, fa1, oOpt_e, ld2b q1, oOpt_e, oInt_leq]
    dsimp only
    rw [uc_e, decide_eq_true hc, oPick_t]
    refine last _ ?_
    unfold crs
    rw [decide_eq_true (show o.1 ≤ h.2 by omega), Bool.true_and]
    exact decide_eq_decide.2 (by omega)
  · dsimp only
    rw [uc_e, decide_eq_false hc, oPick_f]
    refine last false ?_
    unfold crs
    rw [decide_eq_false (show ¬ o.1 ≤ h.2 by omega)]; rfl
theorem apart_sp {M0 : Nat} {v : Value} {l : List Hp} (hlf : 1000000 ≤ lf) (hL : L ≤ m.next) (hv : PG M0 m v l) (hl : l.length ≤ 10) (hr : ∀ h ∈ l, h.1 ≤ h.2 ∧ h.2 ≤ 23) (hk : ∀ u m' pre, Gt m m' → GN m.next m' u pre → pre.length = meetN l → k (.tuple ⟨[u, .int .i64 0]⟩) m' = some ()) :
    runT (tabC lf) (n + 10) 24 [v] L m k = some () := by
  rw [r24]; dsimp only [S24, iofNat, inegSucc]
  have hvd := Vd.any hr
  rw [uc_e, un0_e]
  refine check73_sp (n := n + 7) hlf hL hv.pl hl hr fun m1 e1 => ?_
  have n1 := e1.next
  rw [oInt_neq, show (!decide ((0 : Int) = 0)) = false from rfl, oIf_f]
  refine clone76_sp (by omega) (hv.pl.mono e1) (by omega) fun u2 m2 e2 hu2 hb2 => ?_
  have n2 := e2.next
  obtain ⟨p2, c2, hu2s⟩ := hu2.pl.ex
  refine mk1 (by omega) (by rw [hu2s]; rfl) (by rw [hu2s]; rfl) fun m3 e3 q3 n3 => ?_
  have E3 := (e1.trans e2).trans e3
  rw [ldc q3, oOpt_e]
  refine meetH_sp (n := n + 2) hlf (by omega) (hu2.mono e3).pl (by omega) hvd fun m4 e4 => ?_
  have n4 := e4.next
  have E4 := E3.trans e4
  rw [hv.pl.ln, oOpt_e]
  have hap : apS l (meetN l) l = 0 := apS_zero l l (meetN l) hvd (by
    rw [show (l.filter fun o => decide (o ∈ l)) = l by rw [List.filter_eq_self]; intro a ha; exact decide_eq_true ha]
    exact Nat.le_refl _)
  have hml : meetN l ≤ 10 := by
    obtain ⟨D, d1, d2, d3⟩ := apart_ex hvd
    rw [← d1]
    have := nodup_le (d3.imp_of_mem fun {a b} ha hb hab he => by
      have hva := hvd _ (d2 _ ha)
      rw [← he] at hab
      rcases hab with h | h <;> omega) d2
    omega
  refine loop_up l.length (fun i vs m' => ∃ (lv o : Value) (g : List Hp) (mo : Nat) (pre : List Nat), vs = [.int .i64 (mo : Int), o, .int .i64 (i : Int)] ∧ Gt m m' ∧ m2.next < m'.next ∧ m'.rd m2.next = some ⟨1, [lv], none⟩ ∧ OW m.next m' lv g ∧ GN m.next m' o pre ∧ apS g mo (l.drop i) = 0 ∧ pre.length + mo = meetN l ∧ g.length ≤ 10 ∧ Vd g ∧ (∀ c, bid lv = some c → c < m'.next ∧ c ≠ m2.next ∧ bid o ≠ some c) ∧ ∀ c, bid o = some c → c ≠ m2.next) (by omega)
    ⟨u2, _, l, meetN l, [], rfl, E4, by omega, (e4.kept _ (by omega)).trans q3, ((hu2.mono e3).mono e4).le (by omega), GN.nil _ _, hap, Nat.zero_add _, hl, hvd, fun c hc => ⟨by have := hb2 c hc; omega, by have := hb2 c hc; omega, fun h => by cases h⟩, fun c hc => by cases hc⟩ ?_
  rintro i vs m5 hi ⟨lv, o, g, mo, pre, rfl, e5, n5, q5, hlv, ho, hS, hsum, hgl, hvg, hlb, hob⟩ self hself
  rw [uc_e, uc_e, uc_e, oInt_lss]
  refine oIf_dec (fun hc => ?_) (fun hc => ?_)
  · have hil : i < l.length := by omega
    have hdr : l.drop i = l[i] :: l.drop (i + 1) := List.drop_eq_getElem_cons hil
    have hv5 := hv.mono e5
    have n5' := e5.next
    rw [hdr] at hS
    have hS : (if l[i] ∈ g then (if meetN (restH l[i] g (l.drop (i + 1))) + 1 = mo then apS (restH l[i] g (l.drop (i + 1))) (mo - 1) (l.drop (i + 1)) else apS g mo (l.drop (i + 1))) else apS g mo (l.drop (i + 1))) = 0 := hS
    rw [join_e, hv5.pl.ia hil, oOpt_e, hv5.pl.ldN hil, oOpt_e]
    show (oRes (anew m5 1 [.int .i64 0, .int .i64 0] ptrTo) fun t m' => oRes (st1 2 L m' t (.agg ⟨[.int .i64 (l[i].1 : Int), .int .i64 (l[i].2 : Int)]⟩)) _) = some ()
    refine mk2 (by omega) rfl fun m6 e6 q6 n6 => ?_
    have q56 := (e6.kept _ n5).trans q5
    rw [ldc q56, oOpt_e, ldN2 q6, oOpt_e]
    refine containsE_sp (n := n + 7) (h := l[i]) hlf (hlv.mono e6).pl (by omega) fun m7 e7 => ?_
    have n7 := e7.next
    have e57 := e6.trans e7
    -- nothing changes
    have skip : ∀ m8, Gt m5 m8 → apS g mo (l.drop (i + 1)) = 0 → (oInt .add .i64 (.int .i64 (i : Int)) (.int .i64 1) fun t32 => self [.int .i64 (mo : Int), o, t32] m8) = some () := fun m8 e8 h => by
      have n8 := e8.next
      rw [oInt_add ⟨by omega, by omega⟩]
      exact hself hil _ _ ⟨lv, o, g, mo, pre, rfl, e5.trans e8, by omega, (e8.kept _ n5).trans q5, hlv.mono e8, ho.mono e8, h, hsum, hgl, hvg, fun c hc => ⟨by have := (hlb c hc).1; omega, (hlb c hc).2⟩, hob⟩
    rw [aun_not, oOpt_e, ← decide_not]
    refine oIf_dec (fun hin => ?_) (fun hin => ?_)
    · rw [if_neg hin] at hS
      exact skip m7 e57 hS
    · have hin : l[i] ∈ g := Classical.not_not.1 hin
      rw [if_pos hin] at hS
      obtain ⟨sv, hs1, hs2⟩ := slH (hv5.mono e57) (k := i + 1) (by omega) (by omega)
      rw [oInt_add ⟨by omega, by omega⟩, show (i : Int) + 1 = ((i + 1 : Nat) : Int) by omega, hs1, oOpt_e]
      refine clone76_sp (by omega) hs2 (by rw [List.length_drop]; omega) fun w m8 e8 hw hwb => ?_
      have n8 := e8.next
      have e58 := e57.trans e8
      have hwf := hw.fr
      have hI : ApI m5.next m2.next L l[i] lv g m8 := ⟨((e7.trans e8).kept _ (by omega)).trans q6, (e58.kept _ n5).trans q5, (hlv.mono e58).pl, by omega⟩
      refine deleteH_sp (n := n + 7) (M0 := m7.next) (p := fun o => crs l[i] o || !decide (o ∈ g)) (I := ApI m5.next m2.next L l[i] lv g) hlf (by omega) (by omega) hw (by rw [List.length_drop]; omega) hI (fun a b ha hab hk2 => ?_) (fn83 (n := n + 4) hlf (by omega)) (fn83 (n := n + 5) hlf (by omega)) fun r m9 n9 k9 hr9 hrb => ?_
      · obtain ⟨a1, a2, a3, a4⟩ := ha
        refine ⟨(hk2 _ (Mem.rd_lt a1) fun hc => by have := hwf _ hc; omega).trans a1, (hk2 _ (Mem.rd_lt a2) fun hc => by have := hwf _ hc; omega).trans a2, a3.keep0 fun c hc h0 => hk2 c (a3.bid_lt h0 c hc) fun hcw => ?_, by omega⟩
        have h1 := hwf _ hcw
        have h2 := (hlb c hc).1
        omega
      have e79 : Gt m7 m9 := ⟨by omega, fun c hc => (k9 c (by omega) fun hb => by have := hwf c hb; omega).trans (e8.kept c hc)⟩
      have e59 := e57.trans e79
      have hrl : ((l.drop (i + 1)).filter fun h => !(crs l[i] h || !decide (h ∈ g))) = restH l[i] g (l.drop (i + 1)) := rfl
      rw [hrl] at hr9
      have hvr : Vd (restH l[i] g (l.drop (i + 1))) := fun x hx => hvd x (List.mem_of_mem_drop (mem_rest.1 hx).1)
      have hrl2 : (restH l[i] g (l.drop (i + 1))).length ≤ 10 := by
        have := List.length_filter_le (fun o => !(crs l[i] o || !decide (o ∈ g))) (l.drop (i + 1))
        rw [List.length_drop] at this
        show ((l.drop (i + 1)).filter _).length ≤ 10
        omega
      refine meetH_sp (n := n + 2) hlf (by omega) hr9.pl (by omega) hvr fun m10 e10 => ?_
      have n10 := e10.next
      have e510 := e59.trans e10
      rw [oInt_sub ⟨by omega, by omega⟩, oInt_eql, join_e]
      refine oIf_dec (fun he => ?_) (fun he => ?_)
      · rw [if_pos (by omega)] at hS
        have ho10 := ho.mono e510
        have hob2 : ∀ c, bid o = some c → c < m5.next := fun c hc => (Gs.bid_lt ho c hc).2
        obtain ⟨z, m11, h1, h2, h3, h4, h5⟩ := GL.snocV (P := Tryz.prog) (L := L) (L0 := m.next) (m0 := m) (i : Int) ael22 (by omega) ho10 (by rw [ci_length]; omega) (by omega) (e5.trans e510) (Nat.le_refl _)
        have hz : ci pre ++ [(i : Int)] = ci (pre ++ [i]) := by simp [ci]
        rw [hz] at h2
        have h2 : GN m10.next m11 z (pre ++ [i]) := h2
        rw [oInt_sub ⟨by omega, by omega⟩, bs22, oRes_e, h1, oRes_e]
        have hrw : ∀ c, bid r = some c → m7.next ≤ c ∧ c < m8.next := fun c hc => ⟨hwf c (hrb c hc), hwb c (hrb c hc)⟩
        have q11 : m11.rd m2.next = some ⟨1, [lv], none⟩ := (h5 _ (by omega) fun hb => hob _ hb rfl).trans ((e510.kept _ n5).trans q5)
        obtain ⟨rp, rc, hrs⟩ := hr9.pl.ex
        rw [st1c q11 (by omega) (by rw [hrs]; rfl) (by rw [hrs]; rfl), oRes_e]
        dsimp only
        rw [uc_e, uc_e, uc_e, uc_e, oInt_add ⟨by omega, by omega⟩]
        have hr11 : OW m7.next m11 r (restH l[i] g (l.drop (i + 1))) := (hr9.mono e10).keep fun c hc _ => h5 c (by have := hrw c hc; omega) fun hb => by have := hob2 c hb; have := hrw c hc; omega
        have hzf : ∀ c, bid z = some c → m10.next ≤ c := fun c hc => h2.fr c hc
        refine hself hil _ _ ⟨r, z, _, mo - 1, pre ++ [i], by rw [show (mo : Int) - 1 = ((mo - 1 : Nat) : Int) by omega, show (i : Int) + 1 = ((i + 1 : Nat) : Int) by omega], Mem.put_gt h3 _ (by omega), by show m2.next < m11.next; omega, Mem.rd_put_eq _ _ (by omega), ?_, ?_, hS, by rw [List.length_append]; simp; omega, hrl2, hvr, fun c hc => ?_, fun c hc => by have := hzf c hc; omega⟩
        · exact (hr11.keep fun c hc _ => Mem.rd_put _ _ _ _ (by have := hrw c hc; omega)).le (by omega)
        · exact (h2.keep fun c hc hcm => Mem.rd_put _ _ _ _ (by omega)).le (by omega)
        · have := hrw c hc
          exact ⟨by show c < m11.next; omega, by omega, fun hb => by have := hzf c hb; omega⟩
      · rw [if_neg (by omega)] at hS
        exact skip m10 e510 hS
  · have hie : i = l.length := by omega
    subst hie
    rw [List.drop_length] at hS
    have hS : mo = 0 := hS
    exact hk o m5 pre e5 ho (by omega)
end
end Go.Vit
