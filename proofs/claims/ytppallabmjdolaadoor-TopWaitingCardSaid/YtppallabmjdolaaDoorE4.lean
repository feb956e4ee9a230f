/- Walks of heaps: the earliest end, a plan checked, a plan. -/
import Derived.Test.YtppallabmjdolaaDoorE3
set_option linter.unusedSimpArgs false
set_option linter.unusedVariables false
set_option maxRecDepth 20000
namespace Go.Vit
open Go Go.Proofs
attribute [local irreducible] runT loopS
theorem maxI_e (a b : Int) : abuiltin Tryd.prog .max #[3, 3] [.int .i64 a, .int .i64 b] = some (.int .i64 (max a b)) := by
  show aleast false .i64 a [.int .i64 b] = _
  simp only [aleast, ilt_e]
  by_cases h : a < b
  · rw [decide_eq_true h]; simp only []
    rw [mkI_e, Int.max_eq_right (by omega)]
  · rw [decide_eq_false h]; simp only []
    rw [mkI_e, Int.max_eq_left (by omega)]
theorem minI_e (a b : Int) : abuiltin Tryd.prog .min #[3, 3] [.int .i64 a, .int .i64 b] = some (.int .i64 (min a b)) := by
  show aleast true .i64 a [.int .i64 b] = _
  simp only [aleast, ilt_e]
  by_cases h : b < a
  · rw [decide_eq_true h]; simp only []
    rw [mkI_e, Int.min_eq_right (by omega)]
  · rw [decide_eq_false h]; simp only []
    rw [mkI_e, Int.min_eq_left (by omega)]
/-- The last hour of a heap of one's own is set. -/
theorem OW.set2 {L L0 : Nat} {m : Mem} {v : Value} {l : List Hp} {i : Nat} (y : Nat) (h : OW L0 m v l) (hi : i < l.length) (hL : L ≤ L0) :
    ∃ q m', fa 1 (ep 2 v i) = some q ∧ st1 1 L m q (.int .i64 (y : Int)) = some (Go.undef, m') ∧ OW L0 m' v (l.set i (l[i].1, y)) ∧ m'.next = m.next ∧ ∀ c, bid v ≠ some c → m'.rd c = m.rd c := by
  rcases h with ⟨rfl, rfl⟩ | ⟨_, _, _, rfl, rfl, _⟩ | ⟨b, c, cs, hb, rfl, hr, hcl, hlc, htk⟩
  · exact absurd hi (by simp)
  · exact absurd hi (by simp)
  · have hst := st_set (L := L) (q := i * 2 + 1) (x := .int .i64 (y : Int)) hr (by omega) (by omega) rfl rfl
    refine ⟨_, m.put b (some ⟨2, cs.set (i * 2 + 1) (.int .i64 (y : Int)), none⟩), by show fa 1 (.pointer (some ⟨b, 0 + i * 2, none⟩)) = _; rw [Nat.zero_add, fa_e], hst, .inr (.inr ⟨b, c, _, hb, by rw [List.length_set], Mem.rd_put_eq _ _ (Mem.rd_lt hr), by rw [List.length_set]; exact hcl, by rw [List.length_set]; exact hlc, ?_⟩), rfl, fun c' hc => Mem.rd_put _ _ _ _ fun e => hc (by rw [← e]; rfl)⟩
    rw [List.length_set, pcs_set l i _ hi, ← htk]
    have hat := pcs_at hi
    rw [← htk, List.drop_take, List.take_take, Nat.min_eq_left (by omega)] at hat
    refine List.ext_getElem? fun j => ?_
    have hA : ((cs.take (l.length * 2)).take (i * 2)).length = i * 2 := by rw [List.length_take, List.length_take]; omega
    rw [List.getElem?_take]
    by_cases hj : j < l.length * 2
    · rw [if_pos hj, List.getElem?_set]
      by_cases hj1 : j < i * 2
      · rw [if_neg (by omega), List.getElem?_append_left (by omega), List.getElem?_take, if_pos hj1, List.getElem?_take, if_pos hj]
      · rw [List.getElem?_append_right (by omega), hA]
        by_cases hj2 : j = i * 2
        · subst hj2
          rw [if_neg (by omega), Nat.sub_self]
          have := congrArg (·[0]?) hat
          simp only [List.getElem?_take, List.getElem?_drop] at this
          exact this
        · by_cases hj3 : j = i * 2 + 1
          · subst hj3
            rw [if_pos rfl, if_pos (by omega), show i * 2 + 1 - i * 2 = 1 by omega]
            rfl
          · rw [if_neg (by omega), List.getElem?_append_right (by show 2 ≤ _; omega), List.getElem?_drop, List.getElem?_take]
            show cs[j]? = if i * 2 + 2 + (j - i * 2 - 2) < l.length * 2 then cs[i * 2 + 2 + (j - i * 2 - 2)]? else none
            rw [show i * 2 + 2 + (j - i * 2 - 2) = j by omega, if_pos hj]
    · rw [if_neg hj, List.getElem?_eq_none]
      rw [List.length_append, hA, List.length_append, List.length_drop, List.length_take]
      show i * 2 + (2 + _) ≤ j
      omega
theorem mid_set {α : Type} (A C : List α) (x y : α) {i : Nat} (h : A.length = i) : (A ++ x :: C).set i y = A ++ y :: C := by
  subst h; rw [List.set_append_right _ _ (Nat.le_refl _), Nat.sub_self]; rfl
def capH (e : Nat) (h : Hp) : Hp := (h.1, min h.2 e)
def beg (l : List Hp) : Nat := l.foldl (fun a h => max a h.1) 0
theorem beg_take {l : List Hp} {i : Nat} (hi : i < l.length) : beg (l.take (i + 1)) = max (beg (l.take i)) l[i].1 := by
  unfold beg
  rw [List.take_add_one, List.getElem?_eq_getElem hi, List.foldl_append]; rfl
theorem beg_le : ∀ {l : List Hp} {a e : Nat}, a ≤ e → (∀ h ∈ l, h.1 ≤ e) → l.foldl (fun a h => max a h.1) a ≤ e
  | [], a, e, h, _ => h
  | x :: l, a, e, h, h2 => by
    have := h2 x (List.mem_cons_self ..)
    exact beg_le (l := l) (a := max a x.1) (by omega) fun y hy => h2 y (List.mem_cons_of_mem _ hy)
theorem le_beg : ∀ {l : List Hp} {a : Nat}, a ≤ l.foldl (fun a h => max a h.1) a ∧ ∀ h ∈ l, h.1 ≤ l.foldl (fun a h => max a h.1) a
  | [], a => ⟨Nat.le_refl _, fun h hh => by cases hh⟩
  | x :: l, a => by
    obtain ⟨h1, h2⟩ := le_beg (l := l) (a := max a x.1)
    show a ≤ l.foldl _ (max a x.1) ∧ ∀ h ∈ x :: l, h.1 ≤ l.foldl _ (max a x.1)
    refine ⟨by omega, fun h hh => ?_⟩
    rcases List.mem_cons.1 hh with rfl | hh
    · omega
    · exact h2 h hh
section
variable {lf n L : Nat} {m : Mem} {k : Value → Mem → Option Unit}
set_option maxHeartbeats 1000000 in
theorem finish_sp {E : Nat} {v : Value} {l : List Hp} (hlf : 1000000 ≤ lf) (hL : L ≤ m.next) (hv : PL m v l) (hl : l.length ≤ 10) (hr : ∀ h ∈ l, h.1 ≤ h.2 ∧ h.2 ≤ 23) (h0 : possN l = true)
    (hE1 : beg l ≤ E) (hE2 : E ≤ 23) (hE3 : possN (l.map (capH E)) = true) (hE4 : ∀ e, beg l ≤ e → e < E → possN (l.map (capH e)) = false)
    (hk : ∀ m', Gt m m' → k (.tuple ⟨[.int .i64 (E : Int), .int .i64 0]⟩) m' = some ()) : runT (tab lf) (n + 6) 21 [v, .int .i64 1] L m k = some () := by
  rw [r21]; dsimp only [S21, iofNat, inegSucc]
  rw [uc_e, uc_e, un0_e]
  refine handed_sp (n := n + 2) hlf hL hv hl hr fun m1 e1 => ?_
  have n1 := e1.next
  rw [oInt_neq, decide_eq_true rfl, Bool.not_true, oIf_f]
  refine possible_sp (n := n) hlf (by omega) (hv.mono e1) hl (fun h hh => (hr h hh).2) fun m2 e2 => ?_
  have n2 := e2.next
  rw [h0, aun_not, oOpt_e, Bool.not_true, oIf_f]
  have e02 := e1.trans e2
  have hv2 := hv.mono e02
  rw [hv2.ln, oOpt_e]
  have hb23 : ∀ i, beg (l.take i) ≤ 23 := fun i => beg_le (by omega) fun h hh => by have := hr h (List.mem_of_mem_take hh); omega
  refine loop_up l.length (fun i vs m' => vs = [.int .i64 (beg (l.take i) : Int), .int .i64 (i : Int)] ∧ Gt m m') (by omega) ⟨rfl, e02⟩ ?_
  rintro i vs m3 hi ⟨rfl, e3⟩ self hself
  have n3 := e3.next
  have hv3 := hv.mono e3
  rw [uc_e, uc_e, oInt_lss]
  refine oIf_dec (fun hc => ?_) (fun hc => ?_)
  · have hil : i < l.length := by omega
    rw [hv3.ia hil, oOpt_e, hv3.ldN hil, oOpt_e]
    show (oRes (anew m3 1 [.int .i64 0, .int .i64 0] ptrTo) fun t m' => oRes (st1 2 L m' t (.agg ⟨[.int .i64 (l[i].1 : Int), .int .i64 (l[i].2 : Int)]⟩)) _) = some ()
    refine mk2 (by omega) rfl fun m4 e4 p4 n4 => ?_
    rw [fa0, oOpt_e, ld2a p4, oOpt_e, maxI_e, oOpt_e, oInt_add ⟨by omega, by omega⟩]
    refine hself hil _ _ ⟨?_, e3.trans e4⟩
    rw [beg_take hil]
    congr 2
    omega
  · have hiw : i = l.length := by omega
    subst hiw
    rw [List.take_length]
    clear hself hi hc
    refine clone50_sp (by omega) hv3 (by omega) fun u m4 e4 hu4 => ?_
    have n4 := e4.next
    have e04 := e3.trans e4
    refine loop_of (n := E - beg l) (fun μ vs m' => ∃ (e : Nat) (g : List Hp), vs = [.int .i64 (e : Int)] ∧ μ = E - e ∧ beg l ≤ e ∧ e ≤ E ∧ Gt m m' ∧ m3.next ≤ m'.next ∧ OW m3.next m' u g ∧ g.map Prod.fst = l.map Prod.fst) ?_
      ⟨beg l, l, rfl, rfl, Nat.le_refl _, hE1, e04, n4, hu4, rfl⟩ (by omega)
    rintro μ vs m5 ⟨e, g, rfl, rfl, he1, he2, e5, n5, hu5, hg5⟩ self2 hself2
    rw [uc_e, oOpt_e]
    refine loop_up l.length (fun i vs m' => ∃ r : List Hp, vs = [.int .i64 (i : Int)] ∧ Gt m m' ∧ m3.next ≤ m'.next ∧ OW m3.next m' u ((l.take i).map (capH e) ++ r) ∧ r.map Prod.fst = (l.drop i).map Prod.fst) (by omega) ⟨g, rfl, e5, n5, hu5, hg5⟩ ?_
    rintro i vs m6 hi ⟨r, rfl, e6, n6, hu6, hg6⟩ self3 hself3
    have n6' := e6.next
    have hv6 := hv.mono e6
    rw [uc_e, oInt_lss]
    refine oIf_dec (fun hc => ?_) (fun hc => ?_)
    · have hil : i < l.length := by omega
      rw [hv6.ia hil, oOpt_e, hv6.ldN hil, oOpt_e]
      show (oRes (anew m6 1 [.int .i64 0, .int .i64 0] ptrTo) fun t m' => oRes (st1 2 L m' t (.agg ⟨[.int .i64 (l[i].1 : Int), .int .i64 (l[i].2 : Int)]⟩)) _) = some ()
      refine mk2 (by omega) rfl fun m7 e7 p7 n7 => ?_
      have hu7 := hu6.mono e7
      rw [fa1, oOpt_e, ld2b p7, oOpt_e, minI_e, oOpt_e]
      have hA : ((l.take i).map (capH e)).length = i := by rw [List.length_map, List.length_take]; omega
      rw [List.drop_eq_getElem_cons hil] at hg6
      cases r with
      | nil => cases hg6
      | cons x r =>
        have hx1 : x.1 = l[i].1 := (List.cons.inj hg6).1
        have hr6 : r.map Prod.fst = (l.drop (i + 1)).map Prod.fst := (List.cons.inj hg6).2
        have hlt : i < ((l.take i).map (capH e) ++ x :: r).length := by rw [List.length_append, hA, List.length_cons]; omega
        obtain ⟨q, m8, f8, s8, u8, n8, k8⟩ := hu7.set2 (L := L) (min l[i].2 e) hlt (by omega)
        have hgi : ((l.take i).map (capH e) ++ x :: r)[i] = x := by
          have := mid_get ((l.take i).map (capH e)) r x
          rw [hA, List.getElem?_eq_getElem hlt] at this
          exact Option.some.inj this
        rw [hu7.pl.ia hlt, oOpt_e, f8, oOpt_e, show (min (l[i].2 : Int) (e : Int)) = ((min l[i].2 e : Nat) : Int) by omega, s8, oRes_e, oInt_add ⟨by omega, by omega⟩]
        refine hself3 hil _ _ ⟨r, rfl, ⟨by have := (e6.trans e7).next; omega, fun c hc => (k8 c fun hb => ?_).trans ((e6.trans e7).kept c hc)⟩, by have := e7.next; omega, ?_, hr6⟩
        · have := hu7.fr c hb
          have := e3.next
          omega
        · have hset : ((l.take i).map (capH e) ++ x :: r).set i (((l.take i).map (capH e) ++ x :: r)[i].1, min l[i].2 e) = (l.take (i + 1)).map (capH e) ++ r := by
            rw [hgi, hx1, mid_set _ _ _ _ hA, List.take_add_one, List.getElem?_eq_getElem hil, Option.toList_some, List.map_append, List.append_assoc]
            rfl
          rw [hset] at u8
          exact u8
    · have hiw : i = l.length := by omega
      subst hiw
      rw [List.drop_length] at hg6
      have hr0 : r = [] := by
        cases r with
        | nil => rfl
        | cons x r => cases hg6
      subst hr0
      rw [List.append_nil, List.take_length] at hu6
      refine possible_sp (n := n) hlf (by omega) hu6.pl (by rw [List.length_map]; exact hl) (fun h hh => ?_) fun m7 e7 => ?_
      · obtain ⟨x, hx, rfl⟩ := List.mem_map.1 hh
        have := hr x hx
        show min x.2 e ≤ 23
        omega
      · by_cases heE : e = E
        · subst heE
          rw [hE3, oIf_t]
          exact hk m7 (e6.trans e7)
        · rw [hE4 e he1 (by omega), oIf_f, oInt_add ⟨by omega, by omega⟩]
          have := e7.next
          refine hself2 (E - (e + 1)) _ _ (by omega) ⟨e + 1, _, rfl, rfl, by omega, by omega, e6.trans e7, by omega, hu6.mono e7, ?_⟩
          rw [List.map_map]
          rfl
set_option maxHeartbeats 1000000 in
theorem verify_sp {v p : Value} {l : List Hp} {P : List Nat} (hlf : 1000000 ≤ lf) (hL : L ≤ m.next) (hv : PL m v l) (hp : IN m p P) (hl : l.length ≤ 10) (hr : ∀ h ∈ l, h.1 ≤ h.2 ∧ h.2 ≤ 23) (hPl : P.length = l.length)
    (hin : ∀ i (h : i < l.length) (h' : i < P.length), l[i].1 ≤ P[i] ∧ P[i] ≤ l[i].2) (hnd : P.Nodup) (hk : ∀ m', Gt m m' → k (.int .i64 0) m' = some ()) : runT (tab lf) (n + 4) 23 [v, .int .i64 1, p] L m k = some () := by
  rw [r23]; dsimp only [S23, iofNat, inegSucc]
  rw [uc_e, uc_e, uc_e, un0_e]
  refine handed_sp (n := n) hlf hL hv hl hr fun m1 e1 => ?_
  have n1 := e1.next
  have hv1 := hv.mono e1
  have hp1 := hp.mono e1
  rw [oInt_neq, decide_eq_true rfl, Bool.not_true, oIf_f, hp1.ln, oOpt_e, hv1.ln, oOpt_e, oInt_neq, decide_eq_true (by omega), Bool.not_true, oIf_f]
  show (oRes (anew m1 1 (busyC []) ptrTo) _) = some ()
  rw [anew_eq, oRes_e]
  have gp := Mem.gt_push m1 ⟨1, busyC [], none⟩
  have hr2 : (m1.push ⟨1, busyC [], none⟩).rd m1.next = some ⟨1, busyC (ci []), none⟩ := Mem.rd_push _ _
  have hn2 : (m1.push ⟨1, busyC [], none⟩).next = m1.next + 1 := Mem.push_next _ _
  generalize m1.push ⟨1, busyC [], none⟩ = m2 at gp hr2 hn2 ⊢
  rw [oOpt_e]
  refine loop_up P.length (fun i vs m' => vs = [.int .i64 (i : Int)] ∧ Gt m1 m' ∧ m'.rd m1.next = some ⟨1, busyC (ci (P.take i)), none⟩) (by omega) ⟨rfl, gp, hr2⟩ ?_
  rintro i vs m3 hi ⟨rfl, e3, hr3⟩ self hself
  have n3 := e3.next
  have hb3 := Mem.rd_lt hr3
  have hv3 := hv1.mono e3
  have hp3 := hp1.mono e3
  rw [uc_e, oInt_lss]
  refine oIf_dec (fun hc => ?_) (fun hc => ?_)
  · have hil : i < P.length := by omega
    have hil2 : i < l.length := by omega
    obtain ⟨h1, h2⟩ := hin i hil2 hil
    have h3 := (hr _ (List.getElem_mem hil2)).2
    rw [hp3.ia hil, oOpt_e, hp3.ld hil, oOpt_e, hv3.ia hil2, oOpt_e, hv3.ldN hil2, oOpt_e]
    refine has51_sp (n := n + 1) fun m4 e4 => ?_
    have hr4 := (e4.kept _ hb3).trans hr3
    have n4 := e4.next
    rw [decide_eq_true (by omega), aun_not, oOpt_e, Bool.not_true, oIf_f]
    have hP24 : P[i] < 24 := by omega
    have hni : ¬ ((P[i] : Nat) : Int) ∈ ci (P.take i) := by
      intro hm
      rw [mem_ci] at hm
      have hs : P.take (i + 1) = P.take i ++ [P[i]] := by rw [List.take_add_one, List.getElem?_eq_getElem hil]; rfl
      have hnd2 : (P.take (i + 1)).Nodup := List.Sublist.nodup (List.take_sublist _ _) hnd
      rw [hs, List.nodup_append] at hnd2
      exact hnd2.2.2 _ hm _ (List.mem_singleton.2 rfl) rfl
    have hia : iaA 24 1 (ptrTo m1.next) (.int .i64 ((P[i] : Nat) : Int)) = some (.pointer (some ⟨m1.next, P[i], none⟩)) := by
      have := iaA_k (b := m1.next) (o := 0) hP24
      rw [Nat.zero_add] at this
      exact this
    have hld : ∀ (mm : Mem) (c : List Value) (x : Value), mm.rd m1.next = some ⟨1, c, none⟩ → c[P[i]]? = some x → ld1 mm (.pointer (some ⟨m1.next, P[i], none⟩)) = some x := fun mm c x h1 h2 => by rw [ld1_u, h1, rdo_e]; exact h2
    have hg := busyC_get (l := ci (P.take i)) hP24
    rw [if_neg hni] at hg
    have hst := st_set (L := L) (q := P[i]) (x := .int .i64 1) hr4 (by rw [busyC_len]; exact hP24) (by omega) rfl rfl
    rw [busyC_set hP24] at hst
    have hs : ci (P.take i) ++ [((P[i] : Nat) : Int)] = ci (P.take (i + 1)) := by rw [← ci_snoc, List.take_add_one, List.getElem?_eq_getElem hil]; rfl
    rw [hs] at hst
    have hr5 := Mem.rd_put_eq m4 (some ⟨1, busyC (ci (P.take (i + 1))), none⟩) (Mem.rd_lt hr4)
    have hg5 := busyC_get (l := ci (P.take (i + 1))) hP24
    rw [if_pos (by rw [← hs]; exact List.mem_append_right _ (List.mem_singleton.2 rfl))] at hg5
    rw [hia, oOpt_e, hld m4 _ _ hr4 hg, oOpt_e, oInt_add ⟨by omega, by omega⟩, oOpt_e]
    show (oRes (st1 1 L m4 (.pointer (some ⟨m1.next, P[i], none⟩)) (.int .i64 1)) _) = some ()
    rw [hst, oRes_e, oOpt_e, hld _ _ _ hr5 hg5, oOpt_e, oInt_gtr, decide_eq_false (by omega), oIf_f, oInt_add ⟨by omega, by omega⟩]
    refine hself hil _ _ ⟨rfl, Mem.put_gt (e3.trans e4) _ (by omega), hr5⟩
  · exact hk m3 (e1.trans e3)
set_option maxHeartbeats 1000000 in
/-- Whether there is a plan. -/
theorem plan_sp {v : Value} {l : List Hp} (hlf : 1000000 ≤ lf) (hL : L ≤ m.next) (hv : PL m v l) (hl : l.length ≤ 10) (hr : ∀ h ∈ l, h.1 ≤ h.2 ∧ h.2 ≤ 23)
    (hk : ∀ u m', Gt m m' → k (.tuple ⟨[u, .int .i64 (if possN l = true then 0 else 12)]⟩) m' = some ()) : runT (tab lf) (n + 6) 24 [v, .int .i64 1] L m k = some () := by
  rw [r24]; dsimp only [S24, iofNat, inegSucc]
  rw [uc_e, uc_e, un0_e]
  refine handed_sp (n := n + 2) hlf hL hv hl hr fun m1 e1 => ?_
  have n1 := e1.next
  rw [oInt_neq, decide_eq_true rfl, Bool.not_true, oIf_f]
  refine possible_sp (n := n) hlf (by omega) (hv.mono e1) hl (fun h hh => (hr h hh).2) fun m2 e2 => ?_
  have n2 := e2.next
  have e02 := e1.trans e2
  rw [aun_not, oOpt_e]
  refine oIf_bool (fun hb => ?_) (fun hb => ?_)
  · have := hk (.slice none 0 0) m2 e02
    rw [if_neg (by simpa using hb)] at this
    exact this
  · rw [if_pos (by simpa using hb)] at hk
    have hv2 := hv.mono e02
    refine clone50_sp (by omega) hv2 (by omega) fun u m3 e3 hu3 => ?_
    have n3 := e3.next
    have e03 := e02.trans e3
    have hub : 0 < l.length → ∀ c, bid u = some c → c < m3.next := fun h0 => hu3.lt h0
    rw [(hv.mono e03).ln, oOpt_e]
    refine loop_up l.length (fun i vs m' => ∃ (ov : Value) (lo : List Int) (g : List Hp), vs = [ov, .int .i64 (i : Int)] ∧ Gt m m' ∧ m3.next ≤ m'.next ∧ GL m3.next m' ov lo ∧ lo.length ≤ i ∧ OW m2.next m' u g ∧ g.length = l.length ∧ ∀ h ∈ g, h.2 ≤ 23) (by omega)
      ⟨_, [], l, rfl, e03, Nat.le_refl _, GL.nil _ _, Nat.le_refl _, hu3, rfl, fun h hh => (hr h hh).2⟩ ?_
    rintro i vs m4 hi ⟨ov, lo, g, rfl, e4, n4, hov, hlo, hu4, hgl, hg23⟩ self hself
    have n4' := e4.next
    have hv4 := hv.mono e4
    rw [uc_e, uc_e, oInt_lss]
    refine oIf_dec (fun hc => ?_) (fun hc => ?_)
    · have hil : i < l.length := by omega
      obtain ⟨hr1, hr2⟩ := hr _ (List.getElem_mem hil)
      rw [hv4.ia hil, oOpt_e, hv4.ldN hil, oOpt_e]
      show (oRes (anew m4 1 [.int .i64 0, .int .i64 0] ptrTo) fun t m' => oRes (st1 2 L m' t (.agg ⟨[.int .i64 (l[i].1 : Int), .int .i64 (l[i].2 : Int)]⟩)) _) = some ()
      refine mk2 (by omega) rfl fun m5 e5 p5 n5 => ?_
      rw [fa0, oOpt_e, ld2a p5, oOpt_e, join_e]
      have hnot : ∀ c, bid u = some c → c ≠ m4.next := fun c hb => by have := hub (by omega) c hb; omega
      refine loop_up (l[i].2 + 1 - l[i].1) (fun j vs m' => ∃ (g : List Hp), vs = [ov, .int .i64 ((l[i].1 : Int) + (j : Int))] ∧ Gt m m' ∧ m4.next < m'.next ∧ m'.rd m4.next = some ⟨1, [.int .i64 (l[i].1 : Int), .int .i64 (l[i].2 : Int)], none⟩ ∧ GL m3.next m' ov lo ∧ OW m2.next m' u g ∧ g.length = l.length ∧ ∀ h ∈ g, h.2 ≤ 23) (by omega)
        ⟨g, by rw [show (l[i].1 : Int) + ((0 : Nat) : Int) = (l[i].1 : Int) by omega], e4.trans e5, by omega, p5, hov.mono e5, hu4.mono e5, hgl, hg23⟩ ?_
      rintro j vs m6 hj ⟨g6, rfl, e6, n6, p6, hov6, hu6, hgl6, hg236⟩ self2 hself2
      have n6' := e6.next
      rw [uc_e, uc_e, fa1, oOpt_e, ld2b p6, oOpt_e, oInt_leq]
      refine oIf_dec (fun hc2 => ?_) (fun hc2 => ?_)
      · have hcast : (l[i].1 : Int) + (j : Int) = ((l[i].1 + j : Nat) : Int) := by omega
        rw [hcast, bu45, oOpt_e]
        have hig : i < g6.length := by omega
        rw [hu6.pl.ia hig, oOpt_e]
        obtain ⟨m7, s7, u7, n7, k7⟩ := hu6.set (L := L) (l[i].1 + j, l[i].1 + j) hig (by omega)
        have s7' : st1 2 L m6 (ep 2 u i) (.agg ⟨[.int .i64 ((l[i].1 + j : Nat) : Int), .int .i64 ((l[i].1 + j : Nat) : Int)]⟩) = some (Go.undef, m7) := s7
        rw [s7', oRes_e]
        have e7 : Gt m m7 := ⟨by omega, fun c hc => (k7 c fun hb => by have := hu6.fr c hb; omega).trans (e6.kept c hc)⟩
        have p7 : m7.rd m4.next = some ⟨1, [.int .i64 (l[i].1 : Int), .int .i64 (l[i].2 : Int)], none⟩ := (k7 _ fun hb => hnot _ hb rfl).trans p6
        have hov7 : GL m3.next m7 ov lo := hov6.keep fun c hc hlc => k7 c fun hb => by have := hub (by omega) c hb; omega
        have hg237 : ∀ h ∈ g6.set i (l[i].1 + j, l[i].1 + j), h.2 ≤ 23 := fun h hh => by
          rcases List.mem_or_eq_of_mem_set hh with hh | rfl
          · exact hg236 h hh
          · show l[i].1 + j ≤ 23; omega
        have hgl7 : (g6.set i (l[i].1 + j, l[i].1 + j)).length = l.length := by rw [List.length_set]; exact hgl6
        refine possible_sp (n := n) hlf (by omega) u7.pl (by omega) hg237 fun m8 e8 => ?_
        have n8 := e8.next
        refine oIf_bool (fun hb2 => ?_) (fun hb2 => ?_)
        · rw [bs22, oRes_e]
          obtain ⟨u9, m9, s9, h9, e9, n9, k9⟩ := GL.snocV (P := Tryd.prog) (L := L) (m0 := m) (m := m8) ((l[i].1 + j : Nat) : Int) ael22 (by omega) (hov7.mono e8) (by omega) (by omega) (e7.trans e8) (by omega)
          rw [s9, oRes_e]
          (try dsimp only)
          rw [uc_e, oInt_add ⟨by omega, by omega⟩]
          refine hself hil _ _ ⟨u9, _, _, rfl, e9, by omega, h9.le (by omega), by rw [List.length_append]; simp; omega, (u7.mono e8).keep fun c hc _ hlt => k9 c hlt fun hb => ?_, hgl7, hg237⟩
          have h10 := (Gs.bid_lt hov7 c hb).1
          have := hub (by omega) c hc
          omega
        · rw [oInt_add ⟨by omega, by omega⟩]
          refine hself2 (by omega) _ _ ⟨_, ?_, e7.trans e8, by omega, (e8.kept _ (by omega)).trans p7, hov7.mono e8, u7.mono e8, hgl7, hg237⟩
          congr 3
      · (try dsimp only)
        rw [uc_e, oInt_add ⟨by omega, by omega⟩]
        exact hself hil _ _ ⟨ov, lo, g6, rfl, e6, by omega, hov6, by omega, hu6, hgl6, hg236⟩
    · exact hk ov m4 e4
end
end Go.Vit
