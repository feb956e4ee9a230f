/- Walks of heaps: checked, copied, deleted from. -/
import Derived.Test.YtppallabmjdolaaGreatDoorH1
set_option linter.unusedSimpArgs false
set_option linter.unusedVariables false
set_option maxRecDepth 20000
namespace Go.Vit
open Go Go.Proofs
attribute [local irreducible] runT loopS
theorem u47 : Tryz.prog.underlying 47 = some (.slice 49) := by kernel_rfl
theorem ts49 : tsize Tryz.prog 49 = some 2 := by kernel_rfl
theorem az49 : azero Tryz.prog 49 = some [.int .i64 0, .int .i64 0] := by kernel_rfl
theorem ael47 : aelem Tryz.prog 47 = some (2, 16) := by kernel_rfl
theorem bs470 (m : Mem) : bs Tryz.prog m 47 0 [] = some (slTo0 0 m.next, m.push ⟨2, [], none⟩) := (show _ = anew m 2 [] (slTo0 0) by kernel_rfl).trans (anew_eq ..)
theorem abin_hnil (p : Option Addr) (n c : Nat) : abin Tryz.prog .eql 47 (.slice p n c) (.slice none 0 0) = some (.bool p.isNone) := by
  cases p with
  | none => kernel_rfl
  | some a => kernel_rfl
/-- Heaps of one's own: rows at the head of a block. -/
def OW (L : Nat) (m : Mem) (v : Value) (l : List Hp) : Prop := (v = .slice none 0 0 ∧ l = []) ∨ (∃ b x c, v = .slice (some ⟨b, 0, x⟩) 0 c ∧ l = [] ∧ L ≤ b) ∨ ∃ b c cs, L ≤ b ∧ v = .slice (some ⟨b, 0, none⟩) l.length c ∧ m.rd b = some ⟨2, cs, none⟩ ∧ cs.length = c * 2 ∧ l.length ≤ c ∧ cs.take (l.length * 2) = pcs l
theorem OW.mono {L : Nat} {m m' : Mem} {v : Value} {l : List Hp} (h : OW L m v l) (e : Gt m m') : OW L m' v l := by
  rcases h with h | h | ⟨b, c, cs, h1, h2, h3, h4⟩
  · exact .inl h
  · exact .inr (.inl h)
  · exact .inr (.inr ⟨b, c, cs, h1, h2, (e.kept b (Mem.rd_lt h3)).trans h3, h4⟩)
theorem OW.keep {L : Nat} {m m' : Mem} {v : Value} {l : List Hp} (h : OW L m v l) (hk : ∀ c, bid v = some c → L ≤ c → m'.rd c = m.rd c) : OW L m' v l := by
  rcases h with h | h | ⟨b, c, cs, h1, h2, h3, h4⟩
  · exact .inl h
  · exact .inr (.inl h)
  · exact .inr (.inr ⟨b, c, cs, h1, h2, (hk b (by rw [h2]; rfl) h1).trans h3, h4⟩)
theorem OW.le {L L' : Nat} {m : Mem} {v : Value} {l : List Hp} (h : OW L m v l) (hl : L' ≤ L) : OW L' m v l := by
  rcases h with h | ⟨b, x, c, h1, h2, h3⟩ | ⟨b, c, cs, h1, h2⟩
  · exact .inl h
  · exact .inr (.inl ⟨b, x, c, h1, h2, by omega⟩)
  · exact .inr (.inr ⟨b, c, cs, by omega, h2⟩)
theorem OW.fr {L : Nat} {m : Mem} {v : Value} {l : List Hp} (h : OW L m v l) : Fsh L v := fun q hq => by
  rcases h with ⟨rfl, _⟩ | ⟨b, x, c, rfl, _, h3⟩ | ⟨b, c, cs, h1, rfl, _⟩
  · cases hq
  · cases hq; exact h3
  · cases hq; exact h1
theorem OW.pl {L : Nat} {m : Mem} {v : Value} {l : List Hp} (h : OW L m v l) : PL m v l := by
  rcases h with ⟨rfl, rfl⟩ | ⟨b, x, c, rfl, rfl, _⟩ | ⟨b, c, cs, h1, rfl, h3, h4, h5, h6⟩
  · exact PL.nil m
  · exact ⟨rfl, .inr ⟨b, 0, x, c, rfl⟩⟩
  · refine ⟨?_, .inr ⟨_, _, _, _, rfl⟩⟩
    cases hl : l.length with
    | zero => rw [List.length_eq_zero_iff.1 hl]; rfl
    | succ n =>
      have e1 : rdc m b 0 ((n + 1) * 2) = some (pcs l) := by
        rw [rdc_e h3 (by omega), List.drop_zero, ← h6, hl]
      simp only [asrc]
      rw [show Nat.mul (n + 1) 2 = (n + 1) * 2 from rfl, e1]
theorem PG.ow {L : Nat} {m : Mem} {v : Value} {l : List Hp} (h : PG L m v l) : OW L m v l := by
  rcases h with ⟨h1, h2, h3⟩ | ⟨b, h1, h2, h3, h4, h5⟩
  · exact .inl ⟨h1, List.length_eq_zero_iff.1 h2⟩
  · exact .inr (.inr ⟨b, _, pcs l, h1, h2, h3, h4, Nat.le_refl _, by rw [← h4, List.take_length]⟩)
/-- A function value that answers by p at heaps. -/
def FnH (call : CallK Unit) (fv : Value) (L : Nat) (I : Mem → Prop) (l : List Hp) (p : Hp → Bool) : Prop :=
  ∀ (m : Mem) (h : Hp) (k : Value → Mem → Option Unit), I m → h ∈ l → (∀ m', Gt m m' → k (.bool (p h)) m' = some ()) → oCallV call fv [.agg ⟨row2 h⟩] L m k = some ()
section
variable {lf n L : Nat} {m : Mem} {k : Value → Mem → Option Unit}
theorem between_sp (a b c : Int) (hk : k (.bool (decide (a ≤ b ∧ b ≤ c))) m = some ()) : runT (tabC lf) (n + 1) 74 [.int .i64 a, .int .i64 b, .int .i64 c] L m k = some () := by
  rw [r74]; dsimp only [S74, iofNat, inegSucc]
  rw [uc_e, uc_e, uc_e, un0_e, oInt_leq, join_e]
  refine oGT_dec (fun h => ?_) (fun h => ?_)
  · rw [oInt_leq]
    dsimp only
    rw [uc_e, decide_eq_true h, oPick_t]
    rw [show decide (a ≤ b ∧ b ≤ c) = decide (b ≤ c) from decide_eq_decide.2 ⟨fun h => h.2, fun h2 => ⟨h, h2⟩⟩] at hk
    exact hk
  · dsimp only
    rw [uc_e, decide_eq_false h, oPick_f]
    rw [decide_eq_false (fun h2 => h h2.1)] at hk
    exact hk
theorem has_e (h : Hp) (x : Nat) : decide ((h.1 : Int) ≤ (x : Int) ∧ (x : Int) ≤ (h.2 : Int)) = hasH h x := by
  unfold hasH
  rw [← Bool.decide_and]
  exact decide_eq_decide.2 (by omega)
theorem has75_sp {h : Hp} {x : Nat} (hk : ∀ m', Gt m m' → k (.bool (hasH h x)) m' = some ()) : runT (tabC lf) (n + 2) 75 [.agg ⟨row2 h⟩, .int .i64 (x : Int)] L m k = some () := by
  rw [r75]; dsimp only [S75, iofNat, inegSucc]
  rw [uc_e, uc_e, un0_e]
  show (oRes (abox m (.agg ⟨[.int .i64 (h.1 : Int), .int .i64 (h.2 : Int)]⟩)) _) = some ()
  refine bx2 fun m1 e1 q1 n1 => ?_
  rw [fa0, oOpt_e, ld2a q1, oOpt_e, fa1, oOpt_e, ld2b q1, oOpt_e]
  refine between_sp _ _ _ ?_
  rw [has_e]
  exact hk m1 e1
theorem check73_sp {v : Value} {l : List Hp} (hlf : 1000000 ≤ lf) (hL : L ≤ m.next) (hv : PL m v l) (hl : l.length ≤ 10) (hr : ∀ h ∈ l, h.1 ≤ h.2 ∧ h.2 ≤ 23) (hk : ∀ m', Gt m m' → k (.int .i64 0) m' = some ()) :
    runT (tabC lf) (n + 2) 73 [v] L m k = some () := by
  rw [r73]; dsimp only [S73, iofNat, inegSucc]
  rw [uc_e, un0_e, hv.ln, oOpt_e, oInt_gtr, decide_eq_false (by omega), oIf_f, oOpt_e]
  refine loop_up l.length (fun i vs m' => vs = [.int .i64 (i : Int)] ∧ Gt m m') (by omega) ⟨rfl, Gt.refl _⟩ ?_
  rintro i vs m1 hi ⟨rfl, e1⟩ self hself
  have n1 := e1.next
  rw [uc_e, oInt_lss]
  refine oIf_dec (fun hc => ?_) (fun hc => ?_)
  · have hil : i < l.length := by omega
    have hvm := hv.mono e1
    obtain ⟨h1, h2⟩ := hr _ (List.getElem_mem hil)
    rw [hvm.ia hil, oOpt_e, hvm.ldN hil, oOpt_e]
    show (oRes (anew m1 1 [.int .i64 0, .int .i64 0] ptrTo) fun t m' => oRes (st1 2 L m' t (.agg ⟨[.int .i64 (l[i].1 : Int), .int .i64 (l[i].2 : Int)]⟩)) _) = some ()
    refine mk2 (by omega) rfl fun m2 e2 q2 n2 => ?_
    rw [fa0, oOpt_e, ld2a q2, oOpt_e]
    refine between_sp _ _ _ ?_
    rw [decide_eq_true (by omega), aun_not, oOpt_e, Bool.not_true, join_e, oGF_f, fa1, oOpt_e, ld2b q2, oOpt_e]
    refine between_sp _ _ _ ?_
    rw [decide_eq_true (by omega), aun_not, oOpt_e, Bool.not_true]
    dsimp only
    rw [uc_e, oPick_f, oIf_f, oOpt_e, ld2a q2, oOpt_e, oOpt_e, ld2b q2, oOpt_e, oInt_gtr, decide_eq_false (by omega), oIf_f, oInt_add ⟨by omega, by omega⟩]
    exact hself hil _ _ ⟨rfl, e1.trans e2⟩
  · exact hk m1 e1
theorem clone76_sp {v : Value} {l : List Hp} (hL : L ≤ m.next) (hv : PL m v l) (hl : l.length < 1000) (hk : ∀ u m', Gt m m' → OW m.next m' u l → (∀ c, bid u = some c → c < m'.next) → k u m' = some ()) : runT (tabC lf) (n + 1) 76 [v] L m k = some () := by
  rw [r76]; dsimp only [S76, iofNat, inegSucc]
  obtain ⟨p, c, rfl⟩ := hv.ex
  rw [uc_e, un0_e, abin_hnil, oOpt_e]
  cases p with
  | none =>
    have hl0 : l = [] := by
      rcases hv.2 with h | ⟨b, o, x, c', h⟩
      · injection h with _ h _; exact List.length_eq_zero_iff.1 h
      · cases h
    exact hk _ m (Gt.refl _) (.inl ⟨rfl, hl0⟩) fun c hc => by cases hc
  | some a =>
    rw [show Option.isNone (some a) = false from rfl, oIf_f, bs470, oRes_e]
    have e1 := Mem.gt_push m ⟨2, [], none⟩
    have q1 : (m.push ⟨2, [], none⟩).rd m.next = some ⟨2, [], none⟩ := Mem.rd_push _ _
    have n1 : (m.push ⟨2, [], none⟩).next = m.next + 1 := Mem.push_next _ _
    have hv1 := hv.mono e1
    generalize m.push ⟨2, [], none⟩ = m1 at e1 q1 n1 hv1 ⊢
    by_cases h0 : l = []
    · subst h0
      have hx : asrc m1 2 (.slice (some a) ([] : List Hp).length c) = some (0, []) := hv1.1
      have : aappend Tryz.prog L m1 47 (slTo0 0 m.next) (.slice (some a) ([] : List Hp).length c) = some (slTo0 0 m.next, m1) := by
        unfold aappend slTo0
        rw [ael47]
        simp only [hx, ble_t (Nat.le_refl 0)]
      rw [this, oRes_e]
      exact hk _ m1 e1 (.inr (.inl ⟨m.next, some 0, 0, rfl, rfl, Nat.le_refl _⟩)) fun c hc => by cases hc; omega
    · obtain ⟨j, hj⟩ : ∃ j, l.length = j + 1 := ⟨l.length - 1, by have := List.length_pos_iff.2 h0; omega⟩
      have h1 : asrc m1 2 (.slice (some a) l.length c) = some (j + 1, pcs l) := by rw [← hj]; exact hv1.1
      have hr := roomy_of (n := j + 1) (y := 16) (by omega) (by omega)
      have : aappend Tryz.prog L m1 47 (slTo0 0 m.next) (.slice (some a) l.length c) = some (slTo (j + 1) m1.next, m1.push ⟨2, pcs l, none⟩) := by
        unfold aappend slTo0
        rw [ael47]
        have hrd : rdc m1 m.next 0 (Nat.mul 0 2) = some [] := rdc_e (s := 2) q1 (by decide)
        have hn0 : Nat.add 0 (Nat.succ j) = j + 1 := Nat.zero_add _
        have hr' : roomy (j + 1) 16 = true := hr
        simp only [h1, ble_t (Nat.le_refl 0), natK_eq, hn0, hr', hrd, List.nil_append, anew_eq]
        rfl
      rw [this, oRes_e]
      refine hk _ _ (e1.trans (Mem.gt_push _ _)) ?_ fun c hc => by cases hc; rw [Mem.push_next]; omega
      have : PG m1.next (m1.push ⟨2, pcs l, none⟩) (slTo l.length m1.next) l := .inr ⟨m1.next, Nat.le_refl _, rfl, Mem.rd_push _ _, pcs_len l, by omega⟩
      rw [← hj]
      exact this.ow.le (by omega)
/-- The first heap that is asked for. -/
theorem indexH_sp {v fv : Value} {l : List Hp} {p : Hp → Bool} {I : Mem → Prop} (hlf : 1000000 ≤ lf) (hv : PL m v l) (hl : l.length < 1000) (h0 : I m) (hI : ∀ m1 m2, I m1 → Gt m1 m2 → I m2) (hf : FnH (runT (tabC lf) n) fv L I l p)
    (hno : ∀ m', Gt m m' → I m' → (∀ h ∈ l, p h = false) → k (.int .i64 (-1)) m' = some ()) (hyes : ∀ i m', Gt m m' → I m' → (hi : i < l.length) → p l[i] = true → (∀ h ∈ l.take i, p h = false) → k (.int .i64 (i : Int)) m' = some ()) :
    runT (tabC lf) (n + 1) 130 [v, fv] L m k = some () := by
  rw [r130]; dsimp only [S130, iofNat, inegSucc]
  rw [uc_e, uc_e, un0_e, hv.ln, oOpt_e]
  refine loop_up l.length (fun i vs m' => vs = [.int .i64 (i : Int)] ∧ Gt m m' ∧ I m' ∧ ∀ h ∈ l.take i, p h = false) (by omega) ⟨rfl, Gt.refl _, h0, fun j h => by simp at h⟩ ?_
  rintro i vs m1 hi ⟨rfl, e1, hI1, hp⟩ self hself
  rw [uc_e, oInt_lss]
  refine oIf_dec (fun hc => ?_) (fun hc => ?_)
  · have hil : i < l.length := by omega
    have hvm := hv.mono e1
    rw [hvm.ia hil, oOpt_e, hvm.ldN hil, oOpt_e]
    refine hf m1 l[i] _ hI1 (List.getElem_mem hil) fun m2 e2 => ?_
    refine oIf_bool (fun h3 => ?_) (fun h3 => ?_)
    · exact hyes i m2 (e1.trans e2) (hI _ _ hI1 e2) hil h3 hp
    · rw [oInt_add ⟨by omega, by omega⟩]
      refine hself hil _ _ ⟨rfl, e1.trans e2, hI _ _ hI1 e2, fun h hh => ?_⟩
      rw [List.take_add_one, List.getElem?_eq_getElem hil] at hh
      rcases List.mem_append.1 hh with hh | hh
      · exact hp h hh
      · rw [Option.toList_some, List.mem_singleton] at hh
        rw [hh]; exact h3
  · rw [show (-(0 + 1) : Int) = -1 from rfl]
    exact hno m1 e1 hI1 fun h hh => hp h (by rw [List.take_of_length_le (by omega)]; exact hh)
theorem containsH_sp {v fv : Value} {l : List Hp} {p : Hp → Bool} {I : Mem → Prop} (hlf : 1000000 ≤ lf) (hv : PL m v l) (hl : l.length < 1000) (h0 : I m) (hI : ∀ m1 m2, I m1 → Gt m1 m2 → I m2) (hf : FnH (runT (tabC lf) n) fv L I l p)
    (hk : ∀ m', Gt m m' → k (.bool (l.any p)) m' = some ()) : runT (tabC lf) (n + 2) 80 [v, fv] L m k = some () := by
  rw [r80]; dsimp only [S80, iofNat, inegSucc]
  rw [uc_e, uc_e, un0_e]
  refine indexH_sp hlf hv hl h0 hI hf (fun m1 e1 _ hno => ?_) (fun i m1 e1 _ hi hyes _ => ?_)
  · have := hk m1 e1
    rw [show l.any p = false by rw [List.any_eq_false]; intro x hx; simp [hno x hx]] at this
    rw [oInt_geq, decide_eq_false (by omega)]
    exact this
  · have := hk m1 e1
    rw [show l.any p = true from List.any_eq_true.2 ⟨_, List.getElem_mem hi, hyes⟩] at this
    rw [oInt_geq, decide_eq_true (by omega)]
    exact this
theorem sl_from {P : Program} {t e : TypeId} {s : Nat} (ht : P.underlying t = some (.slice e)) (hs : tsize P e = some s) {b n c k : Nat} (hk : k ≤ n) (hc : k < c) (hn : n ≤ c) :
    sl P t (.slice (some ⟨b, 0, none⟩) n c) (some (.int .i64 (k : Int))) none none = some (.slice (some ⟨b, k * s, none⟩) (n - k) (c - k)) := by
  by_cases h0 : 0 < k
  · have := sl_lo ht hs (b := b) (o := 0) h0 hk hc hn
    rwa [Nat.zero_add] at this
  · have : k = 0 := by omega
    subst this
    unfold sl aslice
    rw [ht]
    simp only [hs, Option.map_some, Option.map_none]
    have h1 : abound (tri (some (.int .i64 ((0 : Nat) : Int))) none none) (some (.tmp 0)) 0 = some 0 := rfl
    have h2 : abounds (tri (some (.int .i64 ((0 : Nat) : Int))) none none) n c (some (.tmp 0)) none none = some (0, n, c) := by
      unfold abounds
      simp only [abound_none, h1, ble_t (Nat.zero_le n), ble_t hn, ble_t (Nat.le_refl c), Bool.and_self]
    simp only [h2, beq_f (show c ≠ 0 by omega)]
    simp
theorem zrow_len (x y : Value) : ∀ n, (azrow [x, y] n).length = n * 2
  | 0 => rfl
  | n + 1 => by show (x :: y :: azrow [x, y] n).length = _; simp [zrow_len x y n]; omega
theorem zrow_one (a b : Int) : ∀ n, allOne (azrow [.int .i64 a, .int .i64 b] n) = true
  | 0 => rfl
  | n + 1 => zrow_one a b n
theorem aclear47 {b o j c : Nat} {x : Option Nat} {s : Nat} {cs : List Value} (hL : L ≤ b) (h : m.rd b = some ⟨s, cs, none⟩) (hn : o + j * 2 ≤ cs.length) :
    ∃ cs', aclear Tryz.prog L m 47 (.slice (some ⟨b, o, x⟩) j c) = some (Go.undef, (match j with | 0 => m | _ => m.put b (some ⟨s, cs', none⟩))) ∧ cs'.length = cs.length ∧ cs'.take o = cs.take o := by
  cases j with
  | zero =>
    refine ⟨cs, ?_, rfl, rfl⟩
    unfold aclear
    simp only [u47]
  | succ j =>
    have hz := zrow_len (.int .i64 0) (.int .i64 0) (j + 1)
    refine ⟨cs.take o ++ (azrow [.int .i64 0, .int .i64 0] (j + 1) ++ cs.drop (o + (j + 1) * 2)), ?_, ?_, ?_⟩
    · unfold aclear
      rw [u47]
      simp only [az49]
      have : awr L m b o (azrow [.int .i64 0, .int .i64 0] (Nat.succ j)) = some (m.put b (some ⟨s, cs.take o ++ (azrow [.int .i64 0, .int .i64 0] (j + 1) ++ cs.drop (o + (j + 1) * 2)), none⟩)) := by
        have hz2 : (azrow [.int .i64 0, .int .i64 0] (Nat.succ j)).length = (j + 1) * 2 := hz
        unfold awr
        simp only [ble_t hL, h, show Nat.add o (azrow [.int .i64 0, .int .i64 0] (Nat.succ j)).length = o + (j + 1) * 2 from by rw [hz2]; rfl, ble_t hn, zrow_one, Bool.and_self]
      rw [this]
    · rw [List.length_append, List.length_append, List.length_take, hz, List.length_drop]; omega
    · rw [List.take_append_of_le_length (by rw [List.length_take]; omega), List.take_take, Nat.min_self]
theorem row_of {cs : List Value} {l : List Hp} {j : Nat} (h : cs.take (l.length * 2) = pcs l) (hj : j < l.length) : (cs.drop (j * 2)).take 2 = row2 l[j] := by
  rw [← pcs_at hj, ← h, List.drop_take, List.take_take, Nat.min_eq_left (by omega)]
/-- slices.DeleteFunc, in place. -/
theorem deleteH_sp {M0 : Nat} {v fv : Value} {l : List Hp} {p : Hp → Bool} {I : Mem → Prop} (hlf : 1000000 ≤ lf) (hLM : L ≤ M0) (hLn : L ≤ m.next) (hv : OW M0 m v l) (hl : l.length < 1000) (h0 : I m)
    (hI : ∀ m1 m2, I m1 → m1.next ≤ m2.next → (∀ c, c < m1.next → bid v ≠ some c → m2.rd c = m1.rd c) → I m2) (hf : FnH (runT (tabC lf) n) fv L I l p) (hf2 : FnH (runT (tabC lf) (n + 1)) fv L I l p)
    (hk : ∀ u m', m.next ≤ m'.next → (∀ c, c < m.next → bid v ≠ some c → m'.rd c = m.rd c) → OW M0 m' u (l.filter fun h => !p h) → (∀ c, bid u = some c → bid v = some c) → k u m' = some ()) :
    runT (tabC lf) (n + 2) 77 [v, fv] L m k = some () := by
  rw [r77]; dsimp only [S77, iofNat, inegSucc]
  rw [uc_e, uc_e, un0_e]
  have hIg : ∀ m1 m2, I m1 → Gt m1 m2 → I m2 := fun m1 m2 h e => hI m1 m2 h e.next fun c hc _ => e.kept c hc
  have hfi : FnH (runT (tabC lf) n) fv L I l p := hf
  refine indexH_sp (n := n) hlf hv.pl hl h0 hIg hfi (fun m1 e1 _ hno => ?_) (fun i0 m1 e1 hI1 hi0 hyes hpre => ?_)
  · rw [oInt_eql, decide_eq_true (by rfl), oIf_t]
    refine hk v m1 e1.next (fun c hc _ => e1.kept c hc) ?_ fun c hc => hc
    rw [show (l.filter fun h => !p h) = l by rw [List.filter_eq_self]; intro h hh; rw [hno h hh]; rfl]
    exact hv.mono e1
  · rw [oInt_eql, decide_eq_false (by omega), oIf_f, oInt_add ⟨by omega, by omega⟩]
    rcases hv with ⟨rfl, rfl⟩ | ⟨_, _, _, _, rfl, _⟩ | ⟨b, c, cs, hb, rfl, hr, hcl, hlc, htk⟩
    · exact absurd hi0 (by simp)
    · exact absurd hi0 (by simp)
    have n1 := e1.next
    have hbl := Mem.rd_lt hr
    have hr1 := (e1.kept b hbl).trans hr
    obtain ⟨F, hF⟩ : ∃ F : Nat → List Hp, F = fun j => (l.take j).filter fun h => !p h := ⟨_, rfl⟩
    have hF0 : F (i0 + 1) = l.take i0 := by
      rw [hF]
      show (l.take (i0 + 1)).filter (fun h => !p h) = l.take i0
      rw [List.take_add_one, List.getElem?_eq_getElem hi0, Option.toList_some, List.filter_append, List.filter_cons_of_neg (by simp [hyes]), List.filter_nil, List.append_nil, List.filter_eq_self]
      intro h hh; rw [hpre h hh]; rfl
    have hFl : ∀ j, j ≤ l.length → i0 + 1 ≤ j → (F j).length < j := fun j hj hij => by
      rw [hF]
      obtain ⟨q, rfl⟩ : ∃ q, j = i0 + 1 + q := ⟨j - (i0 + 1), by omega⟩
      have h1 : l.take (i0 + 1 + q) = l.take (i0 + 1) ++ (l.drop (i0 + 1)).take q := List.take_add
      show ((l.take (i0 + 1 + q)).filter fun h => !p h).length < i0 + 1 + q
      rw [h1, List.filter_append, List.length_append]
      have h2 : ((l.take (i0 + 1)).filter fun h => !p h) = l.take i0 := by rw [hF] at hF0; exact hF0
      rw [h2]
      have h3 := List.length_filter_le (fun h => !p h) ((l.drop (i0 + 1)).take q)
      rw [List.length_take] at h3 ⊢
      omega
    refine loop_up (l.length - (i0 + 1)) (fun q vs m' => ∃ cs', vs = [.int .i64 ((F (i0 + 1 + q)).length : Int), .int .i64 ((i0 + 1 + q : Nat) : Int)] ∧ m1.next ≤ m'.next ∧ (∀ c, c < m1.next → c ≠ b → m'.rd c = m1.rd c) ∧ I m' ∧ m'.rd b = some ⟨2, cs', none⟩ ∧ cs'.length = cs.length ∧
      cs'.take ((F (i0 + 1 + q)).length * 2) = pcs (F (i0 + 1 + q)) ∧ cs'.drop ((i0 + 1 + q) * 2) = cs.drop ((i0 + 1 + q) * 2)) (by omega)
      ⟨cs, by rw [Nat.add_zero, hF0, List.length_take, Nat.min_eq_left (by omega)]; rfl, Nat.le_refl _, fun _ _ _ => rfl, hI1, hr1, rfl, ?_, rfl⟩ ?_
    · rw [Nat.add_zero, hF0]
      have h1 : l = l.take i0 ++ l.drop i0 := (List.take_append_drop i0 l).symm
      have h2 : pcs l = pcs (l.take i0) ++ pcs (l.drop i0) := by rw [← pcs_app, ← h1]
      have hK : (l.take i0).length * 2 = (pcs (l.take i0)).length := (pcs_len _).symm
      have h3 := congrArg (List.take (pcs (l.take i0)).length) htk
      rw [List.take_take, Nat.min_eq_left (by rw [pcs_len, List.length_take]; omega), h2, List.take_left] at h3
      rw [hK]
      exact h3
    · rintro q vs m2 hq ⟨cs', rfl, n2, k2, hI2, hr2, hcl2, htk2, hdr2⟩ self hself
      have hFq := hFl (i0 + 1 + q) (by omega) (by omega)
      rw [uc_e, uc_e, ln_e, oOpt_e, oInt_lss]
      refine oIf_dec (fun hc => ?_) (fun hc => ?_)
      · obtain ⟨j, hj⟩ : ∃ j, j = i0 + 1 + q := ⟨_, rfl⟩
        rw [← hj] at hFq htk2 hdr2 hc ⊢
        rw [show i0 + 1 + (q + 1) = j + 1 by omega] at hself
        have hjl : j < l.length := by omega
        have hrow := row_of htk hjl
        have hrd : ldN m2 2 (.pointer (some ⟨b, j * 2, none⟩)) = some (.agg ⟨row2 l[j]⟩) := by
          rw [ldN_u, hr2, rdn_e _ _ _ _ (by omega), hdr2, hrow]
        have hFs : F (j + 1) = F j ++ if p l[j] = true then [] else [l[j]] := by
          rw [hF]
          show (l.take (j + 1)).filter (fun h => !p h) = (l.take j).filter (fun h => !p h) ++ _
          rw [List.take_add_one, List.getElem?_eq_getElem hjl, Option.toList_some, List.filter_append]
          congr 1
          cases hp : p l[j] <;> simp [hp]
        rw [ia_e hjl, Nat.zero_add, oOpt_e, hrd, oOpt_e]
        show (oRes (anew m2 1 [.int .i64 0, .int .i64 0] ptrTo) fun t m' => oRes (st1 2 L m' t (.agg ⟨[.int .i64 (l[j].1 : Int), .int .i64 (l[j].2 : Int)]⟩)) _) = some ()
        refine mk2 (by omega) rfl fun m3 e3 q3 n3 => ?_
        rw [ldN2 q3, oOpt_e]
        refine hf2 m3 l[j] _ (hIg _ _ hI2 e3) (List.getElem_mem hjl) fun m4 e4 => ?_
        have n4 := e4.next
        have q4 := (e4.kept _ (by omega)).trans q3
        have hr4 := (e4.kept b (by omega)).trans ((e3.kept b (by omega)).trans hr2)
        have hI4 := hIg _ _ (hIg _ _ hI2 e3) e4
        have k4 : ∀ c, c < m1.next → c ≠ b → m4.rd c = m1.rd c := fun c hc hn => (e4.kept c (by omega)).trans ((e3.kept c (by omega)).trans (k2 c hc hn))
        rw [aun_not, oOpt_e, join_e]
        cases hp : p l[j] with
        | true =>
          rw [hp, if_pos rfl, List.append_nil] at hFs
          rw [Bool.not_true, oIf_f]
          dsimp only
          rw [uc_e, oInt_add ⟨by omega, by omega⟩]
          refine hself (by omega) _ _ ⟨cs', by rw [hFs]; rfl, by omega, k4, hI4, hr4, hcl2, by rw [hFs]; exact htk2, ?_⟩
          rw [show (j + 1) * 2 = j * 2 + 2 by omega, ← List.drop_drop, hdr2, List.drop_drop]
        | false =>
          rw [hp, if_neg (by simp)] at hFs
          have hfl : (F (j + 1)).length = (F j).length + 1 := by rw [hFs, List.length_append]; rfl
          rw [Bool.not_false, oIf_t, ldN2 q4, oOpt_e, ia_e (by omega), Nat.zero_add, oOpt_e]
          have hst : st1 2 L m4 (.pointer (some ⟨b, (F j).length * 2, none⟩)) (.agg ⟨[.int .i64 (l[j].1 : Int), .int .i64 (l[j].2 : Int)]⟩) = some (Go.undef, m4.put b (some ⟨2, cs'.take ((F j).length * 2) ++ (row2 l[j] ++ cs'.drop ((F j).length * 2 + 2)), none⟩)) := by
            rw [st1_u, hr4]
            exact stw_e (by omega) rfl (by omega) rfl
          rw [hst, oRes_e, oInt_add ⟨by omega, by omega⟩]
          dsimp only
          rw [uc_e, oInt_add ⟨by omega, by omega⟩]
          have hlt : (cs'.take ((F j).length * 2)).length = (F j).length * 2 := by rw [List.length_take]; omega
          refine hself (by omega) _ _ ⟨_, by rw [hfl]; rfl, by show m1.next ≤ m4.next; omega, fun c hc hn => (Mem.rd_put _ _ _ _ (Ne.symm hn)).trans (k4 c hc hn), ?_, Mem.rd_put_eq _ _ (Mem.rd_lt hr4), ?_, ?_, ?_⟩
          · exact hI m4 _ hI4 (Nat.le_refl _) fun c hc hn => Mem.rd_put _ _ _ _ fun e => hn (by rw [← e]; rfl)
          · rw [List.length_append, hlt, List.length_append, List.length_drop]
            show (F j).length * 2 + (2 + _) = _
            omega
          · rw [hfl, show ((F j).length + 1) * 2 = (cs'.take ((F j).length * 2)).length + 2 by rw [hlt]; omega, List.take_length_add_append, htk2, hFs, pcs_app]
            rfl
          · rw [show (j + 1) * 2 = (cs'.take ((F j).length * 2)).length + (2 + (j * 2 - (F j).length * 2)) by rw [hlt]; omega, List.drop_length_add_append, ← List.drop_drop]
            show (cs'.drop ((F j).length * 2 + 2)).drop (j * 2 - (F j).length * 2) = _
            rw [List.drop_drop, show (F j).length * 2 + 2 + (j * 2 - (F j).length * 2) = j * 2 + 2 by omega, ← List.drop_drop, hdr2, List.drop_drop]
            congr 1
            omega
      · have hqe : i0 + 1 + q = l.length := by omega
        rw [hqe] at hFq htk2 ⊢
        have hFe : F l.length = l.filter fun h => !p h := by rw [hF]; show (l.take l.length).filter _ = _; rw [List.take_length]
        rw [hFe] at hFq htk2 ⊢
        generalize (l.filter fun h => !p h) = g at hFq htk2 hk ⊢
        rw [sl_from u47 ts49 (by omega) (by omega) hlc, oOpt_e]
        obtain ⟨cs3, h3, h4, h5⟩ := aclear47 (L := L) (m := m2) (b := b) (o := g.length * 2) (j := l.length - g.length) (c := c - g.length) (x := none) (by omega) hr2 (by omega)
        obtain ⟨j, hj⟩ : ∃ j, l.length - g.length = j + 1 := ⟨l.length - g.length - 1, by omega⟩
        rw [hj] at h3 ⊢
        rw [h3, oRes_e, sl_hi u47 ts49 (by omega), oOpt_e]
        refine hk _ _ (by show m.next ≤ m2.next; omega) (fun c' hc hn => ?_) (.inr (.inr ⟨b, c, cs3, hb, rfl, Mem.rd_put_eq _ _ (Mem.rd_lt hr2), by omega, by omega, by rw [h5]; exact htk2⟩)) (fun c' hc => hc)
        have hne : b ≠ c' := fun e => hn (by rw [← e]; rfl)
        exact (Mem.rd_put _ _ _ _ hne).trans ((k2 c' (by omega) (Ne.symm hne)).trans (e1.kept c' hc))
end
end Go.Vit
