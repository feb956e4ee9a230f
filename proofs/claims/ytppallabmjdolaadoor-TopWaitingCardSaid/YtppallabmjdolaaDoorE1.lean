/- Walks of heaps: checked, copied, sorted. -/
import Derived.Test.YtppallabmjdolaaDoorCalls
import Derived.Test.YtppallabmjdolaaDoorQ2
import Derived.Test.YtppallabmjdolaaDoorCoreD
set_option linter.unusedSimpArgs false
set_option linter.unusedVariables false
set_option maxRecDepth 20000
namespace Go.Vit
open Go Go.Proofs
attribute [local irreducible] runT loopS
theorem u43 : Tryd.prog.underlying 43 = some (.slice 45) := by kernel_rfl
theorem ts45 : tsize Tryd.prog 45 = some 2 := by kernel_rfl
theorem az45 : azero Tryd.prog 45 = some [.int .i64 0, .int .i64 0] := by kernel_rfl
theorem ael43 : aelem Tryd.prog 43 = some (2, 16) := by kernel_rfl
theorem bs430 (m : Mem) : bs Tryd.prog m 43 0 [] = some (slTo0 0 m.next, m.push ⟨2, [], none⟩) := (show _ = anew m 2 [] (slTo0 0) by kernel_rfl).trans (anew_eq ..)
theorem bs431 (m : Mem) (a b : Value) : bs Tryd.prog m 43 1 [(0, .agg ⟨[a, b]⟩)] = some (slTo 1 m.next, m.push ⟨2, [a, b], none⟩) := (show _ = anew m 2 [a, b] (slTo 1) by kernel_rfl).trans (anew_eq ..)
theorem bu45 (a b : Int) : bu Tryd.prog 45 [(0, .int .i64 a), (1, .int .i64 b)] = some (.agg ⟨[.int .i64 a, .int .i64 b]⟩) := by kernel_rfl
theorem abin_hnil (p : Option Addr) (n c : Nat) : abin Tryd.prog .eql 43 (.slice p n c) (.slice none 0 0) = some (.bool p.isNone) := by
  cases p with
  | none => kernel_rfl
  | some a => kernel_rfl
/-- Heaps of one's own: rows at the head of a block. -/
def OW (L : Nat) (m : Mem) (v : Value) (l : List Hp) : Prop := (v = .slice none 0 0 ∧ l = []) ∨ (∃ b x c, v = .slice (some ⟨b, 0, x⟩) 0 c ∧ l = [] ∧ L ≤ b) ∨ ∃ b c cs, L ≤ b ∧ v = .slice (some ⟨b, 0, none⟩) l.length c ∧ m.rd b = some ⟨2, cs, none⟩ ∧ cs.length = c * 2 ∧ l.length ≤ c ∧ cs.take (l.length * 2) = pcs l
theorem OW.mono {L : Nat} {m m' : Mem} {v : Value} {l : List Hp} (h : OW L m v l) (e : Gt m m') : OW L m' v l := by
  rcases h with h | h | ⟨b, c, cs, h1, h2, h3, h4⟩
  · exact .inl h
  · exact .inr (.inl h)
  · exact .inr (.inr ⟨b, c, cs, h1, h2, (e.kept b (Mem.rd_lt h3)).trans h3, h4⟩)
theorem OW.keep {L : Nat} {m m' : Mem} {v : Value} {l : List Hp} (h : OW L m v l) (hk : ∀ c, bid v = some c → L ≤ c → c < m.next → m'.rd c = m.rd c) : OW L m' v l := by
  rcases h with h | h | ⟨b, c, cs, h1, h2, h3, h4⟩
  · exact .inl h
  · exact .inr (.inl h)
  · exact .inr (.inr ⟨b, c, cs, h1, h2, (hk b (by rw [h2]; rfl) h1 (Mem.rd_lt h3)).trans h3, h4⟩)
theorem OW.le {L L' : Nat} {m : Mem} {v : Value} {l : List Hp} (h : OW L m v l) (hl : L' ≤ L) : OW L' m v l := by
  rcases h with h | ⟨b, x, c, h1, h2, h3⟩ | ⟨b, c, cs, h1, h2⟩
  · exact .inl h
  · exact .inr (.inl ⟨b, x, c, h1, h2, by omega⟩)
  · exact .inr (.inr ⟨b, c, cs, by omega, h2⟩)
theorem OW.fr {L : Nat} {m : Mem} {v : Value} {l : List Hp} (h : OW L m v l) : Fsh L v := fun q hq => by
  rcases h with ⟨rfl, _⟩ | ⟨b, x, c, rfl, _, h3⟩ | ⟨b, c, cs, h1, rfl, _⟩
  · cases hq
  · cases hq; exact h3
  · cases hq; exact h1
theorem OW.pl {L : Nat} {m : Mem} {v : Value} {l : List Hp} (h : OW L m v l) : PL m v l := by
  rcases h with ⟨rfl, rfl⟩ | ⟨b, x, c, rfl, rfl, _⟩ | ⟨b, c, cs, h1, rfl, h3, h4, h5, h6⟩
  · exact PL.nil m
  · exact ⟨rfl, .inr ⟨b, 0, x, c, rfl⟩⟩
  · refine ⟨?_, .inr ⟨_, _, _, _, rfl⟩⟩
    cases hl : l.length with
    | zero => rw [List.length_eq_zero_iff.1 hl]; rfl
    | succ n =>
      have e1 : rdc m b 0 ((n + 1) * 2) = some (pcs l) := by
        rw [rdc_e h3 (by omega), List.drop_zero, ← h6, hl]
      simp only [asrc]
      rw [show Nat.mul (n + 1) 2 = (n + 1) * 2 from rfl, e1]
theorem PG.ow {L : Nat} {m : Mem} {v : Value} {l : List Hp} (h : PG L m v l) : OW L m v l := by
  rcases h with ⟨h1, h2, h3⟩ | ⟨b, h1, h2, h3, h4, h5⟩
  · exact .inl ⟨h1, List.length_eq_zero_iff.1 h2⟩
  · exact .inr (.inr ⟨b, _, pcs l, h1, h2, h3, h4, Nat.le_refl _, by rw [← h4, List.take_length]⟩)
theorem OW.lt {L : Nat} {m : Mem} {v : Value} {l : List Hp} (h : OW L m v l) (h0 : 0 < l.length) : ∀ c, bid v = some c → c < m.next := Sl.bid_lt h.pl h0
theorem pcs_set : ∀ (l : List Hp) (i : Nat) (x : Hp), i < l.length → pcs (l.set i x) = (pcs l).take (i * 2) ++ (row2 x ++ (pcs l).drop (i * 2 + 2))
  | p :: l, 0, x, _ => rfl
  | p :: l, i + 1, x, h => by
    have h2 : i < l.length := by simpa using h
    rw [show (i + 1) * 2 = i * 2 + 1 + 1 by omega]
    show _ :: _ :: pcs (l.set i x) = _ :: _ :: ((pcs l).take (i * 2) ++ (row2 x ++ (pcs l).drop (i * 2 + 2)))
    rw [pcs_set l i x h2]
theorem OW.set {L L0 : Nat} {m : Mem} {v : Value} {l : List Hp} {i : Nat} (x : Hp) (h : OW L0 m v l) (hi : i < l.length) (hL : L ≤ L0) :
    ∃ m', st1 2 L m (ep 2 v i) (.agg ⟨row2 x⟩) = some (Go.undef, m') ∧ OW L0 m' v (l.set i x) ∧ m'.next = m.next ∧ ∀ c, bid v ≠ some c → m'.rd c = m.rd c := by
  rcases h with ⟨rfl, rfl⟩ | ⟨_, _, _, rfl, rfl, _⟩ | ⟨b, c, cs, hb, rfl, hr, hcl, hlc, htk⟩
  · exact absurd hi (by simp)
  · exact absurd hi (by simp)
  · have hlt : (cs.take (i * 2)).length = i * 2 := by rw [List.length_take]; omega
    refine ⟨m.put b (some ⟨2, cs.take (i * 2) ++ (row2 x ++ cs.drop (i * 2 + 2)), none⟩), ?_, .inr (.inr ⟨b, c, _, hb, by rw [List.length_set], Mem.rd_put_eq _ _ (Mem.rd_lt hr), ?_, by rw [List.length_set]; exact hlc, ?_⟩), rfl, fun c' hc => Mem.rd_put _ _ _ _ fun e => hc (by rw [← e]; rfl)⟩
    · show st1 2 L m (.pointer (some ⟨b, 0 + i * 2, none⟩)) _ = _
      rw [Nat.zero_add, st1_u, hr]
      exact stw_e (by omega) rfl (by omega) rfl
    · rw [List.length_append, hlt, List.length_append, List.length_drop]
      show i * 2 + (2 + _) = _
      omega
    · rw [List.length_set, pcs_set l i x hi, ← htk, List.take_take, Nat.min_eq_left (by omega), List.drop_take]
      rw [show l.length * 2 = (cs.take (i * 2)).length + (2 + (l.length * 2 - (i * 2 + 2))) by rw [hlt]; omega, List.take_length_add_append]
      congr 1
      rw [hlt, show i * 2 + (2 + (l.length * 2 - (i * 2 + 2))) - (i * 2 + 2) = l.length * 2 - (i * 2 + 2) by omega]
      exact List.take_length_add_append (l₁ := row2 x) ..
theorem PL.ldN' {m : Mem} {v : Value} {l : List Hp} (h : PL m v l) {i : Nat} {x : Hp} (hx : l[i]? = some x) : Vit.ldN m 2 (ep 2 v i) = some (.agg ⟨row2 x⟩) := by
  obtain ⟨hi, rfl⟩ := List.getElem?_eq_some_iff.1 hx
  exact h.ldN hi
section
variable {lf n L : Nat} {m : Mem} {k : Value → Mem → Option Unit}
theorem between_sp (a b c : Int) (hk : k (.bool (decide (a ≤ b ∧ b ≤ c))) m = some ()) : runT (tab lf) (n + 1) 61 [.int .i64 a, .int .i64 b, .int .i64 c] L m k = some () := by
  rw [r61]; dsimp only [S61, iofNat, inegSucc]
  rw [uc_e, uc_e, uc_e, un0_e, oInt_leq, join_e]
  refine oGT_dec (fun h => ?_) (fun h => ?_)
  · rw [oInt_leq]
    (try dsimp only)
    rw [uc_e, decide_eq_true h, oPick_t]
    rw [show decide (a ≤ b ∧ b ≤ c) = decide (b ≤ c) from decide_eq_decide.2 ⟨fun h => h.2, fun h2 => ⟨h, h2⟩⟩] at hk
    exact hk
  · (try dsimp only)
    rw [uc_e, decide_eq_false h, oPick_f]
    rw [decide_eq_false (fun h2 => h h2.1)] at hk
    exact hk
theorem has51_sp {h : Hp} {x : Int} (hk : ∀ m', Gt m m' → k (.bool (decide ((h.1 : Int) ≤ x ∧ x ≤ (h.2 : Int)))) m' = some ()) : runT (tab lf) (n + 2) 51 [.agg ⟨row2 h⟩, .int .i64 x] L m k = some () := by
  rw [r51]; dsimp only [S51, iofNat, inegSucc]
  rw [uc_e, uc_e, un0_e]
  show (oRes (abox m (.agg ⟨[.int .i64 (h.1 : Int), .int .i64 (h.2 : Int)]⟩)) _) = some ()
  refine bx2 fun m1 e1 q1 n1 => ?_
  rw [fa0, oOpt_e, ld2a q1, oOpt_e, fa1, oOpt_e, ld2b q1, oOpt_e]
  exact between_sp _ _ _ (hk m1 e1)
theorem check60_sp {v : Value} {l : List Hp} (hlf : 1000000 ≤ lf) (hL : L ≤ m.next) (hv : PL m v l) (hl : l.length ≤ 10) (hr : ∀ h ∈ l, h.1 ≤ h.2 ∧ h.2 ≤ 23) (hk : ∀ m', Gt m m' → k (.int .i64 0) m' = some ()) :
    runT (tab lf) (n + 2) 60 [v] L m k = some () := by
  rw [r60]; dsimp only [S60, iofNat, inegSucc]
  rw [uc_e, un0_e, hv.ln, oOpt_e, oInt_gtr, decide_eq_false (by omega), oIf_f, oOpt_e]
  refine loop_up l.length (fun i vs m' => vs = [.int .i64 (i : Int)] ∧ Gt m m') (by omega) ⟨rfl, Gt.refl _⟩ ?_
  rintro i vs m1 hi ⟨rfl, e1⟩ self hself
  have n1 := e1.next
  rw [uc_e, oInt_lss]
  refine oIf_dec (fun hc => ?_) (fun hc => ?_)
  · have hil : i < l.length := by omega
    have hvm := hv.mono e1
    obtain ⟨h1, h2⟩ := hr _ (List.getElem_mem hil)
    rw [hvm.ia hil, oOpt_e, hvm.ldN hil, oOpt_e]
    show (oRes (anew m1 1 [.int .i64 0, .int .i64 0] ptrTo) fun t m' => oRes (st1 2 L m' t (.agg ⟨[.int .i64 (l[i].1 : Int), .int .i64 (l[i].2 : Int)]⟩)) _) = some ()
    refine mk2 (by omega) rfl fun m2 e2 q2 n2 => ?_
    rw [fa0, oOpt_e, ld2a q2, oOpt_e]
    refine between_sp _ _ _ ?_
    rw [decide_eq_true (by omega), aun_not, oOpt_e, Bool.not_true, join_e, oGF_f, fa1, oOpt_e, ld2b q2, oOpt_e]
    refine between_sp _ _ _ ?_
    rw [decide_eq_true (by omega), aun_not, oOpt_e, Bool.not_true]
    (try dsimp only)
    rw [uc_e, oPick_f, oIf_f, oOpt_e, ld2a q2, oOpt_e, oOpt_e, ld2b q2, oOpt_e, oInt_gtr, decide_eq_false (by omega), oIf_f, oInt_add ⟨by omega, by omega⟩]
    exact hself hil _ _ ⟨rfl, e1.trans e2⟩
  · exact hk m1 e1
theorem handed_sp {v : Value} {l : List Hp} (hlf : 1000000 ≤ lf) (hL : L ≤ m.next) (hv : PL m v l) (hl : l.length ≤ 10) (hr : ∀ h ∈ l, h.1 ≤ h.2 ∧ h.2 ≤ 23) (hk : ∀ m', Gt m m' → k (.int .i64 0) m' = some ()) :
    runT (tab lf) (n + 3) 46 [v, .int .i64 1] L m k = some () := by
  rw [r46]; dsimp only [S46, iofNat, inegSucc]
  rw [uc_e, uc_e, un0_e]
  refine check60_sp hlf hL hv hl hr fun m1 e1 => ?_
  rw [oInt_eql, decide_eq_true rfl, join_e, oGT_t]
  refine between_sp _ _ _ ?_
  rw [decide_eq_true (by omega), aun_not, oOpt_e, Bool.not_true]
  (try dsimp only)
  rw [uc_e, oPick_t, join_e, oIf_f]
  (try dsimp only)
  rw [uc_e]
  exact hk m1 e1
theorem clone50_sp {v : Value} {l : List Hp} (hL : L ≤ m.next) (hv : PL m v l) (hl : l.length < 1000) (hk : ∀ u m', Gt m m' → OW m.next m' u l → k u m' = some ()) : runT (tab lf) (n + 1) 50 [v] L m k = some () := by
  rw [r50]; dsimp only [S50, iofNat, inegSucc]
  obtain ⟨p, c, rfl⟩ := hv.ex
  rw [uc_e, un0_e, abin_hnil, oOpt_e]
  cases p with
  | none =>
    have hl0 : l = [] := by
      rcases hv.2 with h | ⟨b, o, x, c', h⟩
      · injection h with _ h _; exact List.length_eq_zero_iff.1 h
      · cases h
    exact hk _ m (Gt.refl _) (.inl ⟨rfl, hl0⟩)
  | some a =>
    rw [show Option.isNone (some a) = false from rfl, oIf_f, bs430, oRes_e]
    have e1 := Mem.gt_push m ⟨2, [], none⟩
    have q1 : (m.push ⟨2, [], none⟩).rd m.next = some ⟨2, [], none⟩ := Mem.rd_push _ _
    have n1 : (m.push ⟨2, [], none⟩).next = m.next + 1 := Mem.push_next _ _
    have hv1 := hv.mono e1
    generalize m.push ⟨2, [], none⟩ = m1 at e1 q1 n1 hv1 ⊢
    by_cases h0 : l = []
    · subst h0
      have hx : asrc m1 2 (.slice (some a) ([] : List Hp).length c) = some (0, []) := hv1.1
      have : aappend Tryd.prog L m1 43 (slTo0 0 m.next) (.slice (some a) ([] : List Hp).length c) = some (slTo0 0 m.next, m1) := by
        unfold aappend slTo0
        rw [ael43]
        simp only [hx, ble_t (Nat.le_refl 0)]
      rw [this, oRes_e]
      exact hk _ m1 e1 (.inr (.inl ⟨m.next, some 0, 0, rfl, rfl, Nat.le_refl _⟩))
    · obtain ⟨j, hj⟩ : ∃ j, l.length = j + 1 := ⟨l.length - 1, by have := List.length_pos_iff.2 h0; omega⟩
      have h1 : asrc m1 2 (.slice (some a) l.length c) = some (j + 1, pcs l) := by rw [← hj]; exact hv1.1
      have hr := roomy_of (n := j + 1) (y := 16) (by omega) (by omega)
      have : aappend Tryd.prog L m1 43 (slTo0 0 m.next) (.slice (some a) l.length c) = some (slTo (j + 1) m1.next, m1.push ⟨2, pcs l, none⟩) := by
        unfold aappend slTo0
        rw [ael43]
        have hrd : rdc m1 m.next 0 (Nat.mul 0 2) = some [] := rdc_e (s := 2) q1 (by decide)
        have hn0 : Nat.add 0 (Nat.succ j) = j + 1 := Nat.zero_add _
        have hr' : roomy (j + 1) 16 = true := hr
        simp only [h1, ble_t (Nat.le_refl 0), natK_eq, hn0, hr', hrd, List.nil_append, anew_eq]
        rfl
      rw [this, oRes_e]
      refine hk _ _ (e1.trans (Mem.gt_push _ _)) ?_
      have : PG m1.next (m1.push ⟨2, pcs l, none⟩) (slTo l.length m1.next) l := .inr ⟨m1.next, Nat.le_refl _, rfl, Mem.rd_push _ _, pcs_len l, by omega⟩
      rw [← hj]
      exact this.ow.le (by omega)
/-! Sorted. -/
theorem cmp78_sp {a b : Hp} (ha : a.2 ≤ 23) (hb : b.2 ≤ 23) (hk : ∀ m', Gt m m' → k (.int .i64 ((a.2 : Int) - (b.2 : Int))) m' = some ()) : oCallV (runT (tab lf) (n + 1)) (.func (.func 78) #[] #[]) [.agg ⟨row2 a⟩, .agg ⟨row2 b⟩] L m k = some () := by
  rw [oCallV_e (hf := rfl)]
  show runT (tab lf) (n + 1) 78 [.agg ⟨row2 a⟩, .agg ⟨row2 b⟩] L m k = some ()
  rw [r78]; dsimp only [S78, iofNat, inegSucc]
  rw [uc_e, uc_e, un0_e]
  show (oRes (abox m (.agg ⟨[.int .i64 (a.1 : Int), .int .i64 (a.2 : Int)]⟩)) _) = some ()
  refine bx2 fun m1 e1 q1 n1 => ?_
  show (oRes (abox m1 (.agg ⟨[.int .i64 (b.1 : Int), .int .i64 (b.2 : Int)]⟩)) _) = some ()
  refine bx2 fun m2 e2 q2 n2 => ?_
  rw [fa1, oOpt_e, ld2b ((e2.kept _ (by omega)).trans q1), oOpt_e, fa1, oOpt_e, ld2b q2, oOpt_e, oInt_sub ⟨by omega, by omega⟩]
  exact hk _ (e1.trans e2)
theorem len_sp {j : Nat} (hj : j ≤ 10) (hk : ∀ x : Int, k (.int .i64 x) m = some ()) : runT (tab lf) (n + 2) 103 [.int .u64 (j : Int)] L m k = some () := by
  rw [r103]; dsimp only [S103, iofNat, inegSucc]
  rw [uc_e, un0_e, oIf_f, r130]
  match j, hj with
  | 0, _ => exact (show S130 lf (runT (tab lf) n) [.int .u64 ((0 : Nat) : Int)] L m k = k (.int .i64 0) m by kernel_rfl).trans (hk _)
  | 1, _ => exact (show S130 lf (runT (tab lf) n) [.int .u64 ((1 : Nat) : Int)] L m k = k (.int .i64 1) m by kernel_rfl).trans (hk _)
  | 2, _ => exact (show S130 lf (runT (tab lf) n) [.int .u64 ((2 : Nat) : Int)] L m k = k (.int .i64 2) m by kernel_rfl).trans (hk _)
  | 3, _ => exact (show S130 lf (runT (tab lf) n) [.int .u64 ((3 : Nat) : Int)] L m k = k (.int .i64 2) m by kernel_rfl).trans (hk _)
  | 4, _ => exact (show S130 lf (runT (tab lf) n) [.int .u64 ((4 : Nat) : Int)] L m k = k (.int .i64 3) m by kernel_rfl).trans (hk _)
  | 5, _ => exact (show S130 lf (runT (tab lf) n) [.int .u64 ((5 : Nat) : Int)] L m k = k (.int .i64 3) m by kernel_rfl).trans (hk _)
  | 6, _ => exact (show S130 lf (runT (tab lf) n) [.int .u64 ((6 : Nat) : Int)] L m k = k (.int .i64 3) m by kernel_rfl).trans (hk _)
  | 7, _ => exact (show S130 lf (runT (tab lf) n) [.int .u64 ((7 : Nat) : Int)] L m k = k (.int .i64 3) m by kernel_rfl).trans (hk _)
  | 8, _ => exact (show S130 lf (runT (tab lf) n) [.int .u64 ((8 : Nat) : Int)] L m k = k (.int .i64 4) m by kernel_rfl).trans (hk _)
  | 9, _ => exact (show S130 lf (runT (tab lf) n) [.int .u64 ((9 : Nat) : Int)] L m k = k (.int .i64 4) m by kernel_rfl).trans (hk _)
  | 10, _ => exact (show S130 lf (runT (tab lf) n) [.int .u64 ((10 : Nat) : Int)] L m k = k (.int .i64 4) m by kernel_rfl).trans (hk _)
theorem mid_get {α : Type} (Q C : List α) (a : α) : (Q ++ a :: C)[Q.length]? = some a := by rw [List.getElem?_append_right (Nat.le_refl _), Nat.sub_self]; rfl
theorem mid_get2 {α : Type} (Q C : List α) (a x : α) : (Q ++ a :: x :: C)[Q.length + 1]? = some x := by rw [List.getElem?_append_right (by omega), show Q.length + 1 - Q.length = 1 by omega]; rfl
theorem mid_swap {α : Type} (Q C : List α) (a x : α) : ((Q ++ a :: x :: C).set (Q.length + 1) a).set Q.length x = Q ++ x :: a :: C := by
  rw [List.set_append_right _ _ (by omega), List.set_append_right _ _ (Nat.le_refl _), Nat.sub_self, show Q.length + 1 - Q.length = 1 by omega]; rfl
theorem insH_sp {L0 : Nat} {m0 : Mem} {v : Value} {l : List Hp} (hlf : 1000000 ≤ lf) (hv : OW L0 m v l) (hL : L ≤ L0) (hLm : L0 ≤ m.next) (e : Gt m0 m) (hm : m0.next ≤ L0) (hl : l.length ≤ 10) (hr : ∀ h ∈ l, h.2 ≤ 23)
    (hk : ∀ m', m.next ≤ m'.next → (∀ c, c < m.next → bid v ≠ some c → m'.rd c = m.rd c) → OW L0 m' v (isoT [] l) → k (.tuple ⟨[]⟩) m' = some ()) :
    runT (tab lf) (n + 2) 121 [v, .int .i64 0, .int .i64 (l.length : Int), .func (.func 78) #[] #[]] L m k = some () := by
  rw [r121]; dsimp only [S121, iofNat, inegSucc]
  rw [uc_e, uc_e, uc_e, uc_e, un0_e, oInt_add ⟨by omega, by omega⟩]
  cases l with
  | nil =>
    refine loop_up 0 (fun i vs m' => vs = [.int .i64 (0 + 1)] ∧ m' = m) (by omega) ⟨rfl, rfl⟩ ?_
    rintro i vs m1 hi ⟨rfl, rfl⟩ self hself
    rw [uc_e, oInt_lss, decide_eq_false (by simp), oIf_f]
    exact hk _ (Nat.le_refl _) (fun _ _ _ => rfl) hv
  | cons x0 t =>
    refine loop_up t.length (fun i vs m' => ∃ P xs, vs = [.int .i64 ((i : Int) + 1)] ∧ P.length = i + 1 ∧ P.length + xs.length = (x0 :: t).length ∧ isoT P xs = isoT [] (x0 :: t) ∧ (∀ h ∈ P, h.2 ≤ 23) ∧ (∀ h ∈ xs, h.2 ≤ 23) ∧ OW L0 m' v (P ++ xs) ∧ m.next ≤ m'.next ∧ ∀ c, c < m.next → bid v ≠ some c → m'.rd c = m.rd c) (by simp at hl; omega)
      ⟨[x0], t, rfl, rfl, by simp; omega, rfl, fun h hh => by rw [List.mem_singleton.1 hh]; exact hr x0 (List.mem_cons_self ..), fun h hh => hr h (List.mem_cons_of_mem _ hh), hv, Nat.le_refl _, fun _ _ _ => rfl⟩ ?_
    rintro i vs m1 hi ⟨P, xs, rfl, hP, hPx, hiso, hP23, hx23, hv1, n1, k1⟩ self hself
    rw [uc_e, oInt_lss]
    refine oIf_dec (fun hc => ?_) (fun hc => ?_)
    · cases xs with
      | nil => simp only [List.length_nil, List.length_cons] at hPx hc; omega
      | cons x xs =>
        have hx := hx23 x (List.mem_cons_self ..)
        have hiso2 : isoT (insB x P.reverse []) xs = isoT [] (x0 :: t) := hiso
        have hb23 : ∀ h ∈ insB x P.reverse [], h.2 ≤ 23 := fun h hh => by
          rcases mem_insB hh with rfl | hh | hh
          · exact hx
          · exact hP23 h (List.mem_reverse.1 hh)
          · cases hh
        have hbl := insB_len x P.reverse []
        rw [List.length_reverse] at hbl
        simp only [List.length_nil, List.length_cons] at hPx hbl hc hl
        refine loop_of (n := P.length) (fun μ vs m' => ∃ R B, vs = [.int .i64 (R.length : Int)] ∧ μ = R.length ∧ insB x R B = insB x P.reverse [] ∧ R.length + B.length = P.length ∧ (∀ h ∈ R, h.2 ≤ 23) ∧ OW L0 m' v (R.reverse ++ x :: (B ++ xs)) ∧ m.next ≤ m'.next ∧ ∀ c, c < m.next → bid v ≠ some c → m'.rd c = m.rd c) ?_
          ⟨P.reverse, [], by rw [List.length_reverse, hP]; rfl, by rw [List.length_reverse], rfl, by rw [List.length_reverse]; rfl, fun h hh => hP23 h (List.mem_reverse.1 hh), by rw [List.reverse_reverse]; exact hv1, n1, k1⟩ (by omega)
        rintro μ vs m2 ⟨R, B, rfl, rfl, hins, hRB, hR23, hv2, n2, k2⟩ self2 hself2
        rw [uc_e, oInt_gtr, join_e]
        have hdone : insB x R B = R.reverse ++ x :: B → self [.int .i64 (((i + 1 : Nat) : Int) + 1)] m2 = some () := fun he => by
          refine hself (by omega) _ _ ⟨insB x P.reverse [], xs, rfl, by omega, by simp only [List.length_cons]; omega, hiso2, hb23, fun h hh => hx23 h (List.mem_cons_of_mem _ hh), ?_, n2, k2⟩
          rw [← hins, he, List.append_assoc]
          exact hv2
        refine oGT_dec (fun h0 => ?_) (fun h0 => ?_)
        · cases R with
          | nil => simp at h0
          | cons a R =>
            rw [List.reverse_cons, List.append_assoc] at hv2
            have hv2 : OW L0 m2 v (R.reverse ++ a :: x :: (B ++ xs)) := hv2
            have hRl : R.reverse.length = R.length := List.length_reverse
            have hlen : (R.reverse ++ a :: x :: (B ++ xs)).length = R.length + 2 + (B ++ xs).length := by rw [List.length_append, hRl]; simp only [List.length_cons]; omega
            simp only [List.length_cons] at hRB h0 hself2 hdone ⊢
            have g1 := mid_get R.reverse (x :: (B ++ xs)) a
            have g2 := mid_get2 R.reverse (B ++ xs) a x
            have sw := mid_swap R.reverse (B ++ xs) a x
            rw [hRl] at g1 g2 sw
            generalize hG : R.reverse ++ a :: x :: (B ++ xs) = G at hv2 hlen g1 g2 sw
            have hj : ((R.length + 1 : Nat) : Int) - 1 = (R.length : Int) := by omega
            rw [hv2.pl.ia (show R.length + 1 < G.length by omega), oOpt_e, hv2.pl.ldN' g2, oOpt_e, oInt_sub ⟨by omega, by omega⟩, hj, hv2.pl.ia (show R.length < G.length by omega), oOpt_e, hv2.pl.ldN' g1, oOpt_e]
            have ha := hR23 a (List.mem_cons_self ..)
            refine cmp78_sp hx ha fun m3 e3 => ?_
            have n3 := e3.next
            have hv3 := hv2.mono e3
            have k3 : ∀ c, c < m.next → bid v ≠ some c → m3.rd c = m.rd c := fun c hc hb => (e3.kept c (by omega)).trans (k2 c hc hb)
            rw [oInt_lss]
            (try dsimp only)
            rw [uc_e, decide_eq_true h0, oPick_t]
            refine oIf_dec (fun h1 => ?_) (fun h1 => ?_)
            · have hlt : x.2 < a.2 := by omega
              rw [oInt_sub ⟨by omega, by omega⟩, oInt_sub ⟨by omega, by omega⟩, hj, hv3.pl.ia (show R.length < G.length by omega), oOpt_e, hv3.pl.ldN' g1, oOpt_e, oOpt_e, hv3.pl.ldN' g2, oOpt_e, oOpt_e]
              obtain ⟨m4, s4, v4, n4, k4⟩ := hv3.set (L := L) a (show R.length + 1 < G.length by omega) hL
              obtain ⟨m5, s5, v5, n5, k5⟩ := v4.set (L := L) x (show R.length < (G.set (R.length + 1) a).length by rw [List.length_set]; omega) hL
              rw [s4, oRes_e, oOpt_e, s5, oRes_e, oInt_sub ⟨by omega, by omega⟩, hj]
              rw [sw] at v5
              have hi2 : insB x (a :: R) B = insB x R (a :: B) := by
                show (if x.2 < a.2 then _ else _) = _
                rw [if_pos hlt]
              refine hself2 R.length _ _ (by omega) ⟨R, a :: B, rfl, rfl, by rw [← hi2]; exact hins, by simp only [List.length_cons]; omega, fun h hh => hR23 h (List.mem_cons_of_mem _ hh), v5, by omega, fun c hc hb => (k5 c hb).trans ((k4 c hb).trans (k3 c hc hb))⟩
            · have hi2 : insB x (a :: R) B = (a :: R).reverse ++ x :: B := by
                show (if x.2 < a.2 then _ else _) = _
                rw [if_neg (by omega)]
              rw [oInt_add ⟨by omega, by omega⟩]
              refine hself (by omega) _ _ ⟨insB x P.reverse [], xs, rfl, by omega, by simp only [List.length_cons]; omega, hiso2, hb23, fun h hh => hx23 h (List.mem_cons_of_mem _ hh), ?_, by omega, k3⟩
              rw [← hins, hi2, List.reverse_cons, List.append_assoc, List.append_assoc]
              rw [← hG] at hv3
              exact hv3
        · have hR0 : R = [] := by
            cases R with
            | nil => rfl
            | cons a R => simp only [List.length_cons] at h0; omega
          subst hR0
          (try dsimp only)
          rw [uc_e, decide_eq_false h0, oPick_f, oIf_f, oInt_add ⟨by omega, by omega⟩]
          exact hdone rfl
    · have hx0 : xs = [] := by
        cases xs with
        | nil => rfl
        | cons x xs => simp only [List.length_cons] at hPx hc; omega
      subst hx0
      rw [List.append_nil] at hv1
      have : isoT P [] = P := rfl
      rw [← hiso, this] at hk
      exact hk _ n1 k1 hv1
theorem sortH_sp {L0 : Nat} {m0 : Mem} {v : Value} {l : List Hp} (hlf : 1000000 ≤ lf) (hv : OW L0 m v l) (hL : L ≤ L0) (hLm : L0 ≤ m.next) (e : Gt m0 m) (hm : m0.next ≤ L0) (hl : l.length ≤ 10) (hr : ∀ h ∈ l, h.2 ≤ 23)
    (hk : ∀ m', m.next ≤ m'.next → (∀ c, c < m.next → bid v ≠ some c → m'.rd c = m.rd c) → OW L0 m' v (isoT [] l) → k (.tuple ⟨[]⟩) m' = some ()) :
    runT (tab lf) (n + 4) 77 [v, .func (.func 78) #[] #[]] L m k = some () := by
  rw [r77]; dsimp only [S77, iofNat, inegSucc]
  rw [uc_e, uc_e, un0_e, hv.pl.ln, oOpt_e]
  have hf : fwrap .u64 (l.length : Int) = (l.length : Int) := by
    unfold fwrap
    rw [(fits_iff .u64 _).2 ⟨by show (0 : Int) ≤ _; omega, by
      have : ((top .u64 : Nat) : Int) = 18446744073709551616 := by rfl
      omega⟩]
  have hcv : ∀ K : Value → Option Unit, oCv .u64 (.int .i64 (l.length : Int)) K = K (.int .u64 (l.length : Int)) := fun K => by
    show oOpt (mkI .u64 (fwrap .u64 (l.length : Int))) K = _
    rw [mkI_e, hf, oOpt_e]
  rw [hcv]
  refine len_sp (by omega) fun x => ?_
  rw [r102]; dsimp only [S102, iofNat, inegSucc]
  rw [uc_e, uc_e, uc_e, uc_e, uc_e, un0_e]
  refine loop_up 0 (fun i vs m' => vs = _ ∧ m' = m) (by omega) ⟨rfl, rfl⟩ ?_
  rintro i vs m1 hi ⟨rfl, rfl⟩ self hself
  rw [uc_e, uc_e, uc_e, uc_e, uc_e, join_e, oInt_sub ⟨by omega, by omega⟩, oInt_leq, decide_eq_true (by omega), oIf_t]
  exact insH_sp hlf hv hL hLm e hm hl hr hk
end
end Go.Vit
