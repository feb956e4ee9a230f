/- Walks of heaps: whether they can be turned. -/
import Derived.Test.YtppallabmjdolaaDoorE1
set_option linter.unusedSimpArgs false
set_option linter.unusedVariables false
set_option maxRecDepth 20000
namespace Go.Vit
open Go Go.Proofs
attribute [local irreducible] runT loopS
/-- Cells that hold numbers. -/
def NC (m : Mem) (q : Nat) (x : Nat) : Prop := m.rd q = some ⟨1, [.int .i64 (x : Int)], none⟩
theorem NC.lt {m : Mem} {q x : Nat} (h : NC m q x) : q < m.next := Mem.rd_lt h
theorem NC.mono {m m' : Mem} {q x : Nat} (h : NC m q x) (e : Gt m m') : NC m' q x := (e.kept q h.lt).trans h
/-- The cells of a round: the hour, whether a heap was turned, and one hand. -/
structure Rd3 (m : Mem) (q1 q2 q3 hr t : Nat) : Prop where
  hour : NC m q1 hr
  turn : NC m q2 t
  hand : NC m q3 1
theorem Rd3.mono {m m' : Mem} {q1 q2 q3 hr t : Nat} (h : Rd3 m q1 q2 q3 hr t) (e : Gt m m') : Rd3 m' q1 q2 q3 hr t := ⟨h.hour.mono e, h.turn.mono e, h.hand.mono e⟩
def fv80 (q1 q2 q3 : Nat) : Value := .func (.func 80) #[] ⟨[.pointer (some ⟨q1, 0, none⟩), .pointer (some ⟨q2, 0, none⟩), .pointer (some ⟨q3, 0, none⟩)]⟩
/-- The first that can go goes. -/
theorem delH_first {l : List Hp} {hr i : Nat} (hi : i < l.length) (h1 : l[i].1 ≤ hr) (h2 : ∀ h ∈ l.take i, ¬ h.1 ≤ hr) : delH l hr = l.take i ++ l.drop (i + 1) := by
  unfold delH
  have he : l = l.take i ++ l[i] :: l.drop (i + 1) := by rw [List.getElem_cons_drop]; exact (List.take_append_drop i l).symm
  conv => lhs; rw [he]
  rw [List.eraseP_append_right _ (by intro b hb; have := h2 b hb; simpa using this), List.eraseP_cons_of_pos (by simpa using h1)]
theorem delH_none {l : List Hp} {hr : Nat} (h2 : ∀ h ∈ l, ¬ h.1 ≤ hr) : delH l hr = l := List.eraseP_of_forall_not (by intro b hb; have := h2 b hb; simpa using this)
theorem sl_from {P : Program} {t e : TypeId} {s : Nat} (ht : P.underlying t = some (.slice e)) (hs : tsize P e = some s) {b n c k : Nat} (hk : k ≤ n) (hc : k < c) (hn : n ≤ c) :
    sl P t (.slice (some ⟨b, 0, none⟩) n c) (some (.int .i64 (k : Int))) none none = some (.slice (some ⟨b, k * s, none⟩) (n - k) (c - k)) := by
  by_cases h0 : 0 < k
  · have := sl_lo ht hs (b := b) (o := 0) h0 hk hc hn
    rwa [Nat.zero_add] at this
  · have : k = 0 := by omega
    subst this
    unfold sl aslice
    rw [ht]
    simp only [hs, Option.map_some, Option.map_none]
    have h1 : abound (tri (some (.int .i64 ((0 : Nat) : Int))) none none) (some (.tmp 0)) 0 = some 0 := rfl
    have h2 : abounds (tri (some (.int .i64 ((0 : Nat) : Int))) none none) n c (some (.tmp 0)) none none = some (0, n, c) := by
      unfold abounds
      simp only [abound_none, h1, ble_t (Nat.zero_le n), ble_t hn, ble_t (Nat.le_refl c), Bool.and_self]
    simp only [h2, beq_f (show c ≠ 0 by omega)]
    simp
theorem zrow_len (x y : Value) : ∀ n, (azrow [x, y] n).length = n * 2
  | 0 => rfl
  | n + 1 => by show (x :: y :: azrow [x, y] n).length = _; simp [zrow_len x y n]; omega
theorem zrow_one (a b : Int) : ∀ n, allOne (azrow [.int .i64 a, .int .i64 b] n) = true
  | 0 => rfl
  | n + 1 => zrow_one a b n
theorem aclear43 {L : Nat} {m : Mem} {b o j c : Nat} {x : Option Nat} {s : Nat} {cs : List Value} (hL : L ≤ b) (h : m.rd b = some ⟨s, cs, none⟩) (hn : o + j * 2 ≤ cs.length) :
    ∃ cs', aclear Tryd.prog L m 43 (.slice (some ⟨b, o, x⟩) j c) = some (Go.undef, (match j with | 0 => m | _ => m.put b (some ⟨s, cs', none⟩))) ∧ cs'.length = cs.length ∧ cs'.take o = cs.take o := by
  cases j with
  | zero =>
    refine ⟨cs, ?_, rfl, rfl⟩
    unfold aclear
    simp only [u43]
  | succ j =>
    have hz := zrow_len (.int .i64 0) (.int .i64 0) (j + 1)
    refine ⟨cs.take o ++ (azrow [.int .i64 0, .int .i64 0] (j + 1) ++ cs.drop (o + (j + 1) * 2)), ?_, ?_, ?_⟩
    · unfold aclear
      rw [u43]
      simp only [az45]
      have : awr L m b o (azrow [.int .i64 0, .int .i64 0] (Nat.succ j)) = some (m.put b (some ⟨s, cs.take o ++ (azrow [.int .i64 0, .int .i64 0] (j + 1) ++ cs.drop (o + (j + 1) * 2)), none⟩)) := by
        have hz2 : (azrow [.int .i64 0, .int .i64 0] (Nat.succ j)).length = (j + 1) * 2 := hz
        unfold awr
        simp only [ble_t hL, h, show Nat.add o (azrow [.int .i64 0, .int .i64 0] (Nat.succ j)).length = o + (j + 1) * 2 from by rw [hz2]; rfl, ble_t hn, zrow_one, Bool.and_self]
      rw [this]
    · rw [List.length_append, List.length_append, List.length_take, hz, List.length_drop]; omega
    · rw [List.take_append_of_le_length (by rw [List.length_take]; omega), List.take_take, Nat.min_self]
theorem row_of {cs : List Value} {l : List Hp} {j : Nat} (h : cs.take (l.length * 2) = pcs l) (hj : j < l.length) : (cs.drop (j * 2)).take 2 = row2 l[j] := by
  rw [← pcs_at hj, ← h, List.drop_take, List.take_take, Nat.min_eq_left (by omega)]
section
variable {lf n L : Nat} {m : Mem} {k : Value → Mem → Option Unit}
/-- A heap is asked whether it is turned now. -/
theorem fn80_sp {q1 q2 q3 hr t : Nat} {h : Hp} (hI : Rd3 m q1 q2 q3 hr t) (ht : t ≤ 1) (hL : L ≤ q2)
    (hno : ¬ (h.1 ≤ hr ∧ t = 0) → ∀ m', Gt m m' → k (.bool false) m' = some ()) (hyes : h.1 ≤ hr → t = 0 → ∀ m', GtX (· = q2) m m' → NC m' q2 1 → k (.bool true) m' = some ()) :
    oCallV (runT (tab lf) (n + 1)) (fv80 q1 q2 q3) [.agg ⟨row2 h⟩] L m k = some () := by
  unfold fv80
  rw [oCallV_e (hf := rfl)]
  show runT (tab lf) (n + 1) 80 [.agg ⟨row2 h⟩, .pointer (some ⟨q1, 0, none⟩), .pointer (some ⟨q2, 0, none⟩), .pointer (some ⟨q3, 0, none⟩)] L m k = some ()
  rw [r80]; dsimp only [S80, iofNat, inegSucc]
  rw [uc_e, uc_e, uc_e, uc_e, un0_e]
  show (oRes (abox m (.agg ⟨[.int .i64 (h.1 : Int), .int .i64 (h.2 : Int)]⟩)) _) = some ()
  refine bx2 fun m1 e1 p1 n1 => ?_
  have hI1 := hI.mono e1
  rw [fa0, oOpt_e, ld2a p1, oOpt_e, ldc hI1.hour, oOpt_e, oInt_leq, join_e]
  refine oGT_dec (fun h1 => ?_) (fun h1 => ?_)
  · rw [ldc hI1.turn, oOpt_e, ldc hI1.hand, oOpt_e, oInt_lss]
    (try dsimp only)
    rw [uc_e, decide_eq_true h1, oPick_t, join_e]
    refine oIf_dec (fun h2 => ?_) (fun h2 => ?_)
    · have ht0 : t = 0 := by omega
      subst ht0
      rw [ldc hI1.turn, oOpt_e, oInt_add ⟨by omega, by omega⟩, st1c hI1.turn hL rfl rfl, oRes_e]
      (try dsimp only)
      rw [decide_eq_true h2]
      exact hyes (by omega) rfl _ ((GtX.of e1 : GtX (· = q2) m m1).put (b := q2) rfl _) (Mem.rd_put_eq _ _ hI1.turn.lt)
    · (try dsimp only)
      rw [decide_eq_false h2]
      exact hno (by omega) m1 e1
  · (try dsimp only)
    rw [uc_e, decide_eq_false h1, oPick_f, join_e, oIf_f]
    (try dsimp only)
    exact hno (by omega) m1 e1
theorem index104_sp {v : Value} {l : List Hp} {q1 q2 q3 hr : Nat} (hlf : 1000000 ≤ lf) (hv : PL m v l) (hl : l.length < 1000) (hI : Rd3 m q1 q2 q3 hr 0) (hL : L ≤ q2)
    (hno : ∀ m', Gt m m' → (∀ h ∈ l, ¬ h.1 ≤ hr) → k (.int .i64 (-1)) m' = some ())
    (hyes : ∀ i m', GtX (· = q2) m m' → NC m' q2 1 → (hi : i < l.length) → l[i].1 ≤ hr → (∀ h ∈ l.take i, ¬ h.1 ≤ hr) → k (.int .i64 (i : Int)) m' = some ()) :
    runT (tab lf) (n + 2) 104 [v, fv80 q1 q2 q3] L m k = some () := by
  rw [r104]; dsimp only [S104, iofNat, inegSucc]
  rw [uc_e, uc_e, un0_e, hv.ln, oOpt_e]
  refine loop_up l.length (fun i vs m' => vs = [.int .i64 (i : Int)] ∧ Gt m m' ∧ ∀ h ∈ l.take i, ¬ h.1 ≤ hr) (by omega) ⟨rfl, Gt.refl _, fun j h => by simp at h⟩ ?_
  rintro i vs m1 hi ⟨rfl, e1, hp⟩ self hself
  rw [uc_e, oInt_lss]
  refine oIf_dec (fun hc => ?_) (fun hc => ?_)
  · have hil : i < l.length := by omega
    have hvm := hv.mono e1
    rw [hvm.ia hil, oOpt_e, hvm.ldN hil, oOpt_e]
    refine fn80_sp (hI.mono e1) (by omega) hL (fun hn m2 e2 => ?_) (fun h1 _ m2 e2 t2 => ?_)
    · rw [oIf_f, oInt_add ⟨by omega, by omega⟩]
      refine hself hil _ _ ⟨rfl, e1.trans e2, fun h hh => ?_⟩
      rw [List.take_add_one, List.getElem?_eq_getElem hil] at hh
      rcases List.mem_append.1 hh with hh | hh
      · exact hp h hh
      · rw [Option.toList_some, List.mem_singleton] at hh
        rw [hh]; exact fun h => hn ⟨h, rfl⟩
    · rw [oIf_t]
      exact hyes i m2 ((GtX.of e1).trans e2) t2 hil h1 hp
  · rw [show (-(0 + 1) : Int) = -1 from rfl]
    exact hno m1 e1 fun h hh => hp h (by rw [List.take_of_length_le (by omega)]; exact hh)
set_option maxHeartbeats 1000000 in
/-- The heap that is turned goes. -/
theorem delete79_sp {M0 : Nat} {v : Value} {l : List Hp} {q1 q2 q3 hr : Nat} (hlf : 1000000 ≤ lf) (hLM : L ≤ M0) (hLn : L ≤ m.next) (hv : OW M0 m v l) (hl : l.length < 1000) (hI : Rd3 m q1 q2 q3 hr 0) (hL : L ≤ q2)
    (hne : 0 < l.length → ∀ c, bid v = some c → c ≠ q1 ∧ c ≠ q2 ∧ c ≠ q3) (h13 : q1 ≠ q2) (h23 : q3 ≠ q2)
    (hk : ∀ u m', m.next ≤ m'.next → (∀ c, c < m.next → bid v ≠ some c → c ≠ q2 → m'.rd c = m.rd c) → OW M0 m' u (delH l hr) → (∀ c, bid u = some c → bid v = some c) → k u m' = some ()) :
    runT (tab lf) (n + 3) 79 [v, fv80 q1 q2 q3] L m k = some () := by
  rw [r79]; dsimp only [S79, iofNat, inegSucc]
  rw [uc_e, uc_e, un0_e]
  refine index104_sp (n := n) hlf hv.pl hl hI hL (fun m1 e1 hno => ?_) (fun i0 m1 e1 t1 hi0 hyes hpre => ?_)
  · rw [oInt_eql, decide_eq_true (by rfl), oIf_t]
    refine hk v m1 e1.next (fun c hc _ _ => e1.kept c hc) ?_ fun c hc => hc
    rw [delH_none hno]
    exact hv.mono e1
  · rw [oInt_eql, decide_eq_false (by omega), oIf_f, oInt_add ⟨by omega, by omega⟩]
    rcases hv with ⟨rfl, rfl⟩ | ⟨_, _, _, rfl, rfl, _⟩ | ⟨b, c, cs, hb, rfl, hr0, hcl, hlc, htk⟩
    · exact absurd hi0 (by simp)
    · exact absurd hi0 (by simp)
    obtain ⟨hb1, hb2, hb3⟩ := hne (by omega) b rfl
    have n1 := e1.next
    have hbl := Mem.rd_lt hr0
    have hr1 := (e1.kept b hbl hb2).trans hr0
    have hI1 : Rd3 m1 q1 q2 q3 hr 1 := ⟨(e1.kept _ hI.hour.lt h13).trans hI.hour, t1, (e1.kept _ hI.hand.lt h23).trans hI.hand⟩
    have hlast := delH_first hi0 hyes hpre
    obtain ⟨F, hF⟩ : ∃ F : Nat → List Hp, F = fun j => l.take i0 ++ (l.take j).drop (i0 + 1) := ⟨_, rfl⟩
    have hF0 : F (i0 + 1) = l.take i0 := by
      rw [hF]
      show l.take i0 ++ (l.take (i0 + 1)).drop (i0 + 1) = l.take i0
      rw [List.drop_eq_nil_of_le (by rw [List.length_take]; omega), List.append_nil]
    have hFl : ∀ j, j ≤ l.length → i0 + 1 ≤ j → (F j).length + 1 = j := fun j hj hij => by
      rw [hF]
      show (l.take i0 ++ (l.take j).drop (i0 + 1)).length + 1 = j
      rw [List.length_append, List.length_take, List.length_drop, List.length_take]
      omega
    refine loop_up (l.length - (i0 + 1)) (fun q vs m' => ∃ cs', vs = [.int .i64 ((F (i0 + 1 + q)).length : Int), .int .i64 ((i0 + 1 + q : Nat) : Int)] ∧ m1.next ≤ m'.next ∧ (∀ c, c < m1.next → c ≠ b → m'.rd c = m1.rd c) ∧ m'.rd b = some ⟨2, cs', none⟩ ∧ cs'.length = cs.length ∧
      cs'.take ((F (i0 + 1 + q)).length * 2) = pcs (F (i0 + 1 + q)) ∧ cs'.drop ((i0 + 1 + q) * 2) = cs.drop ((i0 + 1 + q) * 2)) (by omega)
      ⟨cs, by rw [Nat.add_zero, hF0, List.length_take, Nat.min_eq_left (by omega)]; rfl, Nat.le_refl _, fun _ _ _ => rfl, hr1, rfl, ?_, rfl⟩ ?_
    · rw [Nat.add_zero, hF0]
      have h1 : l = l.take i0 ++ l.drop i0 := (List.take_append_drop i0 l).symm
      have h2 : pcs l = pcs (l.take i0) ++ pcs (l.drop i0) := by rw [← pcs_app, ← h1]
      have hK : (l.take i0).length * 2 = (pcs (l.take i0)).length := (pcs_len _).symm
      have h3 := congrArg (List.take (pcs (l.take i0)).length) htk
      rw [List.take_take, Nat.min_eq_left (by rw [pcs_len, List.length_take]; omega), h2, List.take_left] at h3
      rw [hK]
      exact h3
    · rintro q vs m2 hq ⟨cs', rfl, n2, k2, hr2, hcl2, htk2, hdr2⟩ self hself
      have hFq := hFl (i0 + 1 + q) (by omega) (by omega)
      have hI2 : Rd3 m2 q1 q2 q3 hr 1 := ⟨(k2 _ hI1.hour.lt (Ne.symm hb1)).trans hI1.hour, (k2 _ hI1.turn.lt (Ne.symm hb2)).trans hI1.turn, (k2 _ hI1.hand.lt (Ne.symm hb3)).trans hI1.hand⟩
      rw [uc_e, uc_e, ln_e, oOpt_e, oInt_lss]
      refine oIf_dec (fun hc => ?_) (fun hc => ?_)
      · obtain ⟨j, hj⟩ : ∃ j, j = i0 + 1 + q := ⟨_, rfl⟩
        rw [← hj] at hFq htk2 hdr2 hc ⊢
        rw [show i0 + 1 + (q + 1) = j + 1 by omega] at hself
        have hjl : j < l.length := by omega
        have hrow := row_of htk hjl
        have hrd : ldN m2 2 (.pointer (some ⟨b, j * 2, none⟩)) = some (.agg ⟨row2 l[j]⟩) := by
          rw [ldN_u, hr2, rdn_e _ _ _ _ (by omega), hdr2, hrow]
        have hFs : F (j + 1) = F j ++ [l[j]] := by
          rw [hF]
          show l.take i0 ++ (l.take (j + 1)).drop (i0 + 1) = l.take i0 ++ (l.take j).drop (i0 + 1) ++ [l[j]]
          rw [List.take_add_one, List.getElem?_eq_getElem hjl, Option.toList_some, List.drop_append_of_le_length (by rw [List.length_take]; omega), List.append_assoc]
        rw [ia_e hjl, Nat.zero_add, oOpt_e, hrd, oOpt_e]
        show (oRes (anew m2 1 [.int .i64 0, .int .i64 0] ptrTo) fun t m' => oRes (st1 2 L m' t (.agg ⟨[.int .i64 (l[j].1 : Int), .int .i64 (l[j].2 : Int)]⟩)) _) = some ()
        refine mk2 (by omega) rfl fun m3 e3 p3 n3 => ?_
        rw [ldN2 p3, oOpt_e]
        refine fn80_sp (n := n + 1) (h := l[j]) (hI2.mono e3) (Nat.le_refl 1) hL (fun _ m4 e4 => ?_) (fun _ h => by omega)
        have n4 := e4.next
        have q4 := (e4.kept _ (by omega)).trans p3
        have hr4 := (e4.kept b (by omega)).trans ((e3.kept b (by omega)).trans hr2)
        have k4 : ∀ c, c < m1.next → c ≠ b → m4.rd c = m1.rd c := fun c hc hn => (e4.kept c (by omega)).trans ((e3.kept c (by omega)).trans (k2 c hc hn))
        rw [aun_not, oOpt_e, join_e]
        have hfl : (F (j + 1)).length = (F j).length + 1 := by rw [hFs, List.length_append]; rfl
        rw [Bool.not_false, oIf_t, ldN2 q4, oOpt_e, ia_e (by omega), Nat.zero_add, oOpt_e]
        have hst : st1 2 L m4 (.pointer (some ⟨b, (F j).length * 2, none⟩)) (.agg ⟨[.int .i64 (l[j].1 : Int), .int .i64 (l[j].2 : Int)]⟩) = some (Go.undef, m4.put b (some ⟨2, cs'.take ((F j).length * 2) ++ (row2 l[j] ++ cs'.drop ((F j).length * 2 + 2)), none⟩)) := by
          rw [st1_u, hr4]
          exact stw_e (by omega) rfl (by omega) rfl
        rw [hst, oRes_e, oInt_add ⟨by omega, by omega⟩]
        (try dsimp only)
        rw [uc_e, oInt_add ⟨by omega, by omega⟩]
        have hlt : (cs'.take ((F j).length * 2)).length = (F j).length * 2 := by rw [List.length_take]; omega
        refine hself (by omega) _ _ ⟨_, by rw [hfl]; rfl, by show m1.next ≤ m4.next; omega, fun c hc hn => (Mem.rd_put _ _ _ _ (Ne.symm hn)).trans (k4 c hc hn), Mem.rd_put_eq _ _ (Mem.rd_lt hr4), ?_, ?_, ?_⟩
        · rw [List.length_append, hlt, List.length_append, List.length_drop]
          show (F j).length * 2 + (2 + _) = _
          omega
        · rw [hfl, show ((F j).length + 1) * 2 = (cs'.take ((F j).length * 2)).length + 2 by rw [hlt]; omega, List.take_length_add_append, htk2, hFs, pcs_app]
          rfl
        · rw [show (j + 1) * 2 = (cs'.take ((F j).length * 2)).length + (2 + (j * 2 - (F j).length * 2)) by rw [hlt]; omega, List.drop_length_add_append, ← List.drop_drop]
          show (cs'.drop ((F j).length * 2 + 2)).drop (j * 2 - (F j).length * 2) = _
          rw [List.drop_drop, show (F j).length * 2 + 2 + (j * 2 - (F j).length * 2) = j * 2 + 2 by omega, ← List.drop_drop, hdr2, List.drop_drop]
          congr 1
          omega
      · have hqe : i0 + 1 + q = l.length := by omega
        rw [hqe] at hFq htk2 ⊢
        have hFe : F l.length = delH l hr := by rw [hF, hlast]; show l.take i0 ++ (l.take l.length).drop (i0 + 1) = _; rw [List.take_length]
        rw [hFe] at hFq htk2 ⊢
        generalize delH l hr = g at hFq htk2 hk ⊢
        rw [sl_from u43 ts45 (by omega) (by omega) hlc, oOpt_e]
        obtain ⟨cs3, h3, h4, h5⟩ := aclear43 (L := L) (m := m2) (b := b) (o := g.length * 2) (j := l.length - g.length) (c := c - g.length) (x := none) (by omega) hr2 (by omega)
        obtain ⟨j, hj⟩ : ∃ j, l.length - g.length = j + 1 := ⟨l.length - g.length - 1, by omega⟩
        rw [hj] at h3 ⊢
        rw [h3, oRes_e, sl_hi u43 ts45 (by omega), oOpt_e]
        refine hk _ _ (by show m.next ≤ m2.next; omega) (fun c' hc hn hn2 => ?_) (.inr (.inr ⟨b, c, cs3, hb, rfl, Mem.rd_put_eq _ _ (Mem.rd_lt hr2), by omega, by omega, by rw [h5]; exact htk2⟩)) (fun c' hc => hc)
        have hne2 : b ≠ c' := fun e => hn (by rw [← e]; rfl)
        exact (Mem.rd_put _ _ _ _ hne2).trans ((k2 c' (by omega) (Ne.symm hne2)).trans (e1.kept c' hc hn2))
set_option maxHeartbeats 1000000 in
/-- Whether heaps can be turned. -/
theorem possible_sp {v : Value} {l : List Hp} (hlf : 1000000 ≤ lf) (hL : L ≤ m.next) (hv : PL m v l) (hl : l.length ≤ 10) (hr : ∀ h ∈ l, h.2 ≤ 23) (hk : ∀ m', Gt m m' → k (.bool (possN l)) m' = some ()) :
    runT (tab lf) (n + 5) 49 [v, .int .i64 1] L m k = some () := by
  rw [r49]; dsimp only [S49, iofNat, inegSucc]
  rw [uc_e, uc_e, un0_e]
  refine bx1 rfl fun m1 e1 p1 n1 => ?_
  refine clone50_sp (by omega) (hv.mono e1) (by omega) fun u m2 e2 hu => ?_
  have n2 := e2.next
  refine sortH_sp (m0 := m1) hlf hu (by omega) n2 e2 (Nat.le_refl _) hl hr fun m3 n3 k3 hu3 => ?_
  have hb3 : ∀ c, c < m1.next → m3.rd c = m1.rd c := fun c hc => (k3 c (by omega) fun hb => by have := hu.fr c hb; omega).trans (e2.kept c hc)
  have hq3 : NC m3 m.next 1 := (hb3 _ (by omega)).trans p1
  have e03 : Gt m m3 := ⟨by omega, fun c hc => (hb3 c (by omega)).trans (e1.kept c hc)⟩
  refine mk1 (by omega) rfl rfl fun m4 e4 p4 n4 => ?_
  have hlen := isoT_len l []
  have hr2 : ∀ h ∈ isoT [] l, h.2 ≤ 23 := fun h hh => by
    rcases mem_isoT hh with hh | hh
    · cases hh
    · exact hr h hh
  have hkk : ∀ b m', b = possN l → Gt m m' → k (.bool b) m' = some () := fun b m' hb e => by rw [hb]; exact hk m' e
  unfold possN at hkk
  have hu4 := hu3.mono e4
  have hlen2 : (isoT [] l).length ≤ 10 := by rw [hlen]; simp; omega
  have hub : 0 < (isoT [] l).length → ∀ c, bid u = some c → c < m3.next := fun h0 => hu3.lt h0
  generalize isoT [] l = l0 at hr2 hkk hu4 hlen2 hub
  clear hu3 hlen
  refine loop_up 25 (fun i vs m' => ∃ (u : Value) (g : List Hp) (q1 : Nat), vs = [u, .pointer (some ⟨q1, 0, none⟩)] ∧ Gt m m' ∧ NC m' q1 i ∧ NC m' m.next 1 ∧ OW m1.next m' u g ∧ m1.next ≤ q1 ∧ (0 < g.length → ∀ c, bid u = some c → c < q1) ∧ g.length ≤ 10 ∧ (∀ h ∈ g, h.2 ≤ 23) ∧ (0 < i → stuck g (i - 1) = false) ∧ posL (25 - i) i g = posL 25 0 l0) (by omega)
    ⟨u, l0, m3.next, rfl, e03.trans e4, p4, hq3.mono e4, hu4, by omega, hub, hlen2, hr2, fun h => by omega, rfl⟩ ?_
  rintro i vs m5 hi ⟨u, g, q1, rfl, e5, c1, c3, hu5, hq1, hug, hgl, hg23, hst, hpos⟩ self hself
  have n5 := e5.next
  rw [uc_e, uc_e, hu5.pl.ln, oOpt_e, oInt_gtr]
  refine oIf_dec (fun hc => ?_) (fun hc => ?_)
  · cases g with
    | nil => simp at hc
    | cons a g =>
      have hi24 : i < 24 := by
        refine Nat.lt_of_not_le fun h => ?_
        have h1 := of_decide_eq_false (hst (by omega))
        have h2 := hg23 a (List.mem_cons_self ..)
        omega
      have hstep : posL (25 - i) i (a :: g) = if stuck (delH (a :: g) i) i = true then false else posL (25 - (i + 1)) (i + 1) (delH (a :: g) i) := by
        rw [show 25 - i = (25 - (i + 1)) + 1 by omega]; rfl
      rw [hstep] at hpos
      generalize hG : a :: g = G at hc hu5 hug hgl hg23 hpos
      have hq1l := c1.lt
      refine mk1 (by omega) rfl rfl fun m6 e6 p6 n6 => ?_
      have hI6 : Rd3 m6 q1 m5.next m.next i 0 := ⟨c1.mono e6, p6, c3.mono e6⟩
      have hGl : 0 < G.length := by omega
      refine delete79_sp (n := n + 1) (M0 := m1.next) hlf (by omega) (by omega) (hu5.mono e6) (by omega) hI6 (by omega) (fun _ c hb => ?_) (by omega) (by have := c3.lt; omega) fun u7 m7 n7 k7 hu7 hb7 => ?_
      · have h1 := hug hGl c hb
        have h2 := hu5.fr c hb
        omega
      · have hdl : (delH G i).length ≤ G.length := (delH_sub G i).length_le
        have hd23 : ∀ h ∈ delH G i, h.2 ≤ 23 := fun h hh => hg23 h ((delH_sub G i).subset hh)
        have c17 : NC m7 q1 i := (k7 _ (by omega) (fun hb => by have := hug hGl _ hb; omega) (by omega)).trans hI6.hour
        have c37 : NC m7 m.next 1 := (k7 _ (by have := c3.lt; omega) (fun hb => by have := hu5.fr _ hb; omega) (by have := c3.lt; omega)).trans hI6.hand
        have e57 : Gt m m7 := ⟨by omega, fun c hc => (k7 c (by omega) (fun hb => by have := hu5.fr _ hb; omega) (by omega)).trans ((e6.kept c (by omega)).trans (e5.kept c hc))⟩
        rw [hu7.pl.ln, oOpt_e, oInt_gtr, join_e]
        have hgo : stuck (delH G i) i = false → (oOpt (ld1 m7 (.pointer (some ⟨q1, 0, none⟩))) fun t37 => oRes (anew m7 1 [.int .i64 0] ptrTo) fun t38 m39 => oRes (st1 1 L m39 t38 t37) fun t40 m41 => oOpt (ld1 m41 t38) fun t42 => oInt .add .i64 t42 (.int .i64 1) fun t43 => oRes (st1 1 L m41 t38 t43) fun t44 m45 => self [u7, t38] m45) = some () := by
          intro hs
          rw [ldc c17, oOpt_e]
          refine mk1 (by omega) rfl rfl fun m8 e8 p8 n8 => ?_
          rw [ldc p8, oOpt_e, oInt_add ⟨by omega, by omega⟩, st1c p8 (by omega) rfl rfl, oRes_e]
          have hput : ∀ c, c < m7.next → (m8.put m7.next (some ⟨1, [.int .i64 ((i : Int) + 1)], none⟩)).rd c = m7.rd c := fun c hc => (Mem.rd_put _ _ _ _ (by omega)).trans (e8.kept c hc)
          have e7 : Gt m7 (m8.put m7.next (some ⟨1, [.int .i64 ((i : Int) + 1)], none⟩)) := ⟨e8.next, hput⟩
          rw [if_neg (by rw [hs]; simp)] at hpos
          exact hself (by omega) _ _ ⟨u7, delH G i, m7.next, rfl, e57.trans e7, Mem.rd_put_eq _ _ (Mem.rd_lt p8), c37.mono e7, hu7.mono e7, by omega, fun h0 => hu7.lt h0, by omega, hd23, fun _ => hs, hpos⟩
        refine oGT_dec (fun h1 => ?_) (fun h1 => ?_)
        · have hd0 : 0 < (delH G i).length := by omega
          obtain ⟨q, hqa, hqb⟩ := hu7.pl.ld1b (i := 0) hd0
          rw [show (Value.int .i64 0) = .int .i64 ((0 : Nat) : Int) from rfl, hu7.pl.ia hd0, oOpt_e, hqa, oOpt_e, hqb, oOpt_e, ldc c17, oOpt_e, oInt_leq]
          (try dsimp only)
          rw [uc_e, decide_eq_true h1, oPick_t]
          have hsg : ∀ (g : List Hp) (h : 0 < g.length), stuck g i = decide (g[0].2 ≤ i) := fun g h => by
            cases g with
            | nil => simp at h
            | cons b r => rfl
          have hsd := hsg _ hd0
          refine oIf_dec (fun h2 => ?_) (fun h2 => ?_)
          · rw [hsd, if_pos (decide_eq_true (by omega))] at hpos
            exact hkk _ _ hpos e57
          · exact hgo (by rw [hsd]; exact decide_eq_false (by omega))
        · (try dsimp only)
          rw [uc_e, decide_eq_false h1, oPick_f, oIf_f]
          refine hgo ?_
          have : delH G i = [] := List.length_eq_zero_iff.1 (by omega)
          rw [this]; rfl
  · have hg0 : g = [] := List.length_eq_zero_iff.1 (by omega)
    subst hg0
    rw [posL_nil] at hpos
    exact hkk _ _ hpos e5
end
end Go.Vit
