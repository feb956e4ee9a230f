/- The law TopCovered: its walk. -/
import Derived.Test.YtppallabmjdolaaGreatDoorCovB
import Derived.Test.YtppallabmjdolaaGreatDoorCoreD
set_option linter.unusedSimpArgs false
set_option linter.unusedVariables false
set_option maxRecDepth 20000
namespace Go.Vit
open Go Go.Proofs
attribute [local irreducible] runT loopS
theorem cshr3 (x i : Nat) (hi : i ≤ 64) : abin Tryz.prog .shr 3 (.int .i64 (x : Int)) (.int .i64 (i : Int)) = some (.int .i64 ((x >>> i : Nat) : Int)) := by
  show ashift .shr .i64 (Int.ofNat x) (Int.ofNat i) = _
  unfold ashift
  rw [show ilt (Int.ofNat i) 0 = false by rw [ilt_e]; exact decide_eq_false (by rw [Int.ofNat_eq_natCast]; omega)]
  show mkI .i64 (ashr (Int.ofNat x) (nmin i 64)) = _
  have : nmin i 64 = i := by unfold nmin; rw [Nat.ble_eq_true_of_le hi]
  rw [this, mkI_e]; rfl
theorem RoomOf.uniq {N : Nat} {l : List (Nat × Nat)} {r s : List Nat} (h : RoomOf N l r) (h' : RoomOf N l s) : r = s := by
  refine List.ext_getElem (h.1.trans h'.1.symm) fun i h1 h2 => Nat.eq_of_testBit_eq fun j => ?_
  rw [h.2 i h1 j, h'.2 i h2 j]
theorem u32_nat {x : Int} (h : (Lit.int .u32 x).wf = true) : ∃ a : Nat, x = a ∧ a < 4294967296 := by
  have h1 : IntKind.u32.min ≤ x ∧ x ≤ IntKind.u32.max := by simpa [Lit.wf] using h
  have h2 : (0 : Int) ≤ x := h1.1
  have h3 : x ≤ (4294967295 : Int) := h1.2
  exact ⟨x.toNat, by omega, by omega⟩
def monoI (r : List Nat) (a b c : Nat) : Int := if monoB r a b c = true then 1 else 0
theorem monoI_bd (r : List Nat) (a b c : Nat) : 0 ≤ monoI r a b c ∧ monoI r a b c ≤ 1 := by unfold monoI; split <;> omega
def m3I (r : List Nat) (a b : Nat) (j : Nat) : Int := sumI (fun c => monoI r a b c) j
def m2I (r : List Nat) (a : Nat) (j : Nat) : Int := sumI (fun b => m3I r a b b) j
def m1I (r : List Nat) (j : Nat) : Int := sumI (fun a => m2I r a a) j
theorem m3_bd (r : List Nat) (a b : Nat) {j : Nat} (hj : j ≤ 6) : 0 ≤ m3I r a b j ∧ m3I r a b j ≤ 6 := by
  have := sumI_bd (f := fun c => monoI r a b c) (c := 1) (n := j) fun i _ => monoI_bd r a b i
  unfold m3I; omega
theorem m2_bd (r : List Nat) (a : Nat) {j : Nat} (hj : j ≤ 6) : 0 ≤ m2I r a j ∧ m2I r a j ≤ 36 := by
  have := sumI_bd (f := fun b => m3I r a b b) (c := 6) (n := j) fun i hi => m3_bd r a i (by omega)
  unfold m2I; omega
theorem m1_bd (r : List Nat) {j : Nat} (hj : j ≤ 6) : 0 ≤ m1I r j ∧ m1I r j ≤ 216 := by
  have := sumI_bd (f := fun a => m2I r a a) (c := 36) (n := j) fun i hi => m2_bd r i (by omega)
  unfold m1I; omega
theorem m1_tI (r : List Nat) (N : Nat) : m1I r N = tI (eR r) N := by
  unfold m1I tI
  refine sumI_congr fun a _ => ?_
  unfold m2I pairI
  refine sumI_congr fun b _ => ?_
  unfold m3I
  refine sumI_congr fun c _ => ?_
  exact (tau_mono r a b c).symm
theorem barL_len {N : Nat} (hN : N ≤ 6) (B : Nat → Nat → Bool) : (barL N B).length ≤ 64 := by
  have h64 : 2 ^ N ≤ 64 := Nat.le_trans (Nat.pow_le_pow_right (by omega) hN) (by decide)
  have := List.length_filter_le (mostB (fun g => !mayB (opsOf N B) g) (2 ^ N)) (List.range (2 ^ N))
  rw [List.length_range] at this
  unfold barL
  omega
theorem barL_lt {N : Nat} (hN : N ≤ 6) {B : Nat → Nat → Bool} {b : Nat} (hb : b ∈ barL N B) : b < 64 := by
  have h64 : 2 ^ N ≤ 64 := Nat.le_trans (Nat.pow_le_pow_right (by omega) hN) (by decide)
  have := (mem_barL.1 hb).1
  omega
section
variable {lf n L : Nat} {m : Mem} {k : Value → Mem → Option Unit}
set_option maxHeartbeats 4000000 in
theorem coveredL_sp {a set : Nat} (hlf : 1000000 ≤ lf) (hL : L ≤ m.next) (hT : TabOk mTab m) (ha : a < 256) (hset : set < 4294967296) (hk : ∀ m', Gt m m' → k (.bool true) m' = some ()) :
    runT (tabC lf) (n + 30) 7 [.int .u8 (a : Int), .int .u32 (set : Int)] L m k = some () := by
  rw [r7]; dsimp only [S7p, iofNat, inegSucc]
  have ha6 := Nat.mod_lt a (show 0 < 6 by omega)
  have r6 : ∀ K : Value → Option Unit, oInt .rem .i64 (.int .i64 (a : Int)) (.int .i64 6) K = K (.int .i64 ((a % 6 : Nat) : Int)) := fun K => oInt_remN (b := 6) (by omega) K
  rw [uc_e, uc_e, un0_e, oCv_nat (by omega), r6, oInt_add ⟨by omega, by omega⟩]
  obtain ⟨N, hNe⟩ : ∃ N, N = 1 + a % 6 := ⟨_, rfl⟩
  rw [show (1 : Int) + ((a % 6 : Nat) : Int) = (N : Int) by omega]
  have h1 : 1 ≤ N := by omega
  have hN : N ≤ 6 := by omega
  refine mk1 (by omega) rfl rfl fun m1 e1 q1 n1 => ?_
  rw [ldc q1, oOpt_e]
  refine seated_sp hlf (by omega) hN hset fun v m2 e2 hv => ?_
  obtain ⟨B, hB⟩ : ∃ B, B = setB N set := ⟨_, rfl⟩
  rw [← hB] at hv
  have n2 := e2.next
  obtain ⟨vp, vc, hvs⟩ := hv.pl.ex
  refine mk2 (by omega) (by rw [hvs]; rfl) fun m3 e3 q3 n3 => ?_
  rw [ldN2 q3, oOpt_e]
  refine Others_sp hlf (by omega) h1 hN (hv.pl.mono e3) fun u m4 e4 hu => ?_
  have n4 := e4.next
  simp only [aextract_e, List.getElem?_cons_zero, List.getElem?_cons_succ, oOpt_e]
  obtain ⟨up, ucc, hus⟩ := hu.pl.ex
  refine mk2 (by omega) (by rw [hus]; rfl) fun m5 e5 q5 n5 => ?_
  have E25 := (e3.trans e4).trans e5
  have q35 := ((e4.trans e5).kept _ (by omega)).trans q3
  have q15 := ((e2.trans E25).kept _ (by omega)).trans q1
  have z0 : (!decide ((0 : Int) = 0)) = false := rfl
  rw [oInt_neq, z0]
  (try dsimp only)
  rw [join_e, oGF_f, ldN2 q5, oOpt_e, ldc q15, oOpt_e]
  refine tidy39_sp hlf (by omega) h1 hN (hu.pl.mono e5) fun m6 e6 => ?_
  have n6 := e6.next
  have q56 := (e6.kept _ (by omega)).trans q5
  have q36 := (e6.kept _ (by omega)).trans q35
  have q16 := (e6.kept _ (by omega)).trans q15
  rw [aun_not, oOpt_e, Bool.not_true]
  (try dsimp only)
  rw [uc_e, oPick_f, oIf_f, ldN2 q36, oOpt_e, oCallV_e (hf := rfl)]
  show runT (tabC lf) (n + 29) 40 [.agg ⟨[.int .i64 (N : Int), v]⟩, .pointer (some ⟨m.next, 0, none⟩)] L m6 _ = some ()
  have hv6 := hv.pl.mono (E25.trans e6)
  have hu6 := hu.pl.mono (e5.trans e6)
  refine closure40_sp hlf (by omega) h1 hN hv6 q16 fun b1 m7 e7 hb1 => ?_
  have n7 := e7.next
  have q57 := (e7.kept _ (by omega)).trans q56
  have q37 := (e7.kept _ (by omega)).trans q36
  have q17 := (e7.kept _ (by omega)).trans q16
  simp only [aextract_e, List.getElem?_cons_zero, List.getElem?_cons_succ, oOpt_e]
  rw [ldN2 q57, oOpt_e, oCallV_e (hf := rfl)]
  show runT (tabC lf) (n + 29) 40 [.agg ⟨[.int .i64 (N : Int), u]⟩, .pointer (some ⟨m.next, 0, none⟩)] L m7 _ = some ()
  refine closure40_sp hlf (by omega) h1 hN (hu6.mono e7) q17 fun b2 m8 e8 hb2 => ?_
  have n8 := e8.next
  have q38 := (e8.kept _ (by omega)).trans q37
  have q18 := (e8.kept _ (by omega)).trans q17
  simp only [aextract_e, List.getElem?_cons_zero, List.getElem?_cons_succ, oOpt_e]
  rw [ldN2 q38, oOpt_e]
  have hv8 := hv6.mono (e7.trans e8)
  refine Counts_sp hlf (by omega) h1 hN hv8 fun c m9 r e9 hr hc => ?_
  have n9 := e9.next
  have q39 := (e9.kept _ (by omega)).trans q38
  have q19 := (e9.kept _ (by omega)).trans q18
  have hv9 := hv8.mono e9
  have hb19 := hb1.mono (e8.trans e9)
  have hb29 := hb2.mono e9
  have hc : IN m9 c (r.map pop) := hc.inn
  have hrl : r.length = N := hr.1
  have hcl : (r.map pop).length = N := by rw [List.length_map]; exact hrl
  have hl1 := barL_len hN B
  have hl2 := barL_len hN fun x y => !B x y
  have E9 : Gt m m9 := (((e1.trans e2).trans E25).trans e6).trans ((e7.trans e8).trans e9)
  simp only [aextract_e, List.getElem?_cons_zero, List.getElem?_cons_succ, oOpt_e]
  rw [aun_not, oOpt_e, Bool.not_true]
  (try dsimp only)
  rw [join_e, oGF_f, oOpt_e]
  (try dsimp only)
  rw [uc_e, oPick_f]
  (try dsimp only)
  rw [join_e, oGF_f, oInt_neq, z0]
  (try dsimp only)
  rw [uc_e, oPick_f]
  (try dsimp only)
  rw [join_e, oGF_f, hc.ln, oOpt_e, ldc q19, oOpt_e, oInt_neq, hcl, show (!decide ((N : Int) = (N : Int))) = false by simp]
  (try dsimp only)
  rw [uc_e, oPick_f, oIf_f, ldc q19, oOpt_e]
  -- how many trios lie in a barred set
  refine loop_up N (fun i vs m' => vs = [.int .i64 (m1I r i), .int .i64 (i : Int)] ∧ Gt m9 m') (by omega) ⟨rfl, Gt.refl _⟩ ?_
  rintro i vs m10 hi ⟨rfl, e10⟩ self hself
  have n10 := e10.next
  rw [uc_e, uc_e, oInt_lss]
  refine oIf_dec (fun hc1 => ?_) (fun hc1 => ?_)
  · have hiN : i < N := by omega
    have hm1 := m1_bd r (show i ≤ 6 by omega)
    refine loop_up i (fun j vs m' => vs = [.int .i64 (m1I r i + m2I r i j), .int .i64 (j : Int)] ∧ Gt m9 m') (by omega) ⟨by show [_, _] = [Value.int .i64 (m1I r i + 0), _]; rw [Int.add_zero]; rfl, e10⟩ ?_
    rintro j vs m11 hj ⟨rfl, e11⟩ self2 hself2
    rw [uc_e, uc_e, oInt_lss]
    refine oIf_dec (fun hc2 => ?_) (fun hc2 => ?_)
    · have hji : j < i := by omega
      have hm2 := m2_bd r i (show j ≤ 6 by omega)
      refine loop_up j (fun q vs m' => vs = [.int .i64 (m1I r i + m2I r i j + m3I r i j q), .int .i64 (q : Int)] ∧ Gt m9 m') (by omega) ⟨by show [_, _] = [Value.int .i64 (m1I r i + m2I r i j + 0), _]; rw [Int.add_zero]; rfl, e11⟩ ?_
      rintro q vs m12 hq ⟨rfl, e12⟩ self3 hself3
      have n12 := e12.next
      rw [uc_e, uc_e, oInt_lss]
      refine oIf_dec (fun hc3 => ?_) (fun hc3 => ?_)
      · have hqj : q < j := by omega
        have hm3 := m3_bd r i j (show q ≤ 6 by omega)
        have p1 : 2 ^ i < 64 := Nat.pow_lt_pow_right (n := 6) (by omega) (by omega)
        have p2 : 2 ^ j < 64 := Nat.pow_lt_pow_right (n := 6) (by omega) (by omega)
        have p3 : 2 ^ q < 64 := Nat.pow_lt_pow_right (n := 6) (by omega) (by omega)
        have p12 : 2 ^ i ||| 2 ^ j < 64 := Nat.or_lt_two_pow (n := 6) p1 p2
        have hx := x3_lt hiN (show j < N by omega) (show q < N by omega)
        have h64 : 2 ^ N ≤ 64 := Nat.le_trans (Nat.pow_le_pow_right (by omega) hN) (by decide)
        have hmono := mono_bar (B := B) hr hqj hji hiN
        have hs3 : m3I r i j (q + 1) = m3I r i j q + monoI r i j q := rfl
        rw [hs3] at hself3
        rw [cshl3 _ (by omega), oOpt_e, cshl3 _ (by omega), oOpt_e, oInt_or (by omega) (by omega), cshl3 _ (by omega), oOpt_e, oInt_or (by omega) (by omega), oCallV_e (hf := rfl)]
        show runT (tabC lf) (n + 29) 42 [.int .i64 (x3 i j q : Int), b1] L m12 _ = some ()
        refine lies42_sp hlf (by omega) (hb19.mono e12) (by omega) (fun b hb => barL_lt hN hb) (by omega) fun m13 e13 => ?_
        have n13 := e13.next
        rw [lies_bar hx]
        (try dsimp only)
        rw [join_e]
        have fin : ∀ (t : Bool) (m' : Mem), Gt m9 m' → monoB r i j q = t → (join (fun l106 m107 => uc l106 fun t109 l110 => oInt .add .i64 (.int .i64 (q : Int)) (.int .i64 1) fun t111 => self3 [t109, t111] m107) fun j108 =>
            oIf (.bool t) (oInt .add .i64 (.int .i64 (m1I r i + m2I r i j + m3I r i j q)) (.int .i64 1) fun t112 => j108 [t112] m') (j108 [.int .i64 (m1I r i + m2I r i j + m3I r i j q)] m')) = some () := fun t m' em ht => by
          rw [join_e]
          cases t
          · rw [oIf_f]
            (try dsimp only)
            rw [uc_e, oInt_add ⟨by omega, by omega⟩]
            refine hself3 hqj _ _ ⟨?_, em⟩
            rw [show monoI r i j q = 0 by unfold monoI; rw [ht]; rfl, Int.add_zero]; rfl
          · rw [oIf_t, oInt_add ⟨by omega, by omega⟩]
            (try dsimp only)
            rw [uc_e, oInt_add ⟨by omega, by omega⟩]
            refine hself3 hqj _ _ ⟨?_, em⟩
            rw [show monoI r i j q = 1 by unfold monoI; rw [ht]; rfl, ← Int.add_assoc]; rfl
        cases hA : mayB (opsOf N B) (x3 i j q)
        · rw [hA] at hmono
          rw [Bool.not_false, oGF_t]
          (try dsimp only)
          rw [uc_e, oPick_t]
          exact fin true m13 (e12.trans e13) (by rw [← hmono]; rfl)
        · rw [hA] at hmono
          rw [Bool.not_true, oGF_f, oCallV_e (hf := rfl)]
          show runT (tabC lf) (n + 29) 42 [.int .i64 (x3 i j q : Int), b2] L m13 _ = some ()
          refine lies42_sp hlf (by omega) (hb29.mono (e12.trans e13)) (by omega) (fun b hb => barL_lt hN hb) (by omega) fun m14 e14 => ?_
          rw [lies_bar hx]
          (try dsimp only)
          rw [uc_e, oPick_f]
          exact fin _ m14 ((e12.trans e13).trans e14) (by rw [← hmono]; rfl)
      · have hqj : q = j := by omega
        rw [oInt_add ⟨by omega, by omega⟩]
        refine hself2 hji _ _ ⟨?_, e12⟩
        rw [hqj, show m2I r i (j + 1) = m2I r i j + m3I r i j j from rfl, ← Int.add_assoc]; rfl
    · have hji : j = i := by omega
      rw [oInt_add ⟨by omega, by omega⟩]
      refine hself hiN _ _ ⟨?_, e11⟩
      rw [hji, show m1I r (i + 1) = m1I r i + m2I r i i from rfl]; rfl
  · have hiN : i = N := by omega
    clear hself
    subst hiN
    have hc10 := hc.mono e10
    try rw [hc10.ln]
    try rw [oOpt_e]
    refine loop_up i (fun x vs m' => vs = [.int .i64 (x : Int)] ∧ m' = m10) (by omega) ⟨rfl, rfl⟩ ?_
    rintro x vs m11 hx ⟨rfl, rfl⟩ self hself
    have hb111 := hb19.mono e10
    have hb211 := hb29.mono e10
    have q111 := (e10.kept _ (by omega)).trans q19
    have q311 := (e10.kept _ (by omega)).trans q39
    rw [uc_e, oInt_lss]
    refine oIf_dec (fun hc2 => ?_) (fun hc2 => ?_)
    · have hxi : x < i := by omega
      have hxc : x < (r.map pop).length := by omega
      have hxr : x < r.length := by omega
      have hpx : (r.map pop)[x] = pop (r.getD x 0) := by rw [List.getElem_map, List.getD_eq_getElem?_getD, List.getElem?_eq_getElem hxr]; rfl
      rw [hc10.ia hxc, oOpt_e, hc10.ld hxc, oOpt_e, hpx, hb111.ln, oOpt_e]
      refine loop_up (barL i B).length (fun y vs m' => vs = [.int .i64 (y : Int)] ∧ m' = m11) (by omega) ⟨rfl, rfl⟩ ?_
      rintro y vs m12 hy ⟨rfl, rfl⟩ self2 hself2
      rw [uc_e, oInt_lss]
      refine oIf_dec (fun hc3 => ?_) (fun hc3 => ?_)
      · have hyl : y < (barL i B).length := by omega
        obtain ⟨b, hb⟩ : ∃ b, b = (barL i B)[y] := ⟨_, rfl⟩
        have hbm : b ∈ barL i B := by rw [hb]; exact List.getElem_mem hyl
        have hb64 := barL_lt hN hbm
        rw [hb111.ia hyl, oOpt_e, hb111.ld hyl, oOpt_e, ← hb, oInt_eql]
        have fin : (oIf (.bool false) (k (.bool false) m12) (oInt .add .i64 (.int .i64 (y : Int)) (.int .i64 1) fun t142 => self2 [t142] m12)) = some () := by
          rw [oIf_f, oInt_add ⟨by omega, by omega⟩]
          exact hself2 hyl _ _ ⟨rfl, rfl⟩
        by_cases hp0 : pop (r.getD x 0) = 0
        · have hbit := bar_none hN hr hxi hbm hp0
          have hsx : b >>> x < 9223372036854775808 := Nat.lt_of_le_of_lt (Nat.shiftRight_le _ _) (by omega)
          rw [decide_eq_true (by omega)]
          (try dsimp only)
          rw [join_e, oGT_t, cshr3 _ _ (by omega), oOpt_e, show (Value.int .i64 1) = .int .i64 ((1 : Nat) : Int) from rfl, oInt_and hsx (by omega), bit01, hbit, if_pos rfl, oInt_eql, show decide (((1 : Nat) : Int) = 0) = false from rfl]
          (try dsimp only)
          rw [uc_e, oPick_t]
          exact fin
        · rw [decide_eq_false (by omega)]
          (try dsimp only)
          rw [join_e, oGT_f]
          (try dsimp only)
          rw [uc_e, oPick_f]
          exact fin
      · clear hself2
        rw [hb211.ln, oOpt_e]
        refine loop_up (barL i fun x y => !B x y).length (fun y vs m' => vs = [.int .i64 (y : Int)] ∧ m' = m12) (by omega) ⟨rfl, rfl⟩ ?_
        rintro y vs m13 hy ⟨rfl, rfl⟩ self2 hself2
        rw [uc_e, oInt_lss]
        refine oIf_dec (fun hc4 => ?_) (fun hc4 => ?_)
        · have hyl : y < (barL i fun x y => !B x y).length := by omega
          obtain ⟨b, hb⟩ : ∃ b, b = (barL i fun x y => !B x y)[y] := ⟨_, rfl⟩
          have hbm : b ∈ barL i fun x y => !B x y := by rw [hb]; exact List.getElem_mem hyl
          have hb64 := barL_lt hN hbm
          rw [hb211.ia hyl, oOpt_e, hb211.ld hyl, oOpt_e, ← hb, ldc q111, oOpt_e, oInt_sub ⟨by omega, by omega⟩, oInt_eql]
          have fin : (oIf (.bool false) (k (.bool false) m13) (oInt .add .i64 (.int .i64 (y : Int)) (.int .i64 1) fun t142 => self2 [t142] m13)) = some () := by
            rw [oIf_f, oInt_add ⟨by omega, by omega⟩]
            exact hself2 hyl _ _ ⟨rfl, rfl⟩
          by_cases hp0 : pop (r.getD x 0) + 1 = i
          · have hbit := bar_full hN hr hxi hbm hp0
            have hsx : b >>> x < 9223372036854775808 := Nat.lt_of_le_of_lt (Nat.shiftRight_le _ _) (by omega)
            rw [decide_eq_true (by omega)]
            (try dsimp only)
            rw [join_e, oGT_t, cshr3 _ _ (by omega), oOpt_e, show (Value.int .i64 1) = .int .i64 ((1 : Nat) : Int) from rfl, oInt_and hsx (by omega), bit01, hbit, if_pos rfl, oInt_eql, show decide (((1 : Nat) : Int) = 0) = false from rfl]
            (try dsimp only)
            rw [uc_e, oPick_t]
            exact fin
          · rw [decide_eq_false (by omega)]
            (try dsimp only)
            rw [join_e, oGT_f]
            (try dsimp only)
            rw [uc_e, oPick_f]
            exact fin
        · rw [oInt_add ⟨by omega, by omega⟩]
          exact hself hxi _ _ ⟨rfl, rfl⟩
    · clear hself
      rw [ldN2 q311, oOpt_e]
      refine Trios_sp hlf (by omega) h1 hN (hv9.mono e10) fun m12 r' e12 hr' => ?_
      obtain rfl := RoomOf.uniq hr hr'
      have E12 := (E9.trans e10).trans e12
      have ht : trioX i r = m1I r i := by rw [trio_eq h1 hN hr tabs_tidy, m1_tI]
      simp only [aextract_e, List.getElem?_cons_zero, List.getElem?_cons_succ, oOpt_e]
      rw [oInt_eql, decide_eq_true rfl]
      (try dsimp only)
      rw [join_e, oGT_t, oInt_eql, decide_eq_true ht]
      (try dsimp only)
      rw [uc_e, oPick_t]
      (try dsimp only)
      rw [join_e, oGT_t, r46]
      refine SClosed_sp (cK := runT (tabC lf) (n + 28)) (L := L) (hT.mono E12) ?_
      (try dsimp only)
      rw [uc_e, oPick_t]
      exact hk _ E12
end
end Go.Vit
