/- The law TopWaiting: its walk. -/
import Derived.Test.YtppallabmjdolaaDoorE6
set_option linter.unusedSimpArgs false
set_option linter.unusedVariables false
set_option maxRecDepth 20000
namespace Go.Vit
open Go Go.Proofs
attribute [local irreducible] runT loopS
theorem ay0 (a b c : Value) : aextract (.tuple ⟨[a, b, c]⟩) 0 = some a := id rfl
theorem ay1 (a b c : Value) : aextract (.tuple ⟨[a, b, c]⟩) 1 = some b := id rfl
theorem ay2 (a b c : Value) : aextract (.tuple ⟨[a, b, c]⟩) 2 = some c := id rfl
section
variable {lf n L : Nat} {m : Mem} {k : Value → Mem → Option Unit}
set_option maxHeartbeats 8000000 in
theorem waiting_sp {a0 c0 : Nat} {gl : List Nat} (hlf : 1000000 ≤ lf) (hL : L ≤ m.next) (hT : TabOk mTab m) (ha : a0 < 256) (hc : c0 < 256) (hlen : gl.length = 8) (hg : ∀ g ∈ gl, g < 256)
    (hk : ∀ m', Gt m m' → k (.bool true) m' = some ()) : runT (tab lf) (n + 9) 5 [.int .u8 (a0 : Int), .agg ⟨gl.map fun (g : Nat) => .int .u8 (g : Int)⟩, .int .u8 (c0 : Int)] L m k = some () := by
  rw [r5]; dsimp only [S5, iofNat, inegSucc]
  rw [uc_e, uc_e, uc_e, un0_e, abox_e, cells_agg, oRes_e]
  have e1 := Mem.gt_push m ⟨1, gl.map (fun (g : Nat) => .int .u8 (g : Int)), none⟩
  have q1 : (m.push ⟨1, gl.map (fun (g : Nat) => .int .u8 (g : Int)), none⟩).rd m.next = some ⟨1, gl.map (fun (g : Nat) => .int .u8 (g : Int)), none⟩ := Mem.rd_push _ _
  have n1 : (m.push ⟨1, gl.map (fun (g : Nat) => .int .u8 (g : Int)), none⟩).next = m.next + 1 := Mem.push_next _ _
  generalize m.push ⟨1, gl.map (fun (g : Nat) => .int .u8 (g : Int)), none⟩ = m1 at e1 q1 n1 ⊢
  have h8 := Nat.mod_lt a0 (show 0 < 8 by omega)
  rw [oCv_nat (by omega), show (Value.int .i64 8) = .int .i64 ((8 : Nat) : Int) from rfl, oInt_remN (by omega), oInt_add ⟨by omega, by omega⟩, show (1 : Int) + ((a0 % 8 : Nat) : Int) = ((1 + a0 % 8 : Nat) : Int) by omega]
  obtain ⟨N, hN⟩ : ∃ N, N = 1 + a0 % 8 := ⟨_, rfl⟩
  rw [← hN]
  have hN1 : 1 ≤ N := by omega
  have hN8 : N ≤ 8 := by omega
  clear hN h8
  rw [oCv_nat (by omega), oInt_add ⟨by omega, by omega⟩, show (N : Int) + 1 = ((N + 1 : Nat) : Int) by omega, oInt_remN (by omega)]
  have hq := Nat.mod_lt c0 (show 0 < N + 1 by omega)
  generalize c0 % (N + 1) = q at hq ⊢
  obtain ⟨W, hW⟩ : ∃ W : List Nat, W = (gl.take q).map fun g => g % N := ⟨_, rfl⟩
  have hWl : W.length = q := by rw [hW, List.length_map, List.length_take]; omega
  have hWg : ∀ i (h : i < gl.length) (h' : i < W.length), W[i] = gl[i] % N := fun i h h' => by
    subst hW
    rw [List.getElem_map, List.getElem_take]
  have hWN : ∀ x ∈ W, x < N := fun x hx => by
    rw [hW] at hx
    obtain ⟨g, _, rfl⟩ := List.mem_map.1 hx
    exact Nat.mod_lt _ (by omega)
  clear hW
  have hN1c : (N : Int) - 1 = ((N - 1 : Nat) : Int) := by omega
  refine loop_up q (fun i vs m' => ∃ u v, vs = [u, v, .int .i64 (i : Int)] ∧ Gt m1 m' ∧ GN m1.next m' u (W.take i) ∧ PG m1.next m' v (hpw (N - 1) (W.take i)) ∧ ∀ c, bid u = some c → bid v ≠ some c) (by omega)
    ⟨_, _, rfl, Gt.refl _, GN.nil _ _, PG.nil _ _, fun c hc => by cases hc⟩ ?_
  rintro i vs m2 hi ⟨u, v, rfl, e2, hu, hv, hap⟩ self hself
  have n2 := e2.next
  rw [uc_e, uc_e, uc_e, oInt_lss]
  refine oIf_dec (fun hc1 => ?_) (fun hc1 => ?_)
  · have hil : i < gl.length := by omega
    have hiW : i < W.length := by omega
    have hia : iaA 8 1 (ptrTo m.next) (.int .i64 (i : Int)) = some (.pointer (some ⟨m.next, i, none⟩)) := by
      have := iaA_k (b := m.next) (o := 0) (n := 8) (i := i) (by omega)
      rw [Nat.zero_add] at this
      exact this
    have hld : ld1 m2 (.pointer (some ⟨m.next, i, none⟩)) = some (.int .u8 (gl[i] : Int)) := by
      rw [ld1_u, (e2.kept _ (by omega)).trans q1, rdo_e, List.getElem?_map, List.getElem?_eq_getElem hil]; rfl
    have hgi := hg _ (List.getElem_mem hil)
    rw [hia, oOpt_e, hld, oOpt_e, oCv_nat (by omega), oInt_remN (by omega), ← hWg i hil hiW, bs22, oRes_e]
    have hwi := hWN _ (List.getElem_mem hiW)
    obtain ⟨u3, m3, s3, h3, e3, n3, k3⟩ := GL.snocV (P := Tryd.prog) (L := L) (m0 := m1) (m := m2) ((W[i] : Nat) : Int) ael22 (by omega) hu (by rw [ci_length, List.length_take]; omega) (by omega) e2 (Nat.le_refl _)
    rw [s3, oRes_e, oInt_sub ⟨by omega, by omega⟩, hN1c, bu45, oOpt_e, bs431, oRes_e]
    have hv3 : PG m1.next m3 v (hpw (N - 1) (W.take i)) := hv.keep fun c hc _ => k3 c (hv.bid_lt c hc).2 fun hb => hap c hb hc
    obtain ⟨v4, m4, s4, h4, e4, n4, k4⟩ := PG.snoc (P := Tryd.prog) (L := L) (m0 := m1) (m := m3) (W[i], N - 1) ael43 (by omega) hv3 (by rw [hpw_len, List.length_take]; omega) (by omega) e3 (Nat.le_refl _)
    have s4' : aappend Tryd.prog L (m3.push ⟨2, [.int .i64 ((W[i] : Nat) : Int), .int .i64 ((N - 1 : Nat) : Int)], none⟩) 43 v (slTo 1 m3.next) = some (v4, m4) := s4
    rw [s4', oRes_e, oInt_add ⟨by omega, by omega⟩]
    have hb3 := Gs.bid_lt h3
    have htk : W.take (i + 1) = W.take i ++ [W[i]] := by rw [List.take_add_one, List.getElem?_eq_getElem hiW]; rfl
    refine hself (by omega) _ _ ⟨u3, v4, rfl, e4, ?_, ?_, fun c hc hc2 => ?_⟩
    · rw [htk]
      show GL m1.next m4 u3 (ci (W.take i ++ [W[i]]))
      rw [ci_snoc]
      refine (GL.keep h3 fun c hc _ => k4 c (hb3 c hc).2 fun hb => ?_).le (by omega)
      have h5 := (hv.bid_lt c hb).2
      have := (hb3 c hc).1
      omega
    · rw [htk, hpw_snoc]
      exact h4.le (by omega)
    · have h5 := (hb3 c hc).2
      have := (h4.bid_lt c hc2).1
      omega
  · have hiq : i = q := by omega
    subst hiq
    clear hself hi hc1 hap
    rw [List.take_of_length_le (by omega)] at hu hv
    have hcw := ci_length W
    have hok : chkD (N : Int) ((N : Int) - 1) (ci W) = 0 := chkD_nat hN1 hN8 (by omega) hWN
    have hpk : pkX (N : Int) (ci W) = parkL N W := pkX_yes hok
    have hpl := parkL_len N W
    have e02 := e1.trans e2
    refine park_sp (n := n) hlf (by omega) (hT.mono e02) (show IL _ _ (ci W) from hu.inn) (by omega) fun pu m3 e3 hpu => ?_
    rw [hpk] at hpu
    rw [hok, ax0, oOpt_e, ax1, oOpt_e]
    have n3 := e3.next
    have e03 := e02.trans e3
    have hu3 := hu.inn.mono e3
    refine serves_sp (n := n) hlf (by omega) (hT.mono e03) (show IL _ _ (ci W) from hu3) (by omega) fun m4 e4 => ?_
    have n4 := e4.next
    have hsv : svX (N : Int) (ci W) = decide ((-1 : Int) ∉ parkL N W) := by unfold svX; rw [hok, hpk]; simp
    rw [hok, hsv, ax0, oOpt_e, ax1, oOpt_e]
    have e04 := e03.trans e4
    have hu4 := hu3.mono e4
    have hv4 := (hv.mono e3).mono e4
    have hpu4 := hpu.mono e4
    rw [oInt_neq, decide_eq_true rfl, Bool.not_true, join_e, oGF_f, oInt_neq, decide_eq_true rfl, Bool.not_true]
    dsimp only
    rw [uc_e, oPick_f, join_e, oGF_f, hpu4.il.ln, oOpt_e, hu4.ln, oOpt_e, oInt_neq, decide_eq_true (show ((parkL N W).length : Int) = (W.length : Int) by omega), Bool.not_true]
    dsimp only
    rw [uc_e, oPick_f, oIf_f, oOpt_e]
    have hB := bothW hN1 (by omega) hWN
    refine loop_up i (fun j vs m' => ∃ kv pv sv, vs = [kv, pv, sv, .int .i64 (wL ((parkL N W).take j) (W.take j)).2.2.2.1, .int .i64 (j : Int)] ∧ Gt m4 m' ∧ GN m4.next m' kv (wL ((parkL N W).take j) (W.take j)).1 ∧ GL m4.next m' pv (wL ((parkL N W).take j) (W.take j)).2.1 ∧ PG m4.next m' sv (hpw (N - 1) (wL ((parkL N W).take j) (W.take j)).2.2.1) ∧
      (∀ c, bid kv = some c → bid pv ≠ some c ∧ bid sv ≠ some c) ∧ ∀ c, bid pv = some c → bid sv ≠ some c) (by omega)
      ⟨_, _, _, rfl, Gt.refl _, GN.nil _ _, GL.nil _ _, PG.nil _ _, fun c hc => (by cases hc), fun c hc => (by cases hc)⟩ ?_
    rintro j vs m5 hj ⟨kv, pv, sv, rfl, e5, hkv, hpv, hsvv, hap1, hap2⟩ self hself
    have n5 := e5.next
    obtain ⟨w1, w2, w3, w4⟩ := wL_cnt (((parkL N W).take j).zip (W.take j)) ([], [], [], 0, 0)
    have hzl : (((parkL N W).take j).zip (W.take j)).length = j := by rw [List.length_zip, List.length_take, List.length_take]; omega
    rw [hzl] at w1 w2 w3 w4
    have w1' : (wL ((parkL N W).take j) (W.take j)).1.length ≤ 0 + j := w1
    have w2' : (wL ((parkL N W).take j) (W.take j)).2.1.length ≤ 0 + j := w2
    have w3' : (wL ((parkL N W).take j) (W.take j)).2.2.1.length ≤ 0 + j := w3
    have w4' : (wL ((parkL N W).take j) (W.take j)).2.2.2.2 = 0 + j := w4
    rw [uc_e, uc_e, uc_e, uc_e, uc_e, oInt_lss]
    refine oIf_dec (fun hc1 => ?_) (fun hc1 => ?_)
    · have hjW : j < W.length := by omega
      have hjP : j < (parkL N W).length := by omega
      obtain ⟨p, hp, hpb⟩ := parkL_bd (n := N) hjW
      rw [List.getElem?_eq_getElem hjP] at hp
      have hp := Option.some.inj hp
      have hstep := wL_take hpl hjW hjP
      rw [hp] at hstep
      have hwj := hWN _ (List.getElem_mem hjW)
      have hpu5 := hpu4.mono e5
      rw [join_e, hpu5.il.ia hjP, oOpt_e, hpu5.il.ld hjP, oOpt_e, hp, oInt_lss]
      unfold wS at hstep
      refine oIf_dec (fun hp0 => ?_) (fun hp0 => ?_)
      · rw [if_pos hp0] at hstep
        dsimp only
        rw [uc_e, uc_e, uc_e, uc_e, oInt_add ⟨by omega, by omega⟩]
        refine hself (by omega) _ _ ⟨kv, pv, sv, ?_, e5, by rw [hstep]; exact hkv, by rw [hstep]; exact hpv, by rw [hstep]; exact hsvv, hap1, hap2⟩
        rw [hstep]; rfl
      · rw [if_neg hp0] at hstep
        obtain ⟨z, rfl⟩ : ∃ z : Nat, p = z := ⟨p.toNat, by omega⟩
        have hv5 := hv4.mono e5
        have hjH : j < (hpw (N - 1) W).length := by rw [hpw_len]; exact hjW
        rw [bs22, oRes_e]
        have g6 := Mem.gt_push m5 ⟨1, [.int .i64 (j : Int)], none⟩
        have r6 : (m5.push ⟨1, [.int .i64 (j : Int)], none⟩).rd m5.next = some ⟨1, [.int .i64 (j : Int)], none⟩ := Mem.rd_push _ _
        have n6 : (m5.push ⟨1, [.int .i64 (j : Int)], none⟩).next = m5.next + 1 := Mem.push_next _ _
        generalize m5.push ⟨1, [.int .i64 (j : Int)], none⟩ = m6 at g6 r6 n6 ⊢
        rw [bs22, oRes_e]
        have g7 := Mem.gt_push m6 ⟨1, [.int .i64 (z : Int)], none⟩
        have r7 : (m6.push ⟨1, [.int .i64 (z : Int)], none⟩).rd m6.next = some ⟨1, [.int .i64 (z : Int)], none⟩ := Mem.rd_push _ _
        have n7 : (m6.push ⟨1, [.int .i64 (z : Int)], none⟩).next = m6.next + 1 := Mem.push_next _ _
        generalize m6.push ⟨1, [.int .i64 (z : Int)], none⟩ = m7 at g7 r7 n7 ⊢
        have hv7 := (hv5.mono g6).mono g7
        rw [hv7.pl.ia hjH, oOpt_e, hv7.pl.ldN hjH, oOpt_e, hpw_get hjW hjH]
        show (oRes (bs Tryd.prog m7 43 1 [(0, .agg ⟨[.int .i64 ((W[j] : Nat) : Int), .int .i64 ((N - 1 : Nat) : Int)]⟩)]) _) = some ()
        rw [bs431, oRes_e]
        have g8 := Mem.gt_push m7 ⟨2, [.int .i64 ((W[j] : Nat) : Int), .int .i64 ((N - 1 : Nat) : Int)], none⟩
        have r8 : (m7.push ⟨2, [.int .i64 ((W[j] : Nat) : Int), .int .i64 ((N - 1 : Nat) : Int)], none⟩).rd m7.next = some ⟨2, row2 (W[j], N - 1), none⟩ := Mem.rd_push _ _
        have n8 : (m7.push ⟨2, [.int .i64 ((W[j] : Nat) : Int), .int .i64 ((N - 1 : Nat) : Int)], none⟩).next = m7.next + 1 := Mem.push_next _ _
        generalize m7.push ⟨2, [.int .i64 ((W[j] : Nat) : Int), .int .i64 ((N - 1 : Nat) : Int)], none⟩ = m8 at g8 r8 n8 ⊢
        have g58 := g6.trans (g7.trans g8)
        have b6 : m8.rd m5.next = some ⟨1, [.int .i64 (j : Int)], none⟩ := (g8.kept _ (by omega)).trans ((g7.kept _ (by omega)).trans r6)
        have b7 : m8.rd m6.next = some ⟨1, [.int .i64 (z : Int)], none⟩ := (g8.kept _ (by omega)).trans r7
        have e8 := e5.trans g58
        have hv8 := hv7.mono g8
        have hbk := Gs.bid_lt hkv
        have hbp := Gs.bid_lt hpv
        have hbs := hsvv.bid_lt
        have hbv := hv4.bid_lt
        obtain ⟨k9, m9, s9, h9, e9, n9, f9⟩ := GL.snocS (P := Tryd.prog) (L := L) (m0 := m4) ael22 (by omega) (GL.mono hkv g58) b6 (by rw [ci_length]; omega) (by omega) e8 (Nat.le_refl _)
        have hpv9 : GL m4.next m9 pv _ := (hpv.mono g58).keep fun c hc _ => f9 c (by have := (hbp c hc).2; omega) fun hb => (hap1 c hb).1 hc
        have hs9 : PG m4.next m9 sv _ := (hsvv.mono g58).keep fun c hc _ => f9 c (by have := (hbs c hc).2; omega) fun hb => (hap1 c hb).2 hc
        have c6 : m9.rd m5.next = some ⟨1, [.int .i64 (j : Int)], none⟩ := (f9 _ (by omega) fun hb => by have := (hbk _ hb).2; omega).trans b6
        have c7 : m9.rd m6.next = some ⟨1, [.int .i64 (z : Int)], none⟩ := (f9 _ (by omega) fun hb => by have := (hbk _ hb).2; omega).trans b7
        have c8 : m9.rd m7.next = some ⟨2, row2 (W[j], N - 1), none⟩ := (f9 _ (by omega) fun hb => by have := (hbk _ hb).2; omega).trans r8
        have cv : ∀ c, bid v = some c → m9.rd c = m8.rd c := fun c hc => f9 c (by have := (hbv c hc).2; omega) fun hb => by
          have h1 := (hbv c hc).2
          have h2 := (hbk c hb).1
          have := n3
          have := (hv.bid_lt c hc).2
          omega
        obtain ⟨p10, m10, s10, h10, e10, n10, f10⟩ := GL.snocS (P := Tryd.prog) (L := L) (m0 := m4) ael22 (by omega) hpv9 c7 (by omega) (by omega) e9 (Nat.le_refl _)
        have hs10 : PG m4.next m10 sv _ := hs9.keep fun c hc _ => f10 c (by have := (hbs c hc).2; omega) fun hb => hap2 c hb hc
        have d6 : m10.rd m5.next = some ⟨1, [.int .i64 (j : Int)], none⟩ := (f10 _ (by omega) fun hb => by have := (hbp _ hb).2; omega).trans c6
        have d7 : m10.rd m6.next = some ⟨1, [.int .i64 (z : Int)], none⟩ := (f10 _ (by omega) fun hb => by have := (hbp _ hb).2; omega).trans c7
        have d8 : m10.rd m7.next = some ⟨2, row2 (W[j], N - 1), none⟩ := (f10 _ (by omega) fun hb => by have := (hbp _ hb).2; omega).trans c8
        have dv : ∀ c, bid v = some c → m10.rd c = m9.rd c := fun c hc => f10 c (by have := (hbv c hc).2; omega) fun hb => by
          have h2 := (hbp c hb).1
          have := (hv.bid_lt c hc).2
          omega
        obtain ⟨s11, m11, t11, h11, e11, n11, f11⟩ := PG.snocS (P := Tryd.prog) (L := L) (m0 := m4) ael43 (by omega) hs10 d8 (by rw [hpw_len]; omega) (by omega) e10 (Nat.le_refl _)
        have x6 : m11.rd m5.next = some ⟨1, [.int .i64 (j : Int)], none⟩ := (f11 _ (by omega) fun hb => by have := (hbs _ hb).2; omega).trans d6
        have x7 : m11.rd m6.next = some ⟨1, [.int .i64 (z : Int)], none⟩ := (f11 _ (by omega) fun hb => by have := (hbs _ hb).2; omega).trans d7
        have x8 : m11.rd m7.next = some ⟨2, row2 (W[j], N - 1), none⟩ := (f11 _ (by omega) fun hb => by have := (hbs _ hb).2; omega).trans d8
        have xv : ∀ c, bid v = some c → m11.rd c = m10.rd c := fun c hc => f11 c (by have := (hbv c hc).2; omega) fun hb => by
          have h2 := (hbs c hb).1
          have := (hv.bid_lt c hc).2
          omega
        have hv9 : PG m1.next m9 v (hpw (N - 1) W) := hv8.keep fun c hc _ => cv c hc
        have hv10 : PG m1.next m10 v (hpw (N - 1) W) := hv9.keep fun c hc _ => dv c hc
        rw [s9, oRes_e, s10, oRes_e, t11, oRes_e]
        have v1 : ∀ x : Int, veqL [.int .i64 x] [.int .i64 x] = true := fun x => by rw [veqL_cons, veq_int, veqL_nil]; rfl
        have v2 : veqL (row2 (W[j], N - 1)) (row2 (W[j], N - 1)) = true := veqL_pcs [(W[j], N - 1)]
        rw [oSb_e b6 c6 (v1 _), oSb_e c6 d6 (v1 _), oSb_e d6 x6 (v1 _), oSb_e b7 c7 (v1 _), oSb_e c7 d7 (v1 _), oSb_e d7 x7 (v1 _), oSm_pg hv8 hjH cv, oSm_pg hv9 hjH dv, oSm_pg hv10 hjH xv, oSb_e r8 c8 v2, oSb_e c8 d8 v2, oSb_e d8 x8 v2, maxI_e, oOpt_e]
        dsimp only
        rw [uc_e, uc_e, uc_e, uc_e, oInt_add ⟨by omega, by omega⟩]
        have hb9 := Gs.bid_lt h9
        have hb10 := Gs.bid_lt h10
        have hb11 := h11.bid_lt
        refine hself (by omega) _ _ ⟨k9, p10, s11, ?_, e11, ?_, ?_, ?_, fun c hc => ⟨fun hc2 => ?_, fun hc2 => ?_⟩, fun c hc hc2 => ?_⟩
        · rw [hstep]; rfl
        · rw [hstep]
          show GL m4.next m11 k9 (ci ((wL ((parkL N W).take j) (W.take j)).1 ++ [(wL ((parkL N W).take j) (W.take j)).2.2.2.2]))
          rw [ci_snoc, w4', Nat.zero_add]
          refine ((h9.keep fun c hc _ => f10 c (hb9 c hc).2 fun hb => ?_).keep fun c hc _ => f11 c (by have := (hb9 c hc).2; omega) fun hb => ?_).le (by omega)
          · have h1 := (hb9 c hc).1
            have h2 := (hbp c hb).2
            omega
          · have h1 := (hb9 c hc).1
            have h2 := (hbs c hb).2
            omega
        · rw [hstep]
          refine (h10.keep fun c hc _ => f11 c (hb10 c hc).2 fun hb => ?_).le (by omega)
          have h1 := (hb10 c hc).1
          have h2 := (hbs c hb).2
          omega
        · rw [hstep]
          show PG m4.next m11 s11 (hpw (N - 1) ((wL ((parkL N W).take j) (W.take j)).2.2.1 ++ [W[j]]))
          rw [hpw_snoc]
          exact h11.le (by omega)
        · have h1 := (hb9 c hc).2
          have h2 := (hb10 c hc2).1
          omega
        · have h1 := (hb9 c hc).2
          have h2 := (hb11 c hc2).1
          omega
        · have h1 := (hb10 c hc).2
          have h2 := (hb11 c hc2).1
          omega
    · have hji : j = i := by omega
      subst hji
      rw [List.take_of_length_le (show (parkL N W).length ≤ j by omega), List.take_of_length_le (show W.length ≤ j by omega)] at hkv hpv hsvv ⊢
      clear hself hap1 hap2 w1 w2 w3 w4 w1' w2' w3' w4' hzl hc1 hj
      obtain ⟨hcnt, hkept, hstay, hcnt2, hpark, hbays, hge, hlast, hall, hle, hlen2, hmem⟩ := hB
      obtain ⟨⟨sk, sp, ss, sl, sc⟩, hs⟩ : ∃ s, s = wL (parkL N W) W := ⟨_, rfl⟩
      rw [← hs] at hkv hpv hsvv hkept hpark hge hlast hall hle hlen2 hmem
      rw [← hs]
      simp only [] at hkv hpv hsvv hkept hpark hge hlast hall hle hlen2 hmem ⊢
      clear hs hcnt hstay hcnt2 hbays
      have hno1 : (-1 : Int) ∉ sp := fun hc => by have := (hge _ hc).1; omega
      have hssl : ss.length = sp.length := by rw [← hpark, parkL_len]
      have hHl : (hpw (N - 1) W).length ≤ 10 := by rw [hpw_len]; omega
      have hSl : (hpw (N - 1) ss).length ≤ 10 := by rw [hpw_len]; omega
      have hH : ∀ h ∈ hpw (N - 1) W, h.1 ≤ h.2 ∧ h.2 ≤ 23 := fun h hh => by
        obtain ⟨h1, h2⟩ := hpw_mem hh
        have := hWN _ h2
        omega
      have hS : ∀ h ∈ hpw (N - 1) ss, h.1 ≤ h.2 ∧ h.2 ≤ 23 := fun h hh => by
        obtain ⟨h1, h2⟩ := hpw_mem hh
        have := hWN _ (hmem _ h2)
        omega
      have hD : ∀ h ∈ hpw (N - 1) W, h.2 = N - 1 := fun h hh => (hpw_mem hh).1
      have hNN : N - 1 + 1 = N := by omega
      have hposS : possN (hpw (N - 1) ss) = true := by
        rw [poss_park (fun x hx => by have := hWN _ (hmem _ hx); omega) (by omega), hNN, hpark]
        exact hno1
      have hposW := poss_park (D := N - 1) (w := W) (fun x hx => by have := hWN _ hx; omega) (by omega)
      rw [hNN] at hposW
      have hnds : sp.Nodup := by
        have := served_nodup (n := N) (l := ss) (by rw [hpark]; exact hno1)
        rwa [hpark] at this
      obtain ⟨hci, hnd⟩ := mem_nodup_nat hnds fun x hx => (hge x hx).1
      have e05 := e04.trans e5
      have hv5 := hv4.mono e5
      have hu5 := hu4.mono e5
      refine keep_sp (n := n) hlf (by omega) hv5.pl hHl hH fun ku m6 e6 hku => ?_
      have n6 := e6.next
      rw [ax0, oOpt_e, ax1, oOpt_e]
      obtain ⟨E, hE, hE1, hEx, hE2, hE3⟩ := fin_end hN1 (by omega) (fun x hx => hWN x (hmem x hx)) hpark hge
      refine finish_sp (n := n + 2) (E := E) hlf (by omega) (hsvv.mono e6).pl hSl hS hposS (beg_le (Nat.zero_le _) fun h hh => hEx _ (hpw_mem hh).2) (by omega) (by rw [hpw_cap _ hE1]; exact hE2) (fun e he1 he2 => ?_) fun m7 e7 => ?_
      · rw [hpw_cap ss (by omega)]
        refine hE3 e he2 fun x hx => Nat.le_trans ?_ he1
        exact (le_beg (l := hpw (N - 1) ss) (a := 0)).2 (x, N - 1) (List.mem_map.2 ⟨x, hx, rfl⟩)
      have n7 := e7.next
      have e57 := e6.trans e7
      rw [ax0, oOpt_e, ax1, oOpt_e, oInt_neq, decide_eq_true rfl, Bool.not_true, join_e, oGF_f, oInt_neq, decide_eq_true rfl, Bool.not_true]
      dsimp only
      rw [uc_e, oPick_f, join_e, oGF_f]
      rw [hkept] at hku
      refine same22_sp (a := ci sk) (b := ci sk) hlf (hku.inn.mono e7) (hkv.inn.mono e57) (by rw [ci_length]; omega) ?_
      rw [decide_eq_true rfl, aun_not, oOpt_e, Bool.not_true]
      dsimp only
      rw [uc_e, oPick_f, join_e, oGF_f]
      refine verify_sp (n := n + 4) (P := sp.map Int.toNat) hlf (by omega) (hsvv.mono e57).pl (by unfold IN; rw [hci]; exact (hpv.il.mono e57)) hSl hS (by rw [List.length_map, hpw_len, hssl]) (fun i h h' => ?_) hnd fun m8 e8 => ?_
      · rw [hpw_len] at h
        rw [List.length_map] at h'
        obtain ⟨p, hp, hpb⟩ := parkL_bd (n := N) h
        rw [hpark, List.getElem?_eq_getElem h'] at hp
        have hp := Option.some.inj hp
        have h0 := (hge _ (List.getElem_mem h')).1
        rw [hpw_get h, List.getElem_map, hp]
        rw [hp] at h0
        show ss[i] ≤ p.toNat ∧ p.toNat ≤ N - 1
        omega
      have n8 := e8.next
      have e58 := e57.trans e8
      have hser : (decide ((-1 : Int) ∉ parkL N W) != decide ((sk.length : Int) = (W.length : Int))) = false := by
        by_cases h : (-1 : Int) ∉ parkL N W
        · rw [decide_eq_true h, decide_eq_true (by have := hall.2 h; omega)]; rfl
        · rw [decide_eq_false h, decide_eq_false fun hh => h (hall.1 (by omega))]; rfl
      rw [oInt_neq, decide_eq_true rfl, Bool.not_true]
      dsimp only
      rw [uc_e, oPick_f, join_e, oGF_f, oInt_neq, decide_eq_true (show (E : Int) = sl by rw [hlast, hE]), Bool.not_true]
      dsimp only
      rw [uc_e, oPick_f, join_e, oGF_f, hkv.ln, oOpt_e, oOpt_e, oInt_eql, neqb, oOpt_e, hser]
      dsimp only
      rw [uc_e, oPick_f, oIf_f]
      refine plan_sp (n := n + 2) hlf (by omega) (hv5.mono e58).pl hHl hH fun pl9 m9 e9 => ?_
      have n9 := e9.next
      have e59 := e58.trans e9
      rw [ax0, oOpt_e, ax1, oOpt_e]
      by_cases hsv1 : (-1 : Int) ∉ parkL N W
      · rw [if_pos (hposW.2 hsv1)]
        have hcr := crN_served hN1 (by omega) hWN hsv1
        have hag := (agK_served hWN).2 hsv1
        refine why_sp (n := n + 4) hlf (by omega) (hv5.mono e59).pl hHl hH hD (by omega) (fun _ m10 e10 => ?_) (fun f hf => by rw [hcr] at hf; cases hf)
        have n10 := e10.next
        rw [ay0, oOpt_e, ay1, oOpt_e, ay2, oOpt_e]
        have e510 := e59.trans e10
        refine against_sp (n := n + 1) hlf (by omega) (show IL _ _ (ci W) from hu5.mono e510) (by omega) fun m11 e11 => ?_
        have e011 := e05.trans (e510.trans e11)
        have h1 : agE (N : Int) (ci W) = 13 := by unfold agE; rw [if_pos hok, Int.toNat_natCast, hag]
        rw [ax0, oOpt_e, ax1, oOpt_e, h1, decide_eq_true hsv1, oIf_t, oInt_eql, decide_eq_true rfl, join_e, oGT_t, oInt_eql, decide_eq_true rfl]
        dsimp only
        rw [uc_e, oPick_t, join_e, oGT_t, oInt_eql, decide_eq_true rfl]
        dsimp only
        rw [uc_e, oPick_t, join_e, oGT_t, r27]
        refine SClosed_sp (cK := runT (tab lf) (n + 7)) (L := L) (hT.mono e011) ?_
        dsimp only
        rw [uc_e, oPick_t]
        exact hk _ e011
      · rw [if_neg fun h => hsv1 (hposW.1 h)]
        obtain ⟨kk, hkk⟩ : ∃ kk, agK N (ci W) = some kk := by
          cases h : agK N (ci W) with
          | none => exact absurd ((agK_served hWN).1 h) hsv1
          | some kk => exact ⟨kk, rfl⟩
        obtain ⟨k1, k2, k3, f, hf, f1, f2, f3⟩ := crN_away (by omega) hkk
        refine why_sp (n := n + 4) hlf (by omega) (hv5.mono e59).pl hHl hH hD (by omega) (fun h => by rw [hf] at h; cases h) (fun f' hf' m10 e10 => ?_)
        rw [hf] at hf'
        cases hf'
        have n10 := e10.next
        rw [ay0, oOpt_e, ay1, oOpt_e, ay2, oOpt_e]
        have e510 := e59.trans e10
        refine against_sp (n := n + 1) hlf (by omega) (show IL _ _ (ci W) from hu5.mono e510) (by omega) fun m11 e11 => ?_
        have n11 := e11.next
        have e511 := e510.trans e11
        have h1 : agE (N : Int) (ci W) = 0 := by unfold agE; rw [if_pos hok, Int.toNat_natCast, hkk]
        have h2 : agV (N : Int) (ci W) = (kk : Int) := by unfold agV; rw [if_pos hok, Int.toNat_natCast, hkk]
        have hpr : prE (N : Int) (ci W) ((N : Int) - (f : Int)) = 0 := by
          unfold prE
          rw [if_pos hok, if_pos ⟨by omega, by omega⟩, Int.toNat_natCast, show ((N : Int) - (f : Int)).toNat = N - f by omega, f3]
          rfl
        rw [ax0, oOpt_e, ax1, oOpt_e, h1, h2, decide_eq_false hsv1, oIf_f, oInt_neq, decide_eq_true rfl, Bool.not_true, join_e, oGF_f, oInt_neq, decide_eq_true rfl, Bool.not_true]
        dsimp only
        rw [uc_e, oPick_f, join_e, oGF_f, oInt_neq, decide_eq_true rfl, Bool.not_true]
        dsimp only
        rw [uc_e, oPick_f, join_e, oGF_f, oInt_sub ⟨by omega, by omega⟩, oInt_neq, decide_eq_true (show ((N - 1 : Nat) : Int) = (N : Int) - 1 by omega), Bool.not_true]
        dsimp only
        rw [uc_e, oPick_f, join_e, oGF_f, oInt_lss, decide_eq_false (show ¬ (f : Int) < 0 by omega)]
        dsimp only
        rw [uc_e, oPick_f, join_e, oGF_f, oInt_lss, decide_eq_false (show ¬ (kk : Int) < 1 by omega)]
        dsimp only
        rw [uc_e, oPick_f, join_e, oGF_f, oInt_sub ⟨by omega, by omega⟩, oInt_gtr, decide_eq_false (show ¬ (N : Int) - (kk : Int) < (f : Int) by omega)]
        dsimp only
        rw [uc_e, oPick_f, join_e, oGF_f, oInt_sub ⟨by omega, by omega⟩]
        refine proves_sp (n := n + 1) hlf (show IL _ _ (ci W) from hu5.mono e511) (by omega) fun m12 e12 => ?_
        have n12 := e12.next
        have e512 := e511.trans e12
        rw [hpr, oInt_neq, decide_eq_true rfl, Bool.not_true]
        dsimp only
        rw [uc_e, oPick_f, oIf_f, oInt_sub ⟨by omega, by omega⟩, oInt_sub ⟨by omega, by omega⟩, show (N : Int) - (kk : Int) = ((N - kk : Nat) : Int) by omega, show (N : Int) - 1 = ((N - 1 : Nat) : Int) by omega]
        refine crowd_sp (n := n + 5) hlf (by omega) (hv5.mono e512).pl hHl hH (by omega) (by omega) fun m13 e13 => ?_
        have e013 := e05.trans (e512.trans e13)
        rw [crw_common hD, ax0, oOpt_e, ax1, oOpt_e, oInt_eql, decide_eq_true rfl, join_e, oGT_t, oInt_gtr, decide_eq_true (show (kk : Int) < (cg (N - kk) (hpw (N - 1) W) : Int) by omega)]
        dsimp only
        rw [uc_e, oPick_t, join_e, oGT_t, r27]
        refine SClosed_sp (cK := runT (tab lf) (n + 7)) (L := L) (hT.mono e013) ?_
        dsimp only
        rw [uc_e, oPick_t]
        exact hk _ e013
end
end Go.Vit
