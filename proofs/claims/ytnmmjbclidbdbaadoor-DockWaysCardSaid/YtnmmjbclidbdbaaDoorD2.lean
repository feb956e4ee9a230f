/- Walks: a list's name; each list of wishes counts for its bays. -/
import Derived.Test.YtnmmjbclidbdbaaDoorD1
set_option linter.unusedSimpArgs false
set_option linter.unusedVariables false
set_option maxRecDepth 20000
namespace Go.Vit
open Go Go.Proofs
attribute [local irreducible] runT loopS
theorem u9s : Tryd.prog.underlying 9 = some .string := by kernel_rfl
theorem u60 : Tryd.prog.underlying 60 = some (.map 9 3) := by kernel_rfl
theorem z3 : tzero Tryd.prog 3 = some (.int .i64 0) := by kernel_rfl
theorem conv_rune (x : Int) : aconv Tryd.prog 21 9 (.int .i32 x) = some (.string (Utf8.encode x)) := by kernel_rfl
theorem oCv_32 {a : Nat} (ha : a < 2147483648) (k : Value → Option Unit) : oCv .i32 (.int .i64 (a : Int)) k = k (.int .i32 (a : Int)) := by
  show oOpt (mkI .i32 (fwrap .i32 (a : Int))) k = _
  rw [show fwrap .i32 (a : Int) = (a : Int) by rw [fwrap_eq]; exact wrap_of_fits ((fits_iff _ _).2 (by simp only [sgn, top, if_true]; omega)), mkI_e, oOpt_e]
theorem nameS_size (k : List Nat) : (nameS k).size = k.length := by
  show (nameL k).toArray.size = _
  rw [List.size_toArray]; unfold nameL; rw [List.length_map]
theorem add_name {k : List Nat} {x : Nat} (h : k.length < 1000) : abin Tryd.prog .add 9 (.string (nameS k)) (.string ⟨#[UInt8.ofNat (97 + x)]⟩) = some (.string (nameS (k ++ [x]))) := by
  have hs : strOk ((nameS k).size + (⟨#[UInt8.ofNat (97 + x)]⟩ : ByteArray).size) = true := by
    rw [nameS_size]
    exact Nat.ble_eq_true_of_le (by show k.length + 1 ≤ _; omega)
  simp only [abin, hs, nameS_snoc]
theorem ci_nnl : ∀ {l : List Int}, (∀ x ∈ l, 0 ≤ x) → ci (nnl l) = l
  | [], _ => rfl
  | x :: l, h => by
    have h1 := h x (List.mem_cons_self ..)
    have ih := ci_nnl (l := l) fun y hy => h y (List.mem_cons_of_mem _ hy)
    show ((x.toNat : Nat) : Int) :: ci (nnl l) = x :: l
    rw [ih, Int.toNat_of_nonneg h1]
section
variable {lf n L : Nat} {m : Mem} {k : Value → Mem → Option Unit}
theorem name_sp {v : Value} {w : List Nat} (hlf : 1000000 ≤ lf) (hv : IN m v w) (hw : Low w) (hl : w.length < 1000) (hk : k (.string (nameS w)) m = some ()) : runT (tab lf) (n + 1) 53 [v] L m k = some () := by
  rw [r53]; dsimp only [S53, iofNat, inegSucc]
  rw [uc_e, un0_e, hv.ln, oOpt_e]
  refine loop_up w.length (fun i vs m' => vs = [.string (nameS (w.take i)), .int .i64 (i : Int)] ∧ m' = m) (by omega) ⟨rfl, rfl⟩ ?_
  rintro i vs m' hi ⟨rfl, rfl⟩ self hself
  rw [uc_e, uc_e, oInt_lss]
  refine oIf_dec (fun hc => ?_) (fun hc => ?_)
  · have hiw : i < w.length := by omega
    have hx := hw _ (List.getElem_mem hiw)
    have htl : (w.take i).length < 1000 := by rw [List.length_take]; omega
    have ha : ∀ K : Value → Option Unit, oInt .add .i64 (.int .i64 97) (.int .i64 (w[i] : Int)) K = K (.int .i64 ((97 + w[i] : Nat) : Int)) := fun K => oInt_addN (a := 97) (by omega) K
    rw [hv.ia hiw, oOpt_e, hv.ld hiw, oOpt_e, ha, oCv_32 (by omega), conv_rune, oOpt_e, show (((97 + w[i] : Nat)) : Int) = 97 + (w[i] : Int) by omega, enc_low hx, add_name htl, oOpt_e, oInt_add ⟨by omega, by omega⟩]
    refine hself hiw _ _ ⟨?_, rfl⟩
    rw [List.take_add_one, List.getElem?_eq_getElem hiw]; rfl
  · have : i = w.length := by omega
    subst this
    rw [List.take_length]
    exact hk
end
/-- The map, while lists are looked at. -/
def wwJ (bm N : Nat) (F : Ways) : Option (List Nat) → Mem → Prop
  | some l, m => ∃ f E, m.rd bm = some ⟨0, [], some (entW E)⟩ ∧ goW N f l E = some F ∧ LowE f E ∧ f ≤ 256
  | none, m => m.rd bm = some ⟨0, [], some (entW F)⟩ ∧ LowE 0 F
section
variable {lf L : Nat}
set_option maxHeartbeats 4000000 in
theorem waysEach {pn pm pf bm N p : Nat} {m0 : Mem} {F : Ways} (hlf : 1000000 ≤ lf) (hLb : L ≤ bm) (hn : m0.rd pn = some ⟨1, [.int .i64 (N : Int)], none⟩) (hm : m0.rd pm = some ⟨1, [.map (some bm)], none⟩) (hf : m0.rd pf = some ⟨1, [.func (.func 53) #[] #[]], none⟩)
    (hnb : pn ≠ bm) (hmb : pm ≠ bm) (hfb : pf ≠ bm) (h1 : 1 ≤ N) (h4 : N ≤ 4) (hp : p ≤ N) (hLm : L ≤ m0.next) :
    EachL lf 30 L (.func (.func 54) #[] ⟨[.pointer (some ⟨pn, 0, none⟩), .pointer (some ⟨pm, 0, none⟩), .pointer (some ⟨pf, 0, none⟩)]⟩) (fun c => c = bm) m0 N p (wwJ bm N F) := by
  intro n m b l k e hJ hl hlt hb hXb hk
  rw [oCallV_e (hf := rfl)]
  show runT (tab lf) (n + 30) 54 [.slice (some ⟨b, 0, none⟩) p p, .pointer (some ⟨pn, 0, none⟩), .pointer (some ⟨pm, 0, none⟩), .pointer (some ⟨pf, 0, none⟩)] L m k = some ()
  rw [r54]; dsimp only [S54, iofNat, inegSucc]
  obtain ⟨f, E, jb, jg, jl, jf⟩ := hJ
  have nm := e.next
  have hn' := (e.kept pn (Mem.rd_lt hn) hnb).trans hn
  have hm' := (e.kept pm (Mem.rd_lt hm) hmb).trans hm
  have hf' := (e.kept pf (Mem.rd_lt hf) hfb).trans hf
  have hv : IN m (.slice (some ⟨b, 0, none⟩) p p) l := IL.of hb (by rw [cellsN_len]; omega) (by rw [List.drop_zero, List.take_of_length_le (by rw [cellsN_len]; omega)]; rfl)
  have ld : ∀ (M : Mem) (q : Nat) (x : Value), M.rd q = some ⟨1, [x], none⟩ → ld1 M (.pointer (some ⟨q, 0, none⟩)) = some x := fun M q x h => by rw [ld1_u, h]; rfl
  rw [uc_e, uc_e, uc_e, uc_e, un0_e, ld m pn _ hn', oOpt_e]
  refine lcome_sp hlf (by omega) (by omega) hlt (by omega) hv fun u1 m1 e1 hu1 => ?_
  have n1 := e1.next
  rw [show (-(0 + 1) : Int) = -1 from rfl]
  refine contains_sp hlf hu1.il (by rw [parkL_len]; omega) ?_
  have jb1 := (e1.kept bm (Mem.rd_lt jb)).trans jb
  have hm1 := (e1.kept pm (Mem.rd_lt hm')).trans hm'
  have hf1 := (e1.kept pf (Mem.rd_lt hf')).trans hf'
  obtain ⟨f, rfl⟩ : ∃ f', f = f' + 1 := by
    cases f with
    | zero => cases jg
    | succ f' => exact ⟨f', rfl⟩
  -- the map behind this list
  have step : ∀ m', GtX (fun c => c = bm) m m' → m'.rd bm = some ⟨0, [], some (entW (visitW N l E))⟩ → LowE f (visitW N l E) → k (.tuple ⟨[]⟩) m' = some () := fun m' g1 g2 g3 => by
    refine hk m' g1 ?_
    simp only [goW] at jg
    cases hnx : nxtL N l with
    | some l' => rw [hnx] at jg; exact ⟨f, _, g2, jg, g3, by omega⟩
    | none => rw [hnx] at jg; cases jg; exact ⟨g2, g3.less (Nat.zero_le _)⟩
  by_cases hin : (-1 : Int) ∈ parkL N l
  · rw [decide_eq_true hin, aun_not, oOpt_e, join_e]
    show oIf (.bool false) _ _ = _
    rw [oIf_f]
    have hvis : visitW N l E = E := if_pos hin
    exact step m1 (GtX.of e1) (by rw [hvis]; exact jb1) (by rw [hvis]; exact jl.less (Nat.le_succ f))
  · have hvis : visitW N l E = bumpW (nnl (parkL N l)) E := if_neg hin
    have hpos : ∀ x ∈ parkL N l, 0 ≤ x ∧ x < N := fun x hx => by
      rcases parkL_cell x hx with h | h
      · exact absurd (h ▸ hx) hin
      · exact h
    have hci := ci_nnl fun x hx => (hpos x hx).1
    have hin1 : IN m1 u1 (nnl (parkL N l)) := by show IL _ _ (ci _); rw [hci]; exact hu1.il
    have hlow : Low (nnl (parkL N l)) := fun x hx => by
      obtain ⟨y, hy, rfl⟩ := List.mem_map.1 hx
      have := hpos y hy
      omega
    have hlen : (nnl (parkL N l)).length = l.length := by unfold nnl; rw [List.length_map, parkL_len]
    rw [hvis] at step
    generalize nnl (parkL N l) = key at hin1 hlow hlen step
    rw [decide_eq_false hin, aun_not, oOpt_e, join_e]
    show oIf (.bool true) _ _ = _
    rw [oIf_t, ld m1 _ _ hm1, oOpt_e, ld m1 _ _ hf1, oOpt_e, oCallV_e (hf := rfl)]
    show runT (tab lf) (n + 29) 53 [u1] L m1 _ = some ()
    refine name_sp hlf hin1 hlow (by omega) ?_
    have hE : ∀ q ∈ E, Low q.1 := fun q hq => (jl q hq).1
    have hvl := valW_le (k := key) jl jf
    have hbm : bEq (some ⟨1, [.map (some bm)], none⟩) (some ⟨1, [.map (some bm)], none⟩) = true := by
      rw [bEq_ss]
      show (Nat.beq bm bm && true) = true
      rw [Nat.beq_refl]; rfl
    rw [oSm_u, hm1, hbm, oIf_t, lookW (L := L) u60 u9s z3 jb1 hlow hE, oOpt_e, oInt_add ⟨by omega, by omega⟩, show (valW key E : Int) + 1 = ((valW key E + 1 : Nat) : Int) by omega, bumpE u60 u9s hLb jb1 hlow hE, oRes_e]
    exact step _ (GtX.put (X := fun c => c = bm) (GtX.of e1) rfl _) (Mem.rd_put_eq _ _ (Mem.rd_lt jb1)) (jl.bump jf hlow)
end
end Go.Vit
