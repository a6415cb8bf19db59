/- The pure statement of the law FnExactReachOf: the program's function and the reference's tell the same of every input, by plain lemmas on numbers, lists and rounds; no further condition. -/
import Derived.Test.YtkgeppbjfkhjcaaXFnExactReachOfx8
import Derived.Test.YtkgeppbjfkhjcaaXLib
namespace Go.Proofs.Ytkgeppbjfkhjcaa.Pure
open Go.RowKit Go.Proofs.Ytkgeppbjfkhjcaa.XFnExactReachOf Go.Proofs.Ytkgeppbjfkhjcaa.XLib Go.Proofs.YtkgeppbjfkhjcaaW.PrintWords Go.Proofs.YtkgeppbjfkhjcaaW.PrintLast Go.Proofs.YtkgeppbjfkhjcaaW.PrintMore
set_option maxRecDepth 100000
set_option linter.unusedVariables false
set_option linter.unusedSimpArgs false
/-! base_spec -/
theorem e_spec_l00In (a b c : Int) : spec_l00In.f a b c = some (decide (b ≤ a ∧ a ≤ c)) := by
  unfold spec_l00In.f
  by_cases h : b ≤ a <;> simp [h]
theorem e_spec_l01Steps (a : Int) : spec_l01Steps.f a = some (decide (8 ≤ a ∧ a ≤ 360)) := by
  unfold spec_l01Steps.f; rw [e_spec_l00In]; rfl
theorem e_spec_l01Lift (a : Int) : spec_l01Lift.f a = some (decide (0 ≤ a ∧ a ≤ 10000)) := by
  unfold spec_l01Lift.f; rw [e_spec_l00In]; rfl
theorem e_spec_l01Ok (l : List Int) (h16 : I16 l) (hl : l.length ≤ 1048576) : Ev (fun k => spec_l01Ok.f k l) (decide (Valid l)) := by
  unfold spec_l01Ok.f
  simp only [e_spec_l01Steps, Option.bind_some]
  by_cases h : 8 ≤ (l.length : Int) ∧ (l.length : Int) ≤ 360
  · simp only [h, and_self, decide_true, if_true]
    have := ev_find (fun k j => spec_l01Ok.l0 k l (j : Int)) (fun j => decide (0 ≤ rd l (j : Int) ∧ rd l (j : Int) ≤ 10000)) l.length true (fun _ => false) ?_ ?_ ?_
    · rw [ff_all] at this
      refine eve this ?_
      apply decide_eq_decide.mpr
      unfold Valid
      constructor
      · intro hh; exact ⟨by omega, by omega, fun j hj => by simpa using hh j hj⟩
      · intro hh j hj; simpa using hh.2.2 j hj
    · intro j r hj hp ih
      refine evs ?_
      have hb := h16.rdb (j : Int)
      simp (disch := omega) only [spec_l01Ok.l0, if_pos, e_spec_l01Lift, Option.bind_some, w64]
      first | exact ih | (rw [hp]; simp only [if_true]; exact ih)
    · intro j hj hp
      refine evs ?_
      have hb := h16.rdb (j : Int)
      simp (disch := omega) only [spec_l01Ok.l0, if_pos, e_spec_l01Lift, Option.bind_some, w64]
      first | exact evo rfl | (rw [hp]; exact evo rfl)
    · refine evs ?_
      simp (disch := omega) only [spec_l01Ok.l0, if_neg]
      exact evo rfl
  · rw [decide_eq_false h]
    simp only [Bool.false_eq_true, if_false]
    exact evo (decide_eq_false (fun hv => h ⟨by have := hv.1; omega, by have := hv.2.1; omega⟩)).symm

/-! base_impl -/
theorem e_impl_inRange (a b c : Int) : impl_inRange.f a b c = some (decide (b ≤ a ∧ a ≤ c)) := by
  unfold impl_inRange.f
  by_cases h : b ≤ a <;> simp [h]
theorem e_impl_isSteps (a : Int) : impl_isSteps.f a = some (decide (8 ≤ a ∧ a ≤ 360)) := by
  unfold impl_isSteps.f; rw [e_impl_inRange]; rfl
theorem e_impl_isLift (a : Int) : impl_isLift.f a = some (decide (0 ≤ a ∧ a ≤ 10000)) := by
  unfold impl_isLift.f; rw [e_impl_inRange]; rfl
theorem e_impl_Cam_steps (l : List Int) : impl_Cam_steps.f l = some (l.length : Int) := rfl
theorem e_impl_ValidCam (l : List Int) (h16 : I16 l) (hl : l.length ≤ 1048576) : Ev (fun k => impl_ValidCam.f k l) (decide (Valid l)) := by
  unfold impl_ValidCam.f
  simp only [e_impl_Cam_steps, e_impl_isSteps, Option.bind_some]
  by_cases h : 8 ≤ (l.length : Int) ∧ (l.length : Int) ≤ 360
  · simp only [h, and_self, decide_true, if_true]
    unfold slices_ContainsFunc_at_impl_ValidCam_c1.f slices_IndexFunc_at_impl_ValidCam_c1.f
    have := ev_find (fun k j => slices_IndexFunc_at_impl_ValidCam_c1.l0 k l (l.length : Int) (j : Int)) (fun j => decide (0 ≤ rd l (j : Int) ∧ rd l (j : Int) ≤ 10000)) l.length (-1) (fun j => (j : Int)) ?_ ?_ ?_
    · refine Ev.bind (Ev.bind this (evo rfl)) (evo ?_)
      rcases ff_eq (fun j => decide (0 ≤ rd l (j : Int) ∧ rd l (j : Int) ≤ 10000)) (-1 : Int) (fun j => (j : Int)) l.length with ⟨hh, e⟩ | ⟨m, hm, hf, _, e⟩
      · rw [e, decide_eq_true (show Valid l from ⟨by omega, by omega, fun j hj => by simpa using hh j hj⟩)]; rfl
      · rw [e, decide_eq_false (show ¬ Valid l from fun hv => by rw [decide_eq_true (hv.2.2 m hm)] at hf; cases hf)]
        simp
    · intro j r hj hp ih
      refine evs ?_
      have hb := h16.rdb (j : Int)
      simp (disch := omega) only [slices_IndexFunc_at_impl_ValidCam_c1.l0, impl_ValidCam_c1.f, if_pos, e_impl_isLift, Option.bind_some, w64]
      first | exact ih | (rw [hp]; simp only [Bool.not_true, Bool.false_eq_true, if_false]; exact ih)
    · intro j hj hp
      refine evs ?_
      have hb := h16.rdb (j : Int)
      simp (disch := omega) only [slices_IndexFunc_at_impl_ValidCam_c1.l0, impl_ValidCam_c1.f, if_pos, e_impl_isLift, Option.bind_some, w64]
      first | exact evo rfl | (rw [hp]; exact evo rfl)
    · refine evs ?_
      simp (disch := omega) only [slices_IndexFunc_at_impl_ValidCam_c1.l0, if_neg]
      exact evo rfl
  · rw [decide_eq_false h]
    simp only [Bool.false_eq_true, if_false]
    exact evo (decide_eq_false (fun hv => h ⟨by have := hv.1; omega, by have := hv.2.1; omega⟩)).symm

/-! spec_at -/
theorem e_spec_l01At (l : List Int) (h16 : I16 l) (h0 : 0 < l.length) (hl : l.length ≤ 1048576) (a : Int) (ha : -1000000000000 ≤ a) (hb : a ≤ 1000000000000) : spec_l01At.f l a = some (atz l a) := by
  unfold spec_l01At.f atz
  have hn : (0 : Int) < l.length := by omega
  have b := tmod_b a hn
  rw [if_neg (by omega), w64 (by omega) (by omega), two_mods a hn]
  have c := emod_b a hn
  rw [if_pos c.1, if_pos c.2]
  have := h16.rdb (a % (l.length : Int))
  rw [w64 (by omega) (by omega)]

/-! impl_mod -/
theorem e_impl_floorDiv (a n : Int) (h : 0 < n) (ha : -9223372036854775807 ≤ a) (hb : a ≤ 9223372036854775807) : impl_floorDiv.f a n = some (a / n) := by
  unfold impl_floorDiv.f
  have := tdiv_b a h 9223372036854775807 ha hb
  rw [if_neg (by omega), ← floor_tdiv a h]
  by_cases c : Int.tmod a n < 0
  · simp (disch := omega) only [if_pos c, w64]
  · simp (disch := omega) only [if_neg c, w64]
theorem e_impl_mod (a n : Int) (h : 0 < n) (hn : n ≤ 1048576) (ha : -1000000000000 ≤ a) (hb : a ≤ 1000000000000) : impl_mod.f a n = some (a % n) := by
  unfold impl_mod.f
  rw [e_impl_floorDiv a n h (by omega) (by omega)]
  have e := Int.emod_add_mul_ediv a n
  have b := emod_b a h
  simp (disch := omega) only [Option.bind_some, w64, mod_ediv]

/-! impl_at -/
theorem e_impl_Cam_at (l : List Int) (h16 : I16 l) (h0 : 0 < l.length) (hl : l.length ≤ 1048576) (a : Int) (ha : -1000000000000 ≤ a) (hb : a ≤ 1000000000000) : impl_Cam_at.f l a = some (atz l a) := by
  unfold impl_Cam_at.f atz
  have hn : (0 : Int) < l.length := by omega
  have c := emod_b a hn
  rw [e_impl_Cam_steps, Option.bind_some, e_impl_mod a _ hn (by omega) ha hb, Option.bind_some, if_pos c.1, if_pos c.2]
  have := h16.rdb (a % (l.length : Int))
  rw [w64 (by omega) (by omega)]

/-! impl_first -/
theorem e_impl_firstCode (l : List Int) (hl : l.length ≤ 10000000) : Ev (fun k => impl_firstCode.f k l) (fnz l) := by
  unfold impl_firstCode.f
  suffices H : ∀ d j, j + d = l.length → Ev (fun k => impl_firstCode.l0 k l (l.length : Int) (j : Int)) (fnz (l.drop j)) from by
    have := H l.length 0 (by omega); simpa using this
  intro d
  induction d with
  | zero =>
    intro j hj
    refine evs ?_
    simp (disch := omega) only [impl_firstCode.l0, if_neg]
    exact evo (by rw [List.drop_of_length_le (by omega)]; rfl)
  | succ d ih =>
    intro j hj
    refine evs ?_
    have hj2 : j < l.length := by omega
    simp (disch := omega) only [impl_firstCode.l0, if_pos, w64]
    have e : l.drop j = rd l (j : Int) :: l.drop (j + 1) := by
      rw [List.drop_eq_getElem_cons hj2, rd_nat]; simp [List.getD_eq_getElem?_getD, hj2]
    rw [e]; unfold fnz
    by_cases c : rd l (j : Int) = 0
    · simp only [if_pos c]; exact ih (j + 1) (by omega)
    · simp only [if_neg c]; exact evo rfl
theorem e_impl_codeIf (b : Bool) (c : Int) : impl_codeIf.f b c = some (if b = true then c else 0) := by
  unfold impl_codeIf.f; split <;> rfl

/-! bitv -/
def bv (x : Int) : BitVec 64 := BitVec.ofInt 64 x
/-- A bit of a number of 64 bits. -/
def bt (x : Int) (i : Nat) : Bool := (bv x).getLsbD i
def U64 (x : Int) : Prop := 0 ≤ x ∧ x ≤ 18446744073709551615
theorem u64w_nat (n : Nat) (h : n < 18446744073709551616) : IntKind.u64.wrap (n : Int) = n := by
  unfold IntKind.wrap IntKind.signed IntKind.bits; simp; omega
theorem u64w_in {x : Int} (h : U64 x) : IntKind.u64.wrap x = x := by
  obtain ⟨h0, h1⟩ := h
  unfold IntKind.wrap IntKind.signed IntKind.bits; simp; omega
theorem u64w_U (x : Int) : U64 (IntKind.u64.wrap x) := by
  unfold U64 IntKind.wrap IntKind.signed IntKind.bits; simp; omega
theorem bv_nat (b : BitVec 64) : bv (b.toNat : Int) = b := by
  apply BitVec.eq_of_toNat_eq
  unfold bv
  rw [BitVec.ofInt_natCast, BitVec.toNat_ofNat, Nat.mod_eq_of_lt (BitVec.isLt _)]
theorem bv_toNat {x : Int} (h : U64 x) : ((bv x).toNat : Int) = x := by
  obtain ⟨h0, h1⟩ := h
  unfold bv
  rw [BitVec.toNat_ofInt]
  omega
theorem bv_w (x : Int) : bv (IntKind.u64.wrap x) = bv x := by
  apply BitVec.eq_of_toNat_eq
  unfold bv
  rw [BitVec.toNat_ofInt, BitVec.toNat_ofInt]
  have e : IntKind.u64.wrap x = x % 18446744073709551616 := by unfold IntKind.wrap IntKind.signed IntKind.bits; simp
  rw [e]
  omega
theorem and_e (v c : Int) : Go.bits .and .u64 v c = ((bv v &&& bv c).toNat : Int) := u64w_nat _ (BitVec.isLt _)
theorem or_e (v c : Int) : Go.bits .or .u64 v c = ((bv v ||| bv c).toNat : Int) := u64w_nat _ (BitVec.isLt _)
theorem an_e (v c : Int) : Go.bits .andNot .u64 v c = ((bv v &&& ~~~ bv c).toNat : Int) := u64w_nat _ (BitVec.isLt _)
theorem bt_and (v c : Int) (i : Nat) : bt (Go.bits .and .u64 v c) i = (bt v i && bt c i) := by
  unfold bt; rw [and_e, bv_nat, BitVec.getLsbD_and]
theorem bt_or (v c : Int) (i : Nat) : bt (Go.bits .or .u64 v c) i = (bt v i || bt c i) := by
  unfold bt; rw [or_e, bv_nat, BitVec.getLsbD_or]
theorem bt_lt {x : Int} {i : Nat} (h : bt x i = true) : i < 64 := by
  by_cases c : i < 64
  · exact c
  · unfold bt at h; rw [BitVec.getLsbD_of_ge _ _ (by omega)] at h; cases h
theorem an_iff (v c : Int) : Go.bits .andNot .u64 v c = 0 ↔ ∀ i, bt v i = true → bt c i = true := by
  rw [an_e]
  constructor
  · intro h i hi
    have h0 : bv v &&& ~~~ bv c = 0#64 := BitVec.eq_of_toNat_eq (by rw [BitVec.toNat_ofNat]; omega)
    have h1 : (bv v &&& ~~~ bv c).getLsbD i = false := by rw [h0]; simp
    rw [BitVec.getLsbD_and, BitVec.getLsbD_not] at h1
    have hl := bt_lt hi
    unfold bt at hi ⊢
    rw [hi] at h1
    simpa [hl] using h1
  · intro h
    have h0 : bv v &&& ~~~ bv c = 0#64 := by
      apply BitVec.eq_of_getLsbD_eq
      intro i hi
      rw [BitVec.getLsbD_and, BitVec.getLsbD_not]
      have := h i
      unfold bt at this
      by_cases a : (bv v).getLsbD i = true
      · rw [this a]; simp
      · rw [Bool.eq_false_iff.mpr a]; simp
    rw [h0]; rfl
theorem bt_0 (i : Nat) : bt 0 i = false := by unfold bt bv; simp
theorem bt_all (i : Nat) : bt 18446744073709551615 i = decide (i < 64) := by
  unfold bt
  have e : bv 18446744073709551615 = BitVec.allOnes 64 := by decide
  rw [e, BitVec.getLsbD_allOnes]
theorem pow_64 {m : Nat} (h : m ≤ 63) : 2 ^ m < 18446744073709551616 := Nat.lt_of_le_of_lt (Nat.pow_le_pow_right (by decide) h) (by decide)
theorem bt_shl (x n : Int) (h0 : 0 ≤ n) (h1 : n ≤ 63) (i : Nat) : bt (shl .u64 x n) i = (decide (i < 64) && !decide (i < n.toNat) && bt x (i - n.toNat)) := by
  unfold bt shl
  have e : min n.toNat IntKind.u64.bits = n.toNat := Nat.min_eq_left (by show n.toNat ≤ 64; omega)
  rw [e, bv_w]
  have e2 : bv (x * 2 ^ n.toNat) = bv x <<< n.toNat := by
    unfold bv
    rw [BitVec.ofInt_mul]
    have e3 : BitVec.ofInt 64 ((2 : Int) ^ n.toNat) = BitVec.twoPow 64 n.toNat := by
      apply BitVec.eq_of_toNat_eq
      rw [BitVec.toNat_twoPow, show ((2 : Int) ^ n.toNat) = ((2 ^ n.toNat : Nat) : Int) by simp, BitVec.ofInt_natCast, BitVec.toNat_ofNat]
    rw [e3, BitVec.mul_twoPow_eq_shiftLeft]
  rw [e2, BitVec.getLsbD_shiftLeft]
theorem bv_shr {x n : Int} (hx : U64 x) (h0 : 0 ≤ n) (h1 : n ≤ 64) : bv (shr .u64 x n) = bv x >>> n.toNat := by
  have e : min n.toNat IntKind.u64.bits = n.toNat := Nat.min_eq_left (by show n.toNat ≤ 64; omega)
  unfold shr
  rw [e]
  apply BitVec.eq_of_toNat_eq
  rw [BitVec.toNat_ushiftRight, Nat.shiftRight_eq_div_pow]
  obtain ⟨a, b⟩ := hx
  obtain ⟨m, rfl⟩ := Int.eq_ofNat_of_zero_le a
  have e1 : ((m : Int) / 2 ^ n.toNat) = ((m / 2 ^ n.toNat : Nat) : Int) := by simp
  rw [e1]
  unfold bv
  rw [BitVec.ofInt_natCast, BitVec.ofInt_natCast, BitVec.toNat_ofNat, BitVec.toNat_ofNat, Nat.mod_eq_of_lt (a := m) (by omega), Nat.mod_eq_of_lt]
  have := Nat.div_le_self m (2 ^ n.toNat)
  omega
theorem shr_U {x n : Int} (hx : U64 x) : U64 (shr .u64 x n) := by
  unfold shr
  obtain ⟨a, b⟩ := hx
  have hp : (0 : Int) < 2 ^ min n.toNat IntKind.u64.bits := Int.pow_pos (by decide)
  refine ⟨Int.ediv_nonneg a (by omega), ?_⟩
  have := Int.ediv_le_self (2 ^ min n.toNat IntKind.u64.bits) a
  omega
theorem bt_shr {x n : Int} (hx : U64 x) (h0 : 0 ≤ n) (h1 : n ≤ 64) (i : Nat) : bt (shr .u64 x n) i = bt x (n.toNat + i) := by
  unfold bt
  rw [bv_shr hx h0 h1, BitVec.getLsbD_ushiftRight]
theorem bit_iff {x y : Int} (hx : U64 x) (h0 : 0 ≤ y) (h1 : y ≤ 63) : Go.bits .and .u64 (shr .u64 x y) 1 = 1 ↔ bt x y.toNat = true := by
  rw [and_e, bv_shr hx h0 (by omega)]
  have e : bv x >>> y.toNat &&& bv 1 = BitVec.setWidth 64 (BitVec.ofBool ((bv x >>> y.toNat).getLsbD 0)) := BitVec.and_one_eq_setWidth_ofBool_getLsbD
  rw [e, BitVec.getLsbD_ushiftRight, Nat.add_zero]
  unfold bt
  cases (bv x).getLsbD y.toNat <;> decide
theorem shl_1 (n : Int) (h0 : 0 ≤ n) (h1 : n ≤ 63) (i : Nat) : bt (shl .u64 1 n) i = decide (i = n.toNat) := by
  rw [bt_shl 1 n h0 h1]
  have e : ∀ j, bt 1 j = decide (j = 0) := by
    intro j
    unfold bt
    rw [show bv 1 = 1#64 by decide, BitVec.getLsbD_one]
    simp
  rw [e]
  by_cases c : i = n.toNat
  · subst c; simp; omega
  · by_cases d : i < n.toNat
    · simp [d, c]
    · have : i - n.toNat ≠ 0 := by omega
      simp [this, c]
theorem and_U (v c : Int) : U64 (Go.bits .and .u64 v c) := by
  rw [and_e]; have := (bv v &&& bv c).isLt; unfold U64; omega
theorem or_U (v c : Int) : U64 (Go.bits .or .u64 v c) := by
  rw [or_e]; have := (bv v ||| bv c).isLt; unfold U64; omega
theorem shl_U (x n : Int) : U64 (shl .u64 x n) := u64w_U _

/-! grid -/
theorem rdGR (l : List S69) (j : Nat) (h : j < l.length) : rd_T69 l (j : Int) = l[j] := by
  unfold rd_T69; rw [Int.toNat_natCast, List.getD_eq_getElem?_getD, List.getElem?_eq_getElem h]; rfl
theorem e_laws_eqGrid (x : List Int) : Ev (fun k => laws_eqGrid.f k x x) true := by
  unfold laws_eqGrid.f
  have := ev_loop (fun k j => laws_eqGrid.l0 k (j : Int) x x) 64 true ?_ ?_
  · exact this
  · intro j hj ih
    refine evs ?_
    simp (disch := omega) only [laws_eqGrid.l0, if_pos, if_true, w64]
    exact ih
  · refine evs ?_
    simp (disch := omega) only [laws_eqGrid.l0, if_neg]
    exact evo rfl
theorem e_laws_eqGridS (l : List S69) (hl : l.length ≤ 1048576) : Ev (fun k => laws_eqGridS.f k l l) true := by
  unfold laws_eqGridS.f
  simp only [if_true]
  have := ev_loop (fun k j => laws_eqGridS.l0 k l l (j : Int)) l.length true ?_ ?_
  · exact this
  · intro j hj ih
    refine evs ?_
    simp (disch := omega) only [laws_eqGridS.l0, if_pos, w64]
    refine Ev.bind (e_laws_eqGrid _) ?_
    simp only [if_true]
    exact ih
  · refine evs ?_
    simp (disch := omega) only [laws_eqGridS.l0, if_neg]
    exact evo rfl
/-! grids of pairs -/
def lo (x y b : Int) : Int := mx (2 * y - x - b) 0
def hi (x y b : Int) : Int := mn (2 * y - x + b) 63
theorem lo_b {x y b : Int} (hx : 0 ≤ x ∧ x ≤ 63) (hy : 0 ≤ y ∧ y ≤ 63) (hb : 0 ≤ b ∧ b ≤ 40000) : 0 ≤ lo x y b ∧ lo x y b ≤ 126 := by unfold lo mx; split <;> omega
theorem hi_b {x y b : Int} (hx : 0 ≤ x ∧ x ≤ 63) (hy : 0 ≤ y ∧ y ≤ 63) (hb : 0 ≤ b ∧ b ≤ 40000) : -63 ≤ hi x y b ∧ hi x y b ≤ 63 := by unfold hi mn; split <;> omega
theorem all_U : U64 18446744073709551615 := by unfold U64; decide
def spV (l h : Int) : Int := if l > h then 0 else shl .u64 (shr .u64 18446744073709551615 (63 - h + l)) l
theorem spV_bt {l h : Int} (h0 : 0 ≤ l) (h1 : h ≤ 63) (i : Nat) : bt (spV l h) i = decide (l ≤ (i : Int) ∧ (i : Int) ≤ h) := by
  unfold spV
  by_cases c : l > h
  · rw [if_pos c, bt_0]; exact (decide_eq_false (by omega)).symm
  · rw [if_neg c, bt_shl _ _ h0 (by omega), bt_shr all_U (by omega) (by omega), bt_all]
    by_cases a : l ≤ (i : Int) ∧ (i : Int) ≤ h
    · rw [decide_eq_true a]
      simp
      omega
    · rw [decide_eq_false a]
      simp
      omega
theorem spV_U (l h : Int) : U64 (spV l h) := by
  unfold spV
  split
  · unfold U64; decide
  · exact shl_U _ _
def leV (x y b : Int) : Int := spV (lo x y b) (hi x y b)
theorem e_impl_leads {x y b : Int} (hx : 0 ≤ x ∧ x ≤ 63) (hy : 0 ≤ y ∧ y ≤ 63) (hb : 0 ≤ b ∧ b ≤ 40000) : impl_leads.f x y b = some (leV x y b) := by
  unfold impl_leads.f impl_span.f leV spV
  have a := lo_b hx hy hb
  have c := hi_b hx hy hb
  simp (disch := omega) only [w64]
  unfold lo hi at *
  by_cases g : mx (2 * y - x - b) 0 > mn (2 * y - x + b) 63
  · simp only [if_pos g, Option.bind_some]
  · simp only [if_neg g]
    simp (disch := omega) only [w64]
    rw [if_pos (by omega), Option.bind_some]
theorem leV_bt {x y b : Int} (hx : 0 ≤ x ∧ x ≤ 63) (hy : 0 ≤ y ∧ y ≤ 63) (hb : 0 ≤ b ∧ b ≤ 40000) (i : Nat) : bt (leV x y b) i = decide (lo x y b ≤ (i : Int) ∧ (i : Int) ≤ hi x y b) :=
  spV_bt (lo_b hx hy hb).1 (hi_b hx hy hb).2 i

/-! where a grid leads -/
/-- A grid's numbers have 64 bits. -/
def GW (g : List Int) : Prop := g.length = 64 ∧ ∀ j : Int, U64 (rd g j)
def ledY (g : List Int) (b al x : Int) (out : List Int) (y : Nat) : List Int := if bt (rd g x) y = true then out.set y (Go.bits .or .u64 (rd out (y : Int)) (Go.bits .and .u64 (leV x (y : Int) b) al)) else out
def ledX (g : List Int) (b al : Int) (out : List Int) (x : Nat) : List Int := (List.range 64).foldl (ledY g b al (x : Int)) out
def ledV (g : List Int) (b al : Int) : List Int := (List.range 64).foldl (ledX g b al) pl0_
theorem ledY_len (g : List Int) (b al x : Int) (out : List Int) (y : Nat) : (ledY g b al x out y).length = out.length := by unfold ledY; split <;> simp
theorem foldl_len {β : Type} (f : List Int → β → List Int) (hf : ∀ o y, (f o y).length = o.length) : ∀ (L : List β) (o : List Int), (L.foldl f o).length = o.length := by
  intro L
  induction L with
  | nil => intro o; rfl
  | cons y L ih => intro o; rw [List.foldl_cons, ih, hf]
theorem ledX_len (g : List Int) (b al : Int) (out : List Int) (x : Nat) : (ledX g b al out x).length = out.length := foldl_len _ (ledY_len g b al (x : Int)) _ _
theorem ledV_len (g : List Int) (b al : Int) : (ledV g b al).length = 64 := (foldl_len _ (ledX_len g b al) _ _).trans (by simp)
theorem foldl_snoc {α : Type} (f : α → Nat → α) (o : α) (j : Nat) : (List.range (j + 1)).foldl f o = f ((List.range j).foldl f o) j := by
  rw [List.range_succ, List.foldl_append]; rfl
theorem e_impl_led (g : List Int) (hg : GW g) (b al : Int) (hb : 0 ≤ b ∧ b ≤ 40000) : Ev (fun k => impl_led.f k g b al) (ledV g b al) := by
  unfold impl_led.f ledV
  have := ev_loop (fun k j => impl_led.l0 k g b al (j : Int) ((List.range j).foldl (ledX g b al) pl0_)) 64 ((List.range 64).foldl (ledX g b al) pl0_) ?_ ?_
  · exact this
  · intro x hx ih
    refine evs ?_
    simp (disch := omega) only [impl_led.l0, if_pos]
    rw [foldl_snoc] at ih
    have hl : ((List.range x).foldl (ledX g b al) pl0_).length = 64 := (foldl_len _ (ledX_len g b al) _ _).trans (by simp)
    generalize (List.range x).foldl (ledX g b al) pl0_ = o at ih hl ⊢
    have := ev_loop (fun k j => impl_led.l1 k g b al (x : Int) (rd g (x : Int)) (j : Int) ((List.range j).foldl (ledY g b al (x : Int)) o)) 64 ((List.range 64).foldl (ledX g b al) pl0_) ?_ ?_
    · exact this
    · intro y hy ih2
      refine evs ?_
      have hl2 : ((List.range y).foldl (ledY g b al (x : Int)) o).length = 64 := (foldl_len _ (ledY_len g b al (x : Int)) _ _).trans hl
      rw [foldl_snoc] at ih2
      generalize (List.range y).foldl (ledY g b al (x : Int)) o = p at ih2 hl2 ⊢
      simp (disch := omega) only [impl_led.l1, if_pos, w64]
      unfold ledY at ih2
      by_cases c : bt (rd g (x : Int)) y = true
      · have c2 := (bit_iff (hg.2 (x : Int)) (y := (y : Int)) (by omega) (by omega)).mpr (by rw [Int.toNat_natCast]; exact c)
        simp only [if_pos c2, if_pos hl2, e_impl_leads (x := (x : Int)) (y := (y : Int)) (by omega) (by omega) hb, Option.bind_some, Int.toNat_natCast]
        rw [if_pos c] at ih2
        exact ih2
      · have c2 : ¬ (Go.bits .and .u64 (shr .u64 (rd g (x : Int)) (y : Int)) 1 = 1) := fun h => c (by have := (bit_iff (hg.2 (x : Int)) (y := (y : Int)) (by omega) (by omega)).mp h; rwa [Int.toNat_natCast] at this)
        simp only [if_neg c2]
        rw [if_neg c] at ih2
        exact ih2
    · refine evs ?_
      simp (disch := omega) only [impl_led.l1, if_neg, w64]
      exact ih
  · refine evs ?_
    simp (disch := omega) only [impl_led.l0, if_neg]
    exact evo rfl
theorem rd_setN (x : List Int) (j : Nat) (i : Nat) (v : Int) (hl : i < x.length) : rd (x.set j v) (i : Int) = if j = i then v else rd x (i : Int) := by
  unfold rd
  rw [Int.toNat_natCast]
  by_cases c : j = i
  · subst c; simp [hl]
  · simp [c]
/-- The bits of a row behind a fold over the rows y < n. -/
theorem ledX_bt (g : List Int) (b al x : Int) (out : List Int) (ho : out.length = 64) : ∀ (n : Nat), n ≤ 64 → ∀ (y : Nat), y < 64 → ∀ i, bt (rd ((List.range n).foldl (ledY g b al x) out) (y : Int)) i = (bt (rd out (y : Int)) i || (decide (y < n) && bt (rd g x) y && bt (leV x (y : Int) b) i && bt al i)) := by
  intro n
  induction n with
  | zero => intro _ y hy i; simp
  | succ n ih =>
    intro hn y hy i
    have hl : ((List.range n).foldl (ledY g b al x) out).length = 64 := (foldl_len _ (ledY_len g b al x) _ _).trans ho
    rw [foldl_snoc]
    have e := ih (by omega) y hy i
    generalize (List.range n).foldl (ledY g b al x) out = p at e hl ⊢
    unfold ledY
    by_cases c : bt (rd g x) n = true
    · rw [if_pos c, rd_setN _ _ _ _ (by omega)]
      by_cases d : n = y
      · subst d
        rw [if_pos rfl, bt_or, bt_and, e, c]
        simp [Bool.and_assoc]
      · rw [if_neg d, e]
        have e2 : decide (y < n + 1) = decide (y < n) := decide_eq_decide.mpr (by omega)
        rw [e2]
    · rw [if_neg c, e]
      by_cases d : n = y
      · subst d
        simp [Bool.eq_false_iff.mpr c]
      · have e2 : decide (y < n + 1) = decide (y < n) := decide_eq_decide.mpr (by omega)
        rw [e2]
theorem ledV_bt (g : List Int) (b al : Int) (y : Nat) (hy : y < 64) (i : Nat) : bt (rd (ledV g b al) (y : Int)) i = true ↔ ∃ x : Nat, x < 64 ∧ bt (rd g (x : Int)) y = true ∧ bt (leV (x : Int) (y : Int) b) i = true ∧ bt al i = true := by
  unfold ledV
  suffices H : ∀ n, n ≤ 64 → (bt (rd ((List.range n).foldl (ledX g b al) pl0_) (y : Int)) i = true ↔ ∃ x : Nat, x < n ∧ bt (rd g (x : Int)) y = true ∧ bt (leV (x : Int) (y : Int) b) i = true ∧ bt al i = true) from H 64 (Nat.le_refl _)
  intro n
  induction n with
  | zero =>
    intro _
    have e : rd pl0_ (y : Int) = 0 := by unfold rd; rw [Int.toNat_natCast]; simp [List.getD_eq_getElem?_getD, hy]
    show bt (rd pl0_ (y : Int)) i = true ↔ _
    rw [e, bt_0]
    constructor
    · intro h; cases h
    · rintro ⟨x, hx, _⟩; omega
  | succ n ih =>
    intro hn
    have hl : ((List.range n).foldl (ledX g b al) pl0_).length = 64 := (foldl_len _ (ledX_len g b al) _ _).trans (by simp)
    have e := ih (by omega)
    rw [foldl_snoc]
    generalize (List.range n).foldl (ledX g b al) pl0_ = p at e hl ⊢
    unfold ledX
    rw [ledX_bt g b al (n : Int) p hl 64 (Nat.le_refl _) y hy i, decide_eq_true hy]
    simp only [Bool.true_and, Bool.or_eq_true, Bool.and_eq_true, e]
    constructor
    · rintro (⟨x, hx, h⟩ | ⟨⟨h1, h2⟩, h3⟩)
      · exact ⟨x, by omega, h⟩
      · exact ⟨n, by omega, h1, h2, h3⟩
    · rintro ⟨x, hx, h1, h2, h3⟩
      by_cases d : x = n
      · subst d; exact .inr ⟨⟨h1, h2⟩, h3⟩
      · exact .inl ⟨x, by omega, h1, h2, h3⟩

/-! stretch -/
theorem e_spec_l05Low (b : Int) : spec_l05Low.f b = some (decide (0 ≤ b ∧ b ≤ 9937)) := by
  unfold spec_l05Low.f; rw [e_spec_l00In]; rfl
theorem e_spec_l05BoundS (b : Int) : spec_l05Bound.f b = some (decide (0 ≤ b ∧ b ≤ 40000)) := by
  unfold spec_l05Bound.f; rw [e_spec_l00In]; rfl
theorem e_spec_l00MinS (a b : Int) : spec_l00Min.f a b = some (mn a b) := by
  unfold spec_l00Min.f mn
  by_cases c : a < b
  · rw [if_pos c, if_neg (by omega)]
  · rw [if_neg c]
    by_cases d : b < a
    · rw [if_pos d]
    · rw [if_neg d, show b = a by omega]
theorem e_spec_l00MaxS (a b : Int) : spec_l00Max.f a b = some (mx a b) := by
  unfold spec_l00Max.f mx
  by_cases c : a > b
  · rw [if_pos c, if_neg (by omega)]
  · rw [if_neg c]
    by_cases d : a < b
    · rw [if_pos d]
    · rw [if_neg d, show b = a by omega]
/-- A stretch and a bound are in their ranges. -/
def rgS (l : List Int) (s L low b : Int) : Prop := (0 ≤ s ∧ s ≤ (l.length : Int) - 1) ∧ (1 ≤ L ∧ L ≤ mn 40 ((l.length : Int) - 4)) ∧ (0 ≤ low ∧ low ≤ 9937) ∧ (0 ≤ b ∧ b ≤ 40000)
instance (l : List Int) (s L low b : Int) : Decidable (rgS l s L low b) := by unfold rgS; infer_instance
def hz (l : List Int) (low t : Int) : Int := atz l t - low
def besL (s L : Int) : List Int := [s - 2, s - 1, s + L, s + L + 1]
def inW (l : List Int) (low t : Int) : Prop := 0 ≤ hz l low t ∧ hz l low t ≤ 63
instance (l : List Int) (low t : Int) : Decidable (inW l low t) := by unfold inW; infer_instance
def ckW (l : List Int) (s L low : Int) : Int := if ∀ j : Nat, j < 4 → inW l low (rd (besL s L) (j : Int)) then 0 else 4
def ckC (l : List Int) (s L low b : Int) : Int := if Valid l then (if rgS l s L low b then ckW l s L low else 2) else 1
theorem ff_code (p : Nat → Prop) [∀ j, Decidable (p j)] (a b : Int) (n : Nat) : ff (fun j => decide (p j)) a (fun _ => b) n 0 = if ∀ j, j < n → p j then a else b := by
  rcases ff_eq (fun j => decide (p j)) a (fun _ => b) n with ⟨h, e⟩ | ⟨m, hm, hf, _, e⟩
  · rw [e, if_pos (fun j hj => of_decide_eq_true (h j hj))]
  · rw [e, if_neg (fun h => (of_decide_eq_false hf) (h m hm))]
theorem mn40 {n : Int} : mn 40 n ≤ 40 ∧ mn 40 n ≤ n := by unfold mn; split <;> omega
theorem e_spec_l05Asked (l : List Int) (h16 : I16 l) (hl : l.length ≤ 1048576) (s L low b : Int) : Ev (fun k => spec_l05Asked.f k l s L low b) (ckC l s L low b) := by
  unfold spec_l05Asked.f ckC
  refine Ev.bind (e_spec_l01Ok l h16 hl) ?_
  by_cases hv : Valid l
  · have out2 : ¬ rgS l s L low b → Ev (fun k => spec_l05Asked.j0 k l s L low true) (if rgS l s L low b then ckW l s L low else 2) := by
      intro h
      refine evs ?_
      simp only [spec_l05Asked.j0, if_true]
      exact evo (by rw [if_neg h])
    have hn := hv.1
    have hn2 := hv.2.1
    simp only [hv, decide_true, if_true, e_spec_l00In, e_spec_l00MinS, e_spec_l05Low, e_spec_l05BoundS, Option.bind_some]
    rw [w64 (x := (l.length : Int) - 1) (by omega) (by omega), w64 (x := (l.length : Int) - 4) (by omega) (by omega)]
    by_cases h1 : 0 ≤ s ∧ s ≤ (l.length : Int) - 1
    · simp only [decide_eq_true h1, if_true]
      by_cases h2 : 1 ≤ L ∧ L ≤ mn 40 ((l.length : Int) - 4)
      · simp only [decide_eq_true h2, if_true]
        by_cases h3 : 0 ≤ low ∧ low ≤ 9937
        · simp only [decide_eq_true h3, if_true]
          by_cases h4 : 0 ≤ b ∧ b ≤ 40000
          · simp only [decide_eq_true h4, Bool.not_true]
            rw [if_pos (show rgS l s L low b from ⟨h1, h2, h3, h4⟩)]
            refine evs ?_
            simp only [spec_l05Asked.j0, Bool.false_eq_true, if_false]
            have hm := mn40 (n := (l.length : Int) - 4)
            rw [w64 (x := s - 2) (by omega) (by omega), w64 (x := s - 1) (by omega) (by omega), w64 (x := s + L) (by omega) (by omega), w64 (x := s + L + 1) (by omega) (by omega)]
            have := ev_find (fun k j => spec_l05Asked.l0 k l low (besL s L) (j : Int)) (fun j : Nat => decide (inW l low (rd (besL s L) (j : Int)))) 4 (0 : Int) (fun _ => (4 : Int)) ?_ ?_ ?_
            · rw [ff_code (fun j : Nat => inW l low (rd (besL s L) (j : Int)))] at this; exact this
            all_goals
              have hbes : ∀ j : Nat, j < 4 → -2 ≤ rd (besL s L) (j : Int) ∧ rd (besL s L) (j : Int) ≤ 1000 := by
                intro j hj
                obtain rfl | rfl | rfl | rfl : j = 0 ∨ j = 1 ∨ j = 2 ∨ j = 3 := by omega
                all_goals (simp [besL, rd]; try omega)
              have hlen : ((besL s L).length : Int) = 4 := rfl
            · intro j r hj hp ih
              refine evs ?_
              have hb := hbes j hj
              have ha := hv.atzb (rd (besL s L) (j : Int))
              have hp2 := of_decide_eq_true hp
              unfold inW hz at hp2
              simp (disch := omega) only [spec_l05Asked.l0, hlen, if_pos, e_spec_l01At l h16, e_spec_l00In, Option.bind_some, w64]
              simp only [decide_eq_true (show low ≤ atz l (rd (besL s L) (j : Int)) ∧ atz l (rd (besL s L) (j : Int)) ≤ low + 64 - 1 by omega), if_true]
              exact ih
            · intro j hj hp
              refine evs ?_
              have hb := hbes j hj
              have ha := hv.atzb (rd (besL s L) (j : Int))
              have hp2 := of_decide_eq_false hp
              unfold inW hz at hp2
              simp (disch := omega) only [spec_l05Asked.l0, hlen, if_pos, e_spec_l01At l h16, e_spec_l00In, Option.bind_some, w64]
              simp only [decide_eq_false (show ¬ (low ≤ atz l (rd (besL s L) (j : Int)) ∧ atz l (rd (besL s L) (j : Int)) ≤ low + 64 - 1) by omega), Bool.false_eq_true, if_false]
              exact evo rfl
            · refine evs ?_
              simp (disch := omega) only [spec_l05Asked.l0, hlen, if_neg]
              exact evo rfl
          · simp only [decide_eq_false h4, Bool.not_false]
            exact out2 (fun h => h4 h.2.2.2)
        · simp only [decide_eq_false h3, Bool.false_eq_true, if_false]
          exact out2 (fun h => h3 h.2.2.1)
      · simp only [decide_eq_false h2, Bool.false_eq_true, if_false]
        exact out2 (fun h => h2 h.2.1)
    · simp only [decide_eq_false h1, Bool.false_eq_true, if_false]
      exact out2 (fun h => h1 h.1)
  · simp only [hv, decide_false, Bool.false_eq_true, if_false]; exact evo rfl
theorem e_impl_height (l : List Int) (h16 : I16 l) (h0 : 0 < l.length) (hl : l.length ≤ 1048576) (s L low t : Int) (hlow : 0 ≤ low ∧ low ≤ 9937) (ha : -1000000000000 ≤ t) (hb : t ≤ 1000000000000) : impl_stretch_height.f l s L low t = some (hz l low t) := by
  unfold impl_stretch_height.f hz
  rw [e_impl_Cam_at l h16 h0 hl t ha hb, Option.bind_some]
  have := h16.rdb (t % (l.length : Int))
  rw [w64 (by unfold atz; omega) (by unfold atz; omega)]
theorem e_impl_stretch_code (l : List Int) (h16 : I16 l) (hl : l.length ≤ 1048576) (s L low b : Int) : Ev (fun k => impl_stretch_code.f k l s L low b) (ckC l s L low b) := by
  unfold impl_stretch_code.f
  simp only [e_impl_Cam_steps, Option.bind_some]
  refine Ev.bind (e_impl_ValidCam l h16 hl) ?_
  have fin : ∀ c2 : Int, c2 = (if rgS l s L low b then 0 else 2) → Ev (fun k => (impl_firstCode.f k [if (!decide (Valid l)) = true then 1 else 0, c2]).bind fun t => impl_stretch_code.j0 k t l s L low) (ckC l s L low b) := by
    intro c2 hc2
    refine Ev.bind (e_impl_firstCode _ (by simp)) ?_
    refine evs ?_
    simp only [impl_stretch_code.j0]
    unfold ckC
    by_cases hv : Valid l
    · simp only [hv, decide_true, Bool.not_true, Bool.false_eq_true, if_false, if_true, fnz]
      by_cases hr : rgS l s L low b
      · obtain ⟨h1, h2, h3, h4⟩ := id hr
        have hn := hv.1
        have hn2 := hv.2.1
        have hm := mn40 (n := (l.length : Int) - 4)
        simp only [hc2, if_pos hr, if_true]
        rw [w64 (x := s - 2) (by omega) (by omega), w64 (x := s - 1) (by omega) (by omega), w64 (x := s + L) (by omega) (by omega), w64 (x := s + L + 1) (by omega) (by omega)]
        have := ev_find (fun k j => impl_stretch_code.l0 k (j : Int) (s - 2) (s - 1) (s + L) (s + L + 1) l s L low) (fun j : Nat => decide (inW l low (rd (besL s L) (j : Int)))) 4 (0 : Int) (fun _ => (4 : Int)) ?_ ?_ ?_
        · rw [ff_code (fun j : Nat => inW l low (rd (besL s L) (j : Int)))] at this; exact this
        · intro j r hj hp ih
          refine evs ?_
          have hp2 := of_decide_eq_true hp
          obtain rfl | rfl | rfl | rfl : j = 0 ∨ j = 1 ∨ j = 2 ∨ j = 3 := by omega
          all_goals
            unfold inW at hp2
            simp (disch := omega) only [impl_stretch_code.l0, if_pos, if_neg, e_impl_height l h16 (by omega) hl, e_impl_inRange, Option.bind_some, w64]
            first | (have hp3 : 0 ≤ hz l low (s - 2) ∧ hz l low (s - 2) ≤ 63 := hp2; simp only [decide_eq_true hp3, if_true]) | (have hp3 : 0 ≤ hz l low (s - 1) ∧ hz l low (s - 1) ≤ 63 := hp2; simp only [decide_eq_true hp3, if_true]) | (have hp3 : 0 ≤ hz l low (s + L) ∧ hz l low (s + L) ≤ 63 := hp2; simp only [decide_eq_true hp3, if_true]) | (have hp3 : 0 ≤ hz l low (s + L + 1) ∧ hz l low (s + L + 1) ≤ 63 := hp2; simp only [decide_eq_true hp3, if_true])
            exact ih
        · intro j hj hp
          refine evs ?_
          have hp2 := of_decide_eq_false hp
          obtain rfl | rfl | rfl | rfl : j = 0 ∨ j = 1 ∨ j = 2 ∨ j = 3 := by omega
          all_goals
            unfold inW at hp2
            simp (disch := omega) only [impl_stretch_code.l0, if_pos, if_neg, e_impl_height l h16 (by omega) hl, e_impl_inRange, Option.bind_some, w64]
            first | (have hp3 : ¬ (0 ≤ hz l low (s - 2) ∧ hz l low (s - 2) ≤ 63) := hp2; simp only [decide_eq_false hp3, Bool.false_eq_true, if_false]) | (have hp3 : ¬ (0 ≤ hz l low (s - 1) ∧ hz l low (s - 1) ≤ 63) := hp2; simp only [decide_eq_false hp3, Bool.false_eq_true, if_false]) | (have hp3 : ¬ (0 ≤ hz l low (s + L) ∧ hz l low (s + L) ≤ 63) := hp2; simp only [decide_eq_false hp3, Bool.false_eq_true, if_false]) | (have hp3 : ¬ (0 ≤ hz l low (s + L + 1) ∧ hz l low (s + L + 1) ≤ 63) := hp2; simp only [decide_eq_false hp3, Bool.false_eq_true, if_false])
            exact evo rfl
        · refine evs ?_
          simp (disch := omega) only [impl_stretch_code.l0, if_neg]
          exact evo rfl
      · rw [hc2, if_neg hr]
        simp only [show ¬ ((2 : Int) = 0) by decide, if_false]
        exact evo (by rw [if_neg hr])
    · simp only [hv, decide_false, Bool.not_false, if_true, fnz, show ¬ ((1 : Int) = 0) by decide, if_false]
      exact evo rfl
  have hw1 : wrap64 ((l.length : Int) - 1) = (l.length : Int) - 1 := w64 (by omega) (by omega)
  have hw4 : wrap64 ((l.length : Int) - 4) = (l.length : Int) - 4 := w64 (by omega) (by omega)
  simp only [e_impl_codeIf, impl_isPlace.f, e_impl_inRange, Option.bind_some, hw1, hw4, if_true]
  by_cases h1 : 0 ≤ s ∧ s ≤ (l.length : Int) - 1
  · simp only [decide_eq_true h1, if_true]
    by_cases h2 : 1 ≤ L ∧ L ≤ mn 40 ((l.length : Int) - 4)
    · simp only [decide_eq_true h2, if_true]
      by_cases h3 : 0 ≤ low ∧ low ≤ 9937
      · simp only [decide_eq_true h3, if_true]
        by_cases h4 : 0 ≤ b ∧ b ≤ 40000
        · simp only [decide_eq_true h4, Bool.not_true, Bool.false_eq_true, if_false]
          exact fin 0 (by rw [if_pos (show rgS l s L low b from ⟨h1, h2, h3, h4⟩)])
        · simp only [decide_eq_false h4, Bool.not_false, if_true]
          exact fin 2 (by rw [if_neg (fun h => h4 h.2.2.2)])
      · simp only [decide_eq_false h3, Bool.false_eq_true, if_false]
        exact fin 2 (by rw [if_neg (fun h => h3 h.2.2.1)])
    · simp only [decide_eq_false h2, Bool.false_eq_true, if_false]
      exact fin 2 (by rw [if_neg (fun h => h2 h.2.1)])
  · simp only [decide_eq_false h1, Bool.false_eq_true, if_false]
    exact fin 2 (by rw [if_neg (fun h => h1 h.1)])
theorem ckC_0 {l : List Int} {s L low b : Int} (h : ckC l s L low b = 0) : Valid l ∧ rgS l s L low b ∧ inW l low (s - 2) ∧ inW l low (s - 1) ∧ inW l low (s + L) ∧ inW l low (s + L + 1) := by
  unfold ckC ckW at h
  by_cases hv : Valid l
  · rw [if_pos hv] at h
    by_cases hr : rgS l s L low b
    · rw [if_pos hr] at h
      by_cases hw : ∀ j : Nat, j < 4 → inW l low (rd (besL s L) (j : Int))
      · exact ⟨hv, hr, hw 0 (by decide), hw 1 (by decide), hw 2 (by decide), hw 3 (by decide)⟩
      · rw [if_neg hw] at h; omega
    · rw [if_neg hr] at h; omega
  · rw [if_neg hv] at h; omega

/-! within0 -/
def spW (l h : Int) : Int := if l > h then 0 else shl .u64 (shr .u64 (shr .u64 18446744073709551615 (63 - h)) l) l
theorem spW_bt {l h : Int} (h0 : 0 ≤ l) (h1 : h ≤ 63) (i : Nat) : bt (spW l h) i = decide (l ≤ (i : Int) ∧ (i : Int) ≤ h) := by
  unfold spW
  by_cases c : l > h
  · rw [if_pos c, bt_0]; exact (decide_eq_false (by omega)).symm
  · rw [if_neg c, bt_shl _ _ h0 (by omega), bt_shr (shr_U all_U) (by omega) (by omega), bt_shr all_U (by omega) (by omega), bt_all]
    by_cases a : l ≤ (i : Int) ∧ (i : Int) ≤ h
    · rw [decide_eq_true a]
      simp
      omega
    · rw [decide_eq_false a]
      simp
      omega
def mayV (l : List Int) (s L low b x y n : Int) : Int := if n > L then spW (mx (lo x y b) (hz l low (s + n - 1))) (mn (hi x y b) (hz l low (s + n - 1))) else spW (lo x y b) (hi x y b)
theorem e_spec_stretch_at (l : List Int) (h16 : I16 l) (h0 : 0 < l.length) (hl : l.length ≤ 1048576) (s L low b t : Int) (hlow : 0 ≤ low ∧ low ≤ 9937) (ha : -1000000000000 ≤ t) (hb : t ≤ 1000000000000) : spec_l05Stretch_at.f l s L low b t = some (hz l low t) := by
  unfold spec_l05Stretch_at.f hz
  rw [e_spec_l01At l h16 h0 hl t ha hb, Option.bind_some]
  have := h16.rdb (t % (l.length : Int))
  rw [w64 (by unfold atz; omega) (by unfold atz; omega)]
theorem u64c {x : Int} (h0 : 0 ≤ x) (h1 : x ≤ 100000000) : IntKind.u64.wrap x = x := u64w_in ⟨h0, by omega⟩
theorem e_spec_may (l : List Int) (h16 : I16 l) (h0 : 0 < l.length) (hl : l.length ≤ 1048576) (s L low b x y n : Int) (hs : 0 ≤ s ∧ s ≤ 1000) (hL : 0 ≤ L ∧ L ≤ 1000) (hlow : 0 ≤ low ∧ low ≤ 9937) (hx : 0 ≤ x ∧ x ≤ 63) (hy : 0 ≤ y ∧ y ≤ 63) (hb : 0 ≤ b ∧ b ≤ 40000) (hn : 1 ≤ n ∧ n ≤ 1000) (hz0 : n > L → inW l low (s + n - 1)) :
    spec_l05Stretch_may.f l s L low b x y n = some (mayV l s L low b x y n) := by
  unfold spec_l05Stretch_may.f mayV spW
  have a := lo_b hx hy hb
  have c := hi_b hx hy hb
  have e1 : mx 0 (2 * y - x - b) = lo x y b := by unfold lo mx; split <;> split <;> omega
  have e2 : mn 63 (2 * y - x + b) = hi x y b := by unfold hi mn; split <;> split <;> omega
  simp (disch := omega) only [w64, e_spec_l00MaxS, e_spec_l00MinS, e1, e2, Option.bind_some]
  by_cases d : n > L
  · have z := hz0 d
    unfold inW at z
    simp only [if_pos d]
    simp (disch := omega) only [e_spec_stretch_at l h16 h0 hl, e_spec_l00MaxS, e_spec_l00MinS, Option.bind_some]
    have m1 : lo x y b ≤ mx (lo x y b) (hz l low (s + n - 1)) ∧ mx (lo x y b) (hz l low (s + n - 1)) ≤ 126 := by unfold mx; split <;> omega
    have m2 : -63 ≤ mn (hi x y b) (hz l low (s + n - 1)) ∧ mn (hi x y b) (hz l low (s + n - 1)) ≤ 63 := by unfold mn; split <;> omega
    generalize mx (lo x y b) (hz l low (s + n - 1)) = A at m1 ⊢
    generalize mn (hi x y b) (hz l low (s + n - 1)) = B at m2 ⊢
    by_cases g : A > B
    · simp only [if_pos g]
    · simp only [if_neg g]
      simp (disch := omega) only [w64, u64c, if_pos]
  · simp only [if_neg d]
    generalize lo x y b = A at a ⊢
    generalize hi x y b = B at c ⊢
    by_cases g : A > B
    · simp only [if_pos g]
    · simp only [if_neg g]
      simp (disch := omega) only [w64, u64c, if_pos]
theorem mayV_bt (l : List Int) (s L low b x y n : Int) (hx : 0 ≤ x ∧ x ≤ 63) (hy : 0 ≤ y ∧ y ≤ 63) (hb : 0 ≤ b ∧ b ≤ 40000) (hz0 : n > L → inW l low (s + n - 1)) (i : Nat) :
    bt (mayV l s L low b x y n) i = true ↔ bt (leV x y b) i = true ∧ (n > L → (i : Int) = hz l low (s + n - 1)) := by
  have a := lo_b hx hy hb
  have c := hi_b hx hy hb
  rw [leV_bt hx hy hb, decide_eq_true_iff]
  unfold mayV
  by_cases d : n > L
  · have z := hz0 d
    unfold inW at z
    rw [if_pos d, spW_bt (by unfold mx; split <;> omega) (by unfold mn; split <;> omega), decide_eq_true_iff]
    generalize hz l low (s + n - 1) = Z at z ⊢
    have m1 : mx (lo x y b) Z ≤ (i : Int) ↔ lo x y b ≤ (i : Int) ∧ Z ≤ (i : Int) := by unfold mx; split <;> omega
    have m2 : (i : Int) ≤ mn (hi x y b) Z ↔ (i : Int) ≤ hi x y b ∧ (i : Int) ≤ Z := by unfold mn; split <;> omega
    rw [m1, m2]
    constructor
    · rintro ⟨⟨p, q⟩, r, t⟩; exact ⟨⟨p, r⟩, fun _ => by omega⟩
    · rintro ⟨⟨p, r⟩, q⟩; have := q d; exact ⟨⟨p, by omega⟩, r, by omega⟩
  · rw [if_neg d, spW_bt a.1 c.2, decide_eq_true_iff]
    exact ⟨fun h => ⟨h, fun g => absurd g d⟩, fun h => h.1⟩
def alV (l : List Int) (s L low k : Int) : Int := if k < L then 18446744073709551615 else shl .u64 1 (hz l low (s + k))
theorem e_impl_allowed (l : List Int) (h16 : I16 l) (h0 : 0 < l.length) (hl : l.length ≤ 1048576) (s L low k : Int) (hs : 0 ≤ s ∧ s ≤ 1000) (hlow : 0 ≤ low ∧ low ≤ 9937) (hk : 0 ≤ k ∧ k ≤ 1000) (hz0 : ¬ k < L → inW l low (s + k)) : impl_stretch_allowed.f l s L low k = some (alV l s L low k) := by
  unfold impl_stretch_allowed.f alV
  by_cases c : k < L
  · rw [if_pos c, if_pos c]
  · have z := hz0 c
    unfold inW at z
    rw [if_neg c, if_neg c, w64 (by omega) (by omega), e_impl_height l h16 h0 hl s L low (s + k) hlow (by omega) (by omega), Option.bind_some, if_pos z.1]
theorem alV_bt (l : List Int) (s L low k : Int) (hz0 : ¬ k < L → inW l low (s + k)) (i : Nat) : bt (alV l s L low k) i = true ↔ i < 64 ∧ (¬ k < L → (i : Int) = hz l low (s + k)) := by
  unfold alV
  by_cases c : k < L
  · rw [if_pos c, bt_all, decide_eq_true_iff]
    exact ⟨fun h => ⟨h, fun g => absurd c g⟩, fun h => h.1⟩
  · have z := hz0 c
    unfold inW at z
    rw [if_neg c, shl_1 _ z.1 z.2, decide_eq_true_iff]
    constructor
    · intro h; exact ⟨by omega, fun _ => by omega⟩
    · rintro ⟨_, h⟩; have := h c; omega
/-- The first pair is in a grid. -/
theorem e_impl_onePair {x y : Int} (hx : 0 ≤ x ∧ x ≤ 63) (hy : 0 ≤ y ∧ y ≤ 63) : impl_onePair.f x y = some (pl0_.set x.toNat (shl .u64 1 y)) := by
  unfold impl_onePair.f shl
  rw [if_pos hy.1, if_pos hx.1, if_pos (by omega), Int.one_mul]
  rfl

/-! gridw -/
theorem rd_set_U {o : List Int} (h : ∀ j : Int, U64 (rd o j)) (n : Nat) {v : Int} (hv : U64 v) : ∀ j : Int, U64 (rd (o.set n v) j) := by
  intro j
  unfold rd
  rw [List.getD_eq_getElem?_getD, List.getElem?_set]
  by_cases c : n = j.toNat
  · rw [if_pos c]
    by_cases d : n < o.length
    · rw [if_pos d]; exact hv
    · rw [if_neg d]; unfold U64; exact ⟨by decide, by decide⟩
  · rw [if_neg c]
    have := h j
    unfold rd at this
    rw [List.getD_eq_getElem?_getD] at this
    exact this
theorem zero_U : ∀ j : Int, U64 (rd pl0_ j) := by
  intro j
  have : rd pl0_ j = 0 := by
    unfold rd
    rw [List.getD_eq_getElem?_getD, List.getElem?_replicate]
    split <;> rfl
  rw [this]
  unfold U64
  exact ⟨by decide, by decide⟩
theorem foldl_U {β : Type} (f : List Int → β → List Int) (hf : ∀ o y, (∀ j : Int, U64 (rd o j)) → ∀ j : Int, U64 (rd (f o y) j)) : ∀ (L : List β) (o : List Int), (∀ j : Int, U64 (rd o j)) → ∀ j : Int, U64 (rd (L.foldl f o) j) := by
  intro L
  induction L with
  | nil => intro o h; exact h
  | cons y L ih => intro o h; rw [List.foldl_cons]; exact ih _ (hf o y h)
theorem ledY_U (g : List Int) (b al x : Int) (o : List Int) (y : Nat) (h : ∀ j : Int, U64 (rd o j)) : ∀ j : Int, U64 (rd (ledY g b al x o y) j) := by
  unfold ledY
  split
  · exact rd_set_U h _ (or_U _ _)
  · exact h
theorem ledX_U (g : List Int) (b al : Int) (o : List Int) (x : Nat) (h : ∀ j : Int, U64 (rd o j)) : ∀ j : Int, U64 (rd (ledX g b al o x) j) := by
  unfold ledX
  exact foldl_U (ledY g b al (x : Int)) (fun o y h => ledY_U g b al (x : Int) o y h) (List.range 64) o h
theorem ledV_U (g : List Int) (b al : Int) : ∀ j : Int, U64 (rd (ledV g b al) j) := by
  unfold ledV
  exact foldl_U (ledX g b al) (fun o x h => ledX_U g b al o x h) (List.range 64) pl0_ zero_U

/-! reachof -/
theorem U64_ext {a c : Int} (ha : U64 a) (hc : U64 c) (h : ∀ i, bt a i = bt c i) : a = c := by
  rw [← bv_toNat ha, ← bv_toNat hc]
  have : bv a = bv c := BitVec.eq_of_getLsbD_eq (fun i _ => h i)
  rw [this]
theorem spW_U (l h : Int) : U64 (spW l h) := by
  unfold spW
  split
  · unfold U64; decide
  · exact shl_U _ _
theorem mayV_U (l : List Int) (s L low b x y n : Int) : U64 (mayV l s L low b x y n) := by
  unfold mayV
  split
  · exact spW_U _ _
  · exact spW_U _ _
theorem may_eq (l : List Int) (s L low b x y k : Int) (hx : 0 ≤ x ∧ x ≤ 63) (hy : 0 ≤ y ∧ y ≤ 63) (hb : 0 ≤ b ∧ b ≤ 40000) (hz0 : ¬ k < L → inW l low (s + k)) : mayV l s L low b x y (k + 1) = Go.bits .and .u64 (leV x y b) (alV l s L low k) := by
  have e1 : s + (k + 1) - 1 = s + k := by omega
  have hz1 : k + 1 > L → inW l low (s + (k + 1) - 1) := fun d => by rw [e1]; exact hz0 (by omega)
  refine U64_ext (mayV_U _ _ _ _ _ _ _ _) (and_U _ _) (fun i => ?_)
  rw [Bool.eq_iff_iff, mayV_bt l s L low b x y (k + 1) hx hy hb hz1 i, bt_and, Bool.and_eq_true, alV_bt l s L low k hz0 i, e1]
  constructor
  · rintro ⟨h1, h2⟩; exact ⟨h1, bt_lt h1, fun d => h2 (by omega)⟩
  · rintro ⟨h1, _, h2⟩; exact ⟨h1, fun d => h2 (by omega)⟩
/-- The grids of a stretch. -/
def gk (l : List Int) (s L low b : Int) : Nat → List Int
  | 0 => pl0_.set (hz l low (s - 2)).toNat (shl .u64 1 (hz l low (s - 1)))
  | k + 1 => ledV (gk l s L low b k) b (alV l s L low (k : Int))
def gL (l : List Int) (s L low b : Int) (n : Nat) : List S69 := (List.range n).map fun k => ⟨gk l s L low b k⟩
theorem gL_len (l : List Int) (s L low b : Int) (n : Nat) : (gL l s L low b n).length = n := by unfold gL; simp
theorem gL_snoc (l : List Int) (s L low b : Int) (n : Nat) : gL l s L low b (n + 1) = gL l s L low b n ++ [⟨gk l s L low b n⟩] := by unfold gL; rw [map_snoc]
theorem gL_rd (l : List Int) (s L low b : Int) (n k : Nat) (h : k < n) : (rd_T69 (gL l s L low b n) (k : Int)).f0 = gk l s L low b k := by
  rw [rdGR _ k (by rw [gL_len]; exact h)]
  unfold gL
  rw [List.getElem_map, List.getElem_range]
theorem gk_GW (l : List Int) (s L low b : Int) : ∀ k, GW (gk l s L low b k)
  | 0 => ⟨by unfold gk; simp, rd_set_U zero_U _ (shl_U _ _)⟩
  | k + 1 => ⟨ledV_len _ _ _, ledV_U _ _ _⟩
def roR (l : List Int) (s L low b : Int) : List S69 × Int := if ckC l s L low b = 0 then (gL l s L low b (L.toNat + 3), 0) else ([], ckC l s L low b)
theorem ro_b {l : List Int} {s L low b : Int} (c : ckC l s L low b = 0) : 8 ≤ l.length ∧ (0 ≤ s ∧ s ≤ 1000) ∧ (1 ≤ L ∧ L ≤ 40) ∧ (0 ≤ low ∧ low ≤ 9937) ∧ (0 ≤ b ∧ b ≤ 40000) := by
  obtain ⟨⟨a1, a2, _⟩, ⟨b1, b2, b3, b4⟩, _⟩ := ckC_0 c
  have hm := mn40 (n := (l.length : Int) - 4)
  exact ⟨a1, ⟨by omega, by omega⟩, ⟨by omega, by omega⟩, b3, b4⟩
theorem inz {l : List Int} {s L low b : Int} (c : ckC l s L low b = 0) (k : Int) (hk : k < L + 2) : ¬ k < L → inW l low (s + k) := by
  obtain ⟨_, _, _, _, h1, h2⟩ := ckC_0 c
  intro h
  by_cases d : k = L
  · rw [d]; exact h1
  · rw [show s + k = s + L + 1 by omega]; exact h2
theorem roR_len (l : List Int) (s L low b : Int) : (roR l s L low b).1.length ≤ 43 := by
  unfold roR
  by_cases c : ckC l s L low b = 0
  · rw [if_pos c]
    have := (ro_b c).2.2.1
    show (gL l s L low b (L.toNat + 3)).length ≤ 43
    rw [gL_len]; omega
  · rw [if_neg c]; simp
theorem roR_64 (l : List Int) (s L low b : Int) : ∀ x ∈ (roR l s L low b).1, x.f0.length = 64 := by
  unfold roR
  by_cases c : ckC l s L low b = 0
  · rw [if_pos c]
    intro x hx
    unfold gL at hx
    obtain ⟨k, _, rfl⟩ := List.mem_map.1 hx
    exact (gk_GW l s L low b k).1
  · rw [if_neg c]; intro x hx; cases hx
theorem e_impl_ReachOf (l : List Int) (h16 : I16 l) (hl : l.length ≤ 1048576) (s L low b : Int) : Ev (fun k => impl_ReachOf.f k l s L low b) (roR l s L low b) := by
  unfold impl_ReachOf.f roR
  refine Ev.bind (e_impl_stretch_code l h16 hl s L low b) ?_
  by_cases c : ckC l s L low b = 0
  · obtain ⟨c1, c2, c3, c4, c5⟩ := ro_b c
    obtain ⟨hv, _, hw1, hw2, _⟩ := ckC_0 c
    unfold inW at hw1 hw2
    simp only [if_pos c]
    unfold impl_stretch_pair.f
    rw [w64 (x := s - 2) (by omega) (by omega), w64 (x := s - 1) (by omega) (by omega), e_impl_height l h16 (by omega) hl s _ low (s - 2) c4 (by omega) (by omega), Option.bind_some, e_impl_height l h16 (by omega) hl s _ low (s - 1) c4 (by omega) (by omega), Option.bind_some]
    simp only [Option.bind_some, e_impl_onePair hw1 hw2]
    rw [w64 (x := L + 2) (by omega) (by omega)]
    have := ev_loop (fun k j => impl_ReachOf.l0 k b (gL l s L low b (j + 1)) (L + 2) (j : Int) l s L low) (L.toNat + 2) (gL l s L low b (L.toNat + 3), (0 : Int)) ?_ ?_
    · exact this
    · intro j hj ih
      refine evs ?_
      have hlen := gL_len l s L low b (j + 1)
      simp (disch := omega) only [impl_ReachOf.l0, hlen, if_pos, w64]
      rw [e_impl_allowed l h16 (by omega) hl s L low (j : Int) c2 c4 (by omega) (inz c (j : Int) (by omega)), gL_rd l s L low b (j + 1) j (by omega)]
      simp only [Option.bind_some]
      refine Ev.bind (e_impl_led _ (gk_GW l s L low b j) b _ c5) ?_
      rw [gL_snoc l s L low b (j + 1)] at ih
      exact ih
    · refine evs ?_
      simp (disch := omega) only [impl_ReachOf.l0, if_neg]
      exact evo rfl
  · simp only [if_neg c]
    exact evo rfl
section
variable (l : List Int) (h16 : I16 l) (hl : l.length ≤ 1048576) (s L low b : Int) (c : ckC l s L low b = 0)
include h16 hl c
theorem e_reach_l2 (j : Nat) (hj : j < L.toNat + 2) (x : Nat) (hx : x < 64) (o : List Int) (ho : o.length = 64) (r : List S69)
    (h : Ev (fun k => spec_l05Stretch_reach.l1 k l s L low b (gL l s L low b (j + 1)) ((j : Int) + 1) ((x : Int) + 1) (ledX (gk l s L low b j) b (alV l s L low (j : Int)) o x)) r) :
    Ev (fun k => spec_l05Stretch_reach.l2 k l s L low b (gL l s L low b (j + 1)) ((j : Int) + 1) (x : Int) 0 o) r := by
  obtain ⟨c1, c2, c3, c4, c5⟩ := ro_b c
  have hg := gk_GW l s L low b j
  have hz0 := inz c (j : Int) (by omega)
  have hz1 : (j : Int) + 1 > L → inW l low (s + ((j : Int) + 1) - 1) := fun d => by rw [show s + ((j : Int) + 1) - 1 = s + (j : Int) by omega]; exact hz0 (by omega)
  have := ev_loop (fun k y => spec_l05Stretch_reach.l2 k l s L low b (gL l s L low b (j + 1)) ((j : Int) + 1) (x : Int) (y : Int) ((List.range y).foldl (ledY (gk l s L low b j) b (alV l s L low (j : Int)) (x : Int)) o)) 64 r ?_ ?_
  · exact this
  · intro y hy ih
    refine evs ?_
    rw [foldl_snoc] at ih
    have hl2 : ((List.range y).foldl (ledY (gk l s L low b j) b (alV l s L low (j : Int)) (x : Int)) o).length = 64 := (foldl_len _ (ledY_len _ b _ (x : Int)) _ _).trans ho
    generalize (List.range y).foldl (ledY (gk l s L low b j) b (alV l s L low (j : Int)) (x : Int)) o = p at ih hl2 ⊢
    simp (disch := omega) only [spec_l05Stretch_reach.l2, if_pos, w64, Int.add_sub_cancel]
    rw [gL_rd l s L low b (j + 1) j (by omega)]
    simp (disch := omega) only [u64c]
    unfold ledY at ih
    by_cases d : bt (rd (gk l s L low b j) (x : Int)) y = true
    · have d2 := (bit_iff (hg.2 (x : Int)) (y := (y : Int)) (by omega) (by omega)).mpr (by rw [Int.toNat_natCast]; exact d)
      simp only [if_pos d2, if_pos hl2]
      rw [if_pos d, ← may_eq l s L low b (x : Int) (y : Int) (j : Int) (by omega) (by omega) c5 hz0] at ih
      rw [e_spec_may l h16 (by omega) hl s L low b (x : Int) (y : Int) ((j : Int) + 1) c2 (by omega) c4 (by omega) (by omega) c5 (by omega) hz1]
      simp only [Option.bind_some, Int.toNat_natCast]
      exact ih
    · have d2 : ¬ (Go.bits .and .u64 (shr .u64 (rd (gk l s L low b j) (x : Int)) (y : Int)) 1 = 1) := fun h => d (by have := (bit_iff (hg.2 (x : Int)) (y := (y : Int)) (by omega) (by omega)).mp h; rwa [Int.toNat_natCast] at this)
      simp only [if_neg d2]
      rw [if_neg d] at ih
      exact ih
  · refine evs ?_
    simp (disch := omega) only [spec_l05Stretch_reach.l2, if_neg, w64]
    exact h
theorem e_reach_l1 (j : Nat) (hj : j < L.toNat + 2) (r : List S69)
    (h : Ev (fun k => spec_l05Stretch_reach.l0 k l s L low b (gL l s L low b (j + 1 + 1)) ((j : Int) + 1 + 1)) r) :
    Ev (fun k => spec_l05Stretch_reach.l1 k l s L low b (gL l s L low b (j + 1)) ((j : Int) + 1) 0 pl0_) r := by
  obtain ⟨c1, c2, c3, c4, c5⟩ := ro_b c
  have := ev_loop (fun k x => spec_l05Stretch_reach.l1 k l s L low b (gL l s L low b (j + 1)) ((j : Int) + 1) (x : Int) ((List.range x).foldl (ledX (gk l s L low b j) b (alV l s L low (j : Int))) pl0_)) 64 r ?_ ?_
  · exact this
  · intro x hx ih
    refine evs ?_
    rw [foldl_snoc] at ih
    have hl2 : ((List.range x).foldl (ledX (gk l s L low b j) b (alV l s L low (j : Int))) pl0_).length = 64 := (foldl_len _ (ledX_len _ b _) _ _).trans (by simp)
    simp (disch := omega) only [spec_l05Stretch_reach.l1, if_pos]
    exact e_reach_l2 l h16 hl s L low b c j hj x hx _ hl2 r ih
  · refine evs ?_
    have hlen := gL_len l s L low b (j + 1)
    simp (disch := omega) only [spec_l05Stretch_reach.l1, hlen, if_neg, if_pos, w64]
    rw [gL_snoc l s L low b (j + 1)] at h
    exact h
theorem e_spec_reach : Ev (fun k => spec_l05Stretch_reach.f k l s L low b) (gL l s L low b (L.toNat + 3)) := by
  obtain ⟨c1, c2, c3, c4, c5⟩ := ro_b c
  obtain ⟨hv, _, hw1, hw2, _⟩ := ckC_0 c
  unfold inW at hw1 hw2
  unfold spec_l05Stretch_reach.f spec_l05Stretch_first.f
  simp (disch := omega) only [w64, e_spec_stretch_at l h16 (by omega) hl, Option.bind_some, if_pos, u64c]
  have e0 : IntKind.u64.wrap (2 ^ min (hz l low (s - 1)).toNat 64) = shl .u64 1 (hz l low (s - 1)) := by
    unfold shl
    rw [Int.one_mul]
    rfl
  rw [e0]
  have := ev_loop (fun k j => spec_l05Stretch_reach.l0 k l s L low b (gL l s L low b (j + 1)) ((j : Int) + 1)) (L.toNat + 2) (gL l s L low b (L.toNat + 3)) ?_ ?_
  · exact this
  · intro j hj ih
    refine evs ?_
    have hlen := gL_len l s L low b (j + 1)
    simp (disch := omega) only [spec_l05Stretch_reach.l0, hlen, if_pos, w64]
    refine e_reach_l1 l h16 hl s L low b c j hj _ ?_
    rw [show ((j + 1 : Nat) : Int) + 1 = (j : Int) + 1 + 1 by omega] at ih
    exact ih
  · refine evs ?_
    simp (disch := omega) only [spec_l05Stretch_reach.l0, if_neg, w64]
    exact evo rfl
end
theorem e_spec_ReachOf (l : List Int) (h16 : I16 l) (hl : l.length ≤ 1048576) (s L low b : Int) : Ev (fun k => spec_ReachOf.f k l s L low b) (roR l s L low b) := by
  unfold spec_ReachOf.f roR
  refine Ev.bind (e_spec_l05Asked l h16 hl s L low b) ?_
  by_cases c : ckC l s L low b = 0
  · simp only [if_pos c]
    exact Ev.bind (e_spec_reach l h16 hl s L low b c) (evo rfl)
  · simp only [if_neg c]
    exact evo rfl

/-! markgrid -/
/-- A grid of marks that begins with c. -/
def mkG (c : Int) : S69 := ⟨(List.range 64).map fun t : Nat => c + (t : Int)⟩
def mkL (n : Nat) : List S69 := (List.range n).map fun i : Nat => mkG (1 + 64 * (i : Int))
def mg (c : Int) (x : List Int) (j : Nat) : List Int := (List.range j).map (fun t : Nat => c + (t : Int)) ++ x.drop j
theorem mg_set (c : Int) (x : List Int) (j : Nat) (h : j < x.length) : (mg c x j).set j (c + (j : Int)) = mg c x (j + 1) := by
  unfold mg
  rw [List.drop_eq_getElem_cons h, set_app _ _ _ _ _ (by simp), map_snoc, List.append_assoc, List.singleton_append]
theorem mg_len (c : Int) (x : List Int) (j : Nat) (h : j ≤ x.length) : (mg c x j).length = x.length := by unfold mg; simp; omega
theorem u64n {x : Int} (h0 : 0 ≤ x) (h1 : x ≤ 1000000000) : IntKind.u64.wrap x = x := u64w_in ⟨h0, by omega⟩
theorem rdGR_set (X : List S69) (i : Nat) (h : i < X.length) (a : S69) : rd_T69 (X.set i a) (i : Int) = a := by
  rw [rdGR _ i (by rw [List.length_set]; exact h), List.getElem_set_self]
theorem e_markGrid (X : List S69) (i : Nat) (hi : i < X.length) (hX : X.length ≤ 10000) (hx : (rd_T69 X (i : Int)).f0.length = 64) (c : Int) (hc : 0 ≤ c ∧ c ≤ 900000000) (r : Int × List S69)
    (h : Ev (fun k => laws_markGridS.l0 k (X.set i (mkG c)) (c + 64) ((i : Int) + 1)) r) : Ev (fun k => laws_markGridS.l1 k X c (i : Int) 0) r := by
  have hd : X.set i ⟨mg c (rd_T69 X (i : Int)).f0 0⟩ = X := by
    have : mg c (rd_T69 X (i : Int)).f0 0 = (rd_T69 X (i : Int)).f0 := by unfold mg; simp
    rw [this, rdGR X i hi]
    exact List.set_getElem_self hi
  have := ev_loop (fun k j => laws_markGridS.l1 k (X.set i ⟨mg c (rd_T69 X (i : Int)).f0 j⟩) (c + (j : Int)) (i : Int) (j : Int)) 64 r ?_ ?_
  · rw [hd, show c + ((0 : Nat) : Int) = c by omega] at this
    exact this
  · intro j hj ih
    refine evs ?_
    simp (disch := omega) only [laws_markGridS.l1, if_pos, w64, List.length_set, rdGR_set X i hi, Int.toNat_natCast, List.set_set]
    have hl := mg_len c (rd_T69 X (i : Int)).f0 j (by omega)
    rw [hx] at hl
    simp only [if_pos hl]
    rw [u64n (by omega) (by omega), mg_set _ _ _ (by omega)]
    rw [show c + ((j + 1 : Nat) : Int) = c + (j : Int) + 1 by omega] at ih
    exact ih
  · refine evs ?_
    simp (disch := omega) only [laws_markGridS.l1, if_neg, w64]
    have e : (⟨mg c (rd_T69 X (i : Int)).f0 64⟩ : S69) = mkG c := by
      unfold mg mkG
      rw [List.drop_eq_nil_of_le (by omega), List.append_nil]
    rw [e]
    exact h
theorem e_laws_markGridS (X : List S69) (hX : X.length ≤ 10000) (hx : ∀ x ∈ X, x.f0.length = 64) : Ev (fun k => laws_markGridS.f k X 1) (1 + 64 * (X.length : Int), mkL X.length) := by
  unfold laws_markGridS.f
  have := ev_loop (fun k i => laws_markGridS.l0 k (mkL i ++ X.drop i) (1 + 64 * (i : Int)) (i : Int)) X.length (1 + 64 * (X.length : Int), mkL X.length) ?_ ?_
  · simpa [mkL] using this
  · intro i hi ih
    refine evs ?_
    have hlen : (mkL i ++ X.drop i).length = X.length := by unfold mkL; simp; omega
    simp (disch := omega) only [laws_markGridS.l0, hlen, if_pos]
    have hr : rd_T69 (mkL i ++ X.drop i) (i : Int) = X[i] := by
      rw [rdGR _ i (by omega), List.getElem_append_right (by unfold mkL; simp)]
      simp [mkL]
    refine e_markGrid _ i (by omega) (by omega) (by rw [hr]; exact hx _ (List.getElem_mem hi)) _ (by omega) _ ?_
    have e : (mkL i ++ X.drop i).set i (mkG (1 + 64 * (i : Int))) = mkL (i + 1) ++ X.drop (i + 1) := by
      rw [List.drop_eq_getElem_cons hi, set_app _ _ _ _ _ (by unfold mkL; simp)]
      unfold mkL
      rw [map_snoc, List.append_assoc, List.singleton_append]
    rw [e]
    rw [show 1 + 64 * ((i + 1 : Nat) : Int) = 1 + 64 * (i : Int) + 64 by omega, show ((i + 1 : Nat) : Int) = (i : Int) + 1 by omega] at ih
    exact ih
  · refine evs ?_
    have hlen : (mkL X.length ++ X.drop X.length).length = X.length := by unfold mkL; simp
    simp (disch := omega) only [laws_markGridS.l0, hlen, if_neg]
    exact evo (by simp)
theorem e_laws_heldGridS (n : Nat) (hn : n ≤ 10000) : Ev (fun k => laws_heldGridS.f k (mkL n) 1) (1 + 64 * (n : Int)) := by
  unfold laws_heldGridS.f
  have hlen : (mkL n).length = n := by unfold mkL; simp
  have := ev_loop (fun k i => laws_heldGridS.l0 k (mkL n) (1 + 64 * (i : Int)) (i : Int)) n (1 + 64 * (n : Int)) ?_ ?_
  · exact this
  · intro i hi ih
    refine evs ?_
    simp (disch := omega) only [laws_heldGridS.l0, hlen, if_pos]
    have := ev_loop (fun k j => laws_heldGridS.l1 k (mkL n) (1 + 64 * (i : Int) + (j : Int)) (i : Int) (j : Int)) 64 (1 + 64 * (n : Int)) ?_ ?_
    · rw [show 1 + 64 * (i : Int) + ((0 : Nat) : Int) = 1 + 64 * (i : Int) by omega] at this
      exact this
    · intro j hj ih2
      refine evs ?_
      have hr : rd (rd_T69 (mkL n) (i : Int)).f0 (j : Int) = 1 + 64 * (i : Int) + (j : Int) := by
        rw [rdGR _ i (by omega)]
        unfold mkL mkG
        rw [List.getElem_map, List.getElem_range]
        rw [rd_map _ 64 (j : Int) (by omega) (by omega), Int.toNat_natCast]
      simp (disch := omega) only [laws_heldGridS.l1, hlen, if_pos, w64, hr, u64n]
      rw [show 1 + 64 * (i : Int) + ((j + 1 : Nat) : Int) = 1 + 64 * (i : Int) + (j : Int) + 1 by omega] at ih2
      exact ih2
    · refine evs ?_
      simp (disch := omega) only [laws_heldGridS.l1, if_neg, w64]
      rw [show 1 + 64 * ((i + 1 : Nat) : Int) = 1 + 64 * (i : Int) + ((64 : Nat) : Int) by omega] at ih
      exact ih
  · refine evs ?_
    simp (disch := omega) only [laws_heldGridS.l0, hlen, if_neg]
    exact evo rfl

/-! laws_cam -/
theorem e_laws_toCam (l : List Int) (hl : l.length ≤ 1048576) : Ev (fun k => laws_toCam.f k l) l := by
  unfold laws_toCam.f
  simp (disch := omega) only [if_pos]
  have := ev_loop (fun k j => laws_toCam.l0 k l (l.take j ++ List.replicate (l.length - j) 0) (j : Int)) l.length l ?_ ?_
  · simpa using this
  · intro j hj ih
    refine evs ?_
    have e : ((l.take j ++ List.replicate (l.length - j) 0).length : Int) = l.length := by simp; omega
    simp (disch := omega) only [laws_toCam.l0, if_pos, e, w64]
    have e2 : (l.take j ++ List.replicate (l.length - j) 0).set ((j : Int)).toNat (rd l (j : Int)) = l.take (j + 1) ++ List.replicate (l.length - (j + 1)) 0 := by
      have e3 : l.length - j = (l.length - (j + 1)) + 1 := by omega
      rw [e3, List.replicate_succ, Int.toNat_natCast, set_app _ _ _ _ _ (by simp; omega), rd_nat, List.take_succ_eq_append_getElem hj]
      have e4 : l.getD j 0 = l[j] := by simp [List.getD_eq_getElem?_getD, hj]
      rw [e4, List.append_assoc, List.singleton_append]
    rw [e2]
    exact ih
  · refine evs ?_
    simp (disch := omega) only [laws_toCam.l0, if_neg]
    exact evo (by simp)
theorem e_laws_eqCam (l : List Int) (hl : l.length ≤ 1048576) : Ev (fun k => laws_eqCam.f k l l) true := by
  unfold laws_eqCam.f
  simp only [if_true]
  have := ev_loop (fun k j => laws_eqCam.l0 k l l (j : Int)) l.length true ?_ ?_
  · exact this
  · intro j hj ih
    refine evs ?_
    simp (disch := omega) only [laws_eqCam.l0, if_pos, if_true, w64]
    exact ih
  · refine evs ?_
    simp (disch := omega) only [laws_eqCam.l0, if_neg]
    exact evo rfl

/-! marked -/
def marked (m : Int) (n : Nat) : List Int := (List.range n).map fun j : Nat => IntKind.i16.wrap (m + j)
theorem marked_len (m : Int) (n : Nat) : (marked m n).length = n := by simp [marked]

/-! laws_markonly -/
theorem e_laws_markCam (l : List Int) (hl : l.length ≤ 1048576) (m : Int) (h0 : 0 ≤ m) (h1 : m ≤ 1000000000) : Ev (fun k => laws_markCam.f k l m) (m + l.length, marked m l.length) := by
  unfold laws_markCam.f
  have := ev_loop (fun k j => laws_markCam.l0 k (marked m j ++ l.drop j) (m + j) (j : Int)) l.length (m + l.length, marked m l.length) ?_ ?_
  · simpa [marked] using this
  · intro j hj ih
    refine evs ?_
    have e : ((marked m j ++ l.drop j).length : Int) = l.length := by simp [marked_len]; omega
    have e2 : (marked m j ++ l.drop j).set ((j : Int)).toNat (IntKind.i16.wrap (m + j)) = marked m (j + 1) ++ l.drop (j + 1) := by
      rw [Int.toNat_natCast, List.drop_eq_getElem_cons hj, set_app _ _ _ _ _ (marked_len _ _)]
      unfold marked; rw [map_snoc]; simp
    simp (disch := omega) only [laws_markCam.l0, if_pos, e, w64]
    rw [e2, show m + (j : Int) + 1 = m + ((j + 1 : Nat) : Int) by omega]
    exact ih
  · refine evs ?_
    have e : ((marked m l.length ++ l.drop l.length).length : Int) = l.length := by simp [marked_len]
    simp (disch := omega) only [laws_markCam.l0, if_neg, e]
    exact evo (by simp)

set_option maxHeartbeats 4000000 in
theorem FnExactReachOf : laws_FnExactReachOf.Pure := by
  intro l s L low b _ _ w0 _ _ _ _
  have h16 := I16.of_wf w0
  refine ev_rounds ?_
  unfold laws_FnExactReachOf.f
  by_cases b0 : (l.length : Int) > 1048576
  · simp only [if_pos b0]; exact evo rfl
  simp only [if_neg b0]
  have hl : l.length ≤ 1048576 := by omega
  have T := e_laws_toCam l hl
  have Q := e_laws_eqCam l hl
  have M := e_laws_markCam l hl 1 (by omega) (by omega)
  have A := e_spec_ReachOf l h16 hl s L low b
  have B := e_impl_ReachOf l h16 hl s L low b
  have hr := roR_len l s L low b
  have h64 := roR_64 l s L low b
  revert A B hr h64
  generalize roR l s L low b = R
  obtain ⟨X, cd⟩ := R
  intro A B hr h64
  dsimp only at hr h64
  have QG := e_laws_eqGridS X (by omega)
  have MG := e_laws_markGridS X (by omega) h64
  have HG := e_laws_heldGridS X.length (by omega)
  refine Ev.bind T (Ev.bind A (Ev.bind T (Ev.bind B (Ev.bind QG ?_))))
  simp only [if_true, bne_self_eq_false]
  refine evs ?_
  simp only [laws_FnExactReachOf.j0, Bool.false_eq_true, if_false]
  refine Ev.bind T (Ev.bind Q ?_)
  simp only [if_true]
  refine Ev.bind M ?_
  simp (disch := omega) only [if_neg]
  refine Ev.bind QG ?_
  simp only [if_true, bne_self_eq_false]
  refine evs ?_
  simp only [laws_FnExactReachOf.j1, Bool.false_eq_true, if_false]
  refine Ev.bind MG (Ev.bind HG ?_)
  simp (disch := omega) only [if_neg, if_true]
  refine Ev.bind T (Ev.bind B (Ev.bind QG ?_))
  simp only [if_true, bne_self_eq_false]
  refine evs ?_
  simp only [laws_FnExactReachOf.j2, Bool.false_eq_true, if_false]
  refine Ev.bind HG ?_
  simp (disch := omega) only [if_neg, if_true]
  exact evo rfl

end Go.Proofs.Ytkgeppbjfkhjcaa.Pure
