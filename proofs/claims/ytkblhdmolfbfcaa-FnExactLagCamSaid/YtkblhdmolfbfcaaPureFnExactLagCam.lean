/- The pure statement of the law FnExactLagCam: the program's function and the reference's tell the same of every input, by plain lemmas on numbers, lists and rounds; no further condition. -/
import Derived.Test.YtkblhdmolfbfcaaXFnExactLagCamx3
import Derived.Test.YtkblhdmolfbfcaaXLib
namespace Go.Proofs.Ytkblhdmolfbfcaa.Pure
open Go.RowKit Go.Proofs.Ytkblhdmolfbfcaa.XFnExactLagCam Go.Proofs.Ytkblhdmolfbfcaa.XLib Go.Proofs.YtkblhdmolfbfcaaW.PrintWords Go.Proofs.YtkblhdmolfbfcaaW.PrintLast Go.Proofs.YtkblhdmolfbfcaaW.PrintMore
set_option maxRecDepth 100000
set_option linter.unusedVariables false
set_option linter.unusedSimpArgs false
/-! base_spec -/
theorem e_spec_l00In (a b c : Int) : spec_l00In.f a b c = some (decide (b ≤ a ∧ a ≤ c)) := by
  unfold spec_l00In.f
  by_cases h : b ≤ a <;> simp [h]
theorem e_spec_l01Steps (a : Int) : spec_l01Steps.f a = some (decide (8 ≤ a ∧ a ≤ 360)) := by
  unfold spec_l01Steps.f; rw [e_spec_l00In]; rfl
theorem e_spec_l01Lift (a : Int) : spec_l01Lift.f a = some (decide (0 ≤ a ∧ a ≤ 10000)) := by
  unfold spec_l01Lift.f; rw [e_spec_l00In]; rfl
theorem e_spec_l01Ok (l : List Int) (h16 : I16 l) (hl : l.length ≤ 1048576) : Ev (fun k => spec_l01Ok.f k l) (decide (Valid l)) := by
  unfold spec_l01Ok.f
  simp only [e_spec_l01Steps, Option.bind_some]
  by_cases h : 8 ≤ (l.length : Int) ∧ (l.length : Int) ≤ 360
  · simp only [h, and_self, decide_true, if_true]
    have := ev_find (fun k j => spec_l01Ok.l0 k l (j : Int)) (fun j => decide (0 ≤ rd l (j : Int) ∧ rd l (j : Int) ≤ 10000)) l.length true (fun _ => false) ?_ ?_ ?_
    · rw [ff_all] at this
      refine eve this ?_
      apply decide_eq_decide.mpr
      unfold Valid
      constructor
      · intro hh; exact ⟨by omega, by omega, fun j hj => by simpa using hh j hj⟩
      · intro hh j hj; simpa using hh.2.2 j hj
    · intro j r hj hp ih
      refine evs ?_
      have hb := h16.rdb (j : Int)
      simp (disch := omega) only [spec_l01Ok.l0, if_pos, e_spec_l01Lift, Option.bind_some, w64]
      first | exact ih | (rw [hp]; simp only [if_true]; exact ih)
    · intro j hj hp
      refine evs ?_
      have hb := h16.rdb (j : Int)
      simp (disch := omega) only [spec_l01Ok.l0, if_pos, e_spec_l01Lift, Option.bind_some, w64]
      first | exact evo rfl | (rw [hp]; exact evo rfl)
    · refine evs ?_
      simp (disch := omega) only [spec_l01Ok.l0, if_neg]
      exact evo rfl
  · rw [decide_eq_false h]
    simp only [Bool.false_eq_true, if_false]
    exact evo (decide_eq_false (fun hv => h ⟨by have := hv.1; omega, by have := hv.2.1; omega⟩)).symm

/-! spec_at -/
theorem e_spec_l01At (l : List Int) (h16 : I16 l) (h0 : 0 < l.length) (hl : l.length ≤ 1048576) (a : Int) (ha : -1000000000000 ≤ a) (hb : a ≤ 1000000000000) : spec_l01At.f l a = some (atz l a) := by
  unfold spec_l01At.f atz
  have hn : (0 : Int) < l.length := by omega
  have b := tmod_b a hn
  rw [if_neg (by omega), w64 (by omega) (by omega), two_mods a hn]
  have c := emod_b a hn
  rw [if_pos c.1, if_pos c.2]
  have := h16.rdb (a % (l.length : Int))
  rw [w64 (by omega) (by omega)]

/-! base_impl -/
theorem e_impl_inRange (a b c : Int) : impl_inRange.f a b c = some (decide (b ≤ a ∧ a ≤ c)) := by
  unfold impl_inRange.f
  by_cases h : b ≤ a <;> simp [h]
theorem e_impl_isSteps (a : Int) : impl_isSteps.f a = some (decide (8 ≤ a ∧ a ≤ 360)) := by
  unfold impl_isSteps.f; rw [e_impl_inRange]; rfl
theorem e_impl_isLift (a : Int) : impl_isLift.f a = some (decide (0 ≤ a ∧ a ≤ 10000)) := by
  unfold impl_isLift.f; rw [e_impl_inRange]; rfl
theorem e_impl_Cam_steps (l : List Int) : impl_Cam_steps.f l = some (l.length : Int) := rfl
theorem e_impl_ValidCam (l : List Int) (h16 : I16 l) (hl : l.length ≤ 1048576) : Ev (fun k => impl_ValidCam.f k l) (decide (Valid l)) := by
  unfold impl_ValidCam.f
  simp only [e_impl_Cam_steps, e_impl_isSteps, Option.bind_some]
  by_cases h : 8 ≤ (l.length : Int) ∧ (l.length : Int) ≤ 360
  · simp only [h, and_self, decide_true, if_true]
    unfold slices_ContainsFunc_at_impl_ValidCam_c1.f slices_IndexFunc_at_impl_ValidCam_c1.f
    have := ev_find (fun k j => slices_IndexFunc_at_impl_ValidCam_c1.l0 k l (l.length : Int) (j : Int)) (fun j => decide (0 ≤ rd l (j : Int) ∧ rd l (j : Int) ≤ 10000)) l.length (-1) (fun j => (j : Int)) ?_ ?_ ?_
    · refine Ev.bind (Ev.bind this (evo rfl)) (evo ?_)
      rcases ff_eq (fun j => decide (0 ≤ rd l (j : Int) ∧ rd l (j : Int) ≤ 10000)) (-1 : Int) (fun j => (j : Int)) l.length with ⟨hh, e⟩ | ⟨m, hm, hf, _, e⟩
      · rw [e, decide_eq_true (show Valid l from ⟨by omega, by omega, fun j hj => by simpa using hh j hj⟩)]; rfl
      · rw [e, decide_eq_false (show ¬ Valid l from fun hv => by rw [decide_eq_true (hv.2.2 m hm)] at hf; cases hf)]
        simp
    · intro j r hj hp ih
      refine evs ?_
      have hb := h16.rdb (j : Int)
      simp (disch := omega) only [slices_IndexFunc_at_impl_ValidCam_c1.l0, impl_ValidCam_c1.f, if_pos, e_impl_isLift, Option.bind_some, w64]
      first | exact ih | (rw [hp]; simp only [Bool.not_true, Bool.false_eq_true, if_false]; exact ih)
    · intro j hj hp
      refine evs ?_
      have hb := h16.rdb (j : Int)
      simp (disch := omega) only [slices_IndexFunc_at_impl_ValidCam_c1.l0, impl_ValidCam_c1.f, if_pos, e_impl_isLift, Option.bind_some, w64]
      first | exact evo rfl | (rw [hp]; exact evo rfl)
    · refine evs ?_
      simp (disch := omega) only [slices_IndexFunc_at_impl_ValidCam_c1.l0, if_neg]
      exact evo rfl
  · rw [decide_eq_false h]
    simp only [Bool.false_eq_true, if_false]
    exact evo (decide_eq_false (fun hv => h ⟨by have := hv.1; omega, by have := hv.2.1; omega⟩)).symm

/-! impl_at -/
theorem e_impl_floorDiv (a n : Int) (h : 0 < n) (ha : -1000000000000000000 ≤ a) (hb : a ≤ 1000000000000000000) : impl_floorDiv.f a n = some (a / n) := by
  unfold impl_floorDiv.f
  have := tdiv_b a h 1000000000000000000 ha hb
  rw [if_neg (by omega), ← floor_tdiv a h]
  by_cases c : Int.tmod a n < 0
  · simp (disch := omega) only [if_pos c, w64]
  · simp (disch := omega) only [if_neg c, w64]
theorem e_impl_mod (a n : Int) (h : 0 < n) (hn : n ≤ 1048576) (ha : -1000000000000 ≤ a) (hb : a ≤ 1000000000000) : impl_mod.f a n = some (a % n) := by
  unfold impl_mod.f
  rw [e_impl_floorDiv a n h (by omega) (by omega)]
  have e := Int.emod_add_mul_ediv a n
  have b := emod_b a h
  simp (disch := omega) only [Option.bind_some, w64, mod_ediv]
theorem e_impl_Cam_at (l : List Int) (h16 : I16 l) (h0 : 0 < l.length) (hl : l.length ≤ 1048576) (a : Int) (ha : -1000000000000 ≤ a) (hb : a ≤ 1000000000000) : impl_Cam_at.f l a = some (atz l a) := by
  unfold impl_Cam_at.f atz
  have hn : (0 : Int) < l.length := by omega
  have c := emod_b a hn
  rw [e_impl_Cam_steps, Option.bind_some, e_impl_mod a _ hn (by omega) ha hb, Option.bind_some, if_pos c.1, if_pos c.2]
  have := h16.rdb (a % (l.length : Int))
  rw [w64 (by omega) (by omega)]

/-! LagCam -/
theorem e_spec_l00Max (a b : Int) : spec_l00Max.f a b = some (mx a b) := by
  unfold spec_l00Max.f mx
  by_cases h : a > b
  · rw [if_pos h, if_neg (by omega)]
  · rw [if_neg h]; by_cases h2 : a < b
    · rw [if_pos h2]
    · rw [if_neg h2, show a = b by omega]
def lagv (l : List Int) (a i : Int) : Nat → Int
  | 0 => atz l i
  | j + 1 => mx (lagv l a i j) (atz l (i - j) - a * j)
theorem lagv_one (l : List Int) (a i : Int) : lagv l a i 1 = atz l i := by simp [lagv, mx]
theorem lagv_b (l : List Int) (h : Valid l) (a i : Int) (ha : 0 ≤ a) (j : Nat) : 0 ≤ lagv l a i j ∧ lagv l a i j ≤ 10000 := by
  induction j with
  | zero => exact h.atzb i
  | succ j ih =>
    have := h.atzb (i - j)
    have := Int.mul_nonneg ha (show (0 : Int) ≤ j by omega)
    unfold lagv mx
    split <;> omega
def lagL (l : List Int) (a : Int) : List Int := (List.range l.length).map fun i : Nat => IntKind.i16.wrap (lagv l a i l.length)
def lagR (l : List Int) (a : Int) : List Int × Int := if Valid l then if 1 ≤ a ∧ a ≤ 10000 then (lagL l a, 0) else ([], 2) else ([], 1)
theorem e_spec_LagCam (l : List Int) (h16 : I16 l) (hl : l.length ≤ 1048576) (a : Int) : Ev (fun k => spec_LagCam.f k l a) (lagR l a) := by
  unfold spec_LagCam.f lagR
  refine Ev.bind (e_spec_l01Ok l h16 hl) ?_
  by_cases hv : Valid l
  · rw [decide_eq_true hv, if_pos hv]
    simp only [if_true, e_spec_l00In, Option.bind_some]
    by_cases ha : 1 ≤ a ∧ a ≤ 10000
    · rw [decide_eq_true ha, if_pos ha]
      simp only [if_true]
      have hn := hv.1
      have hn2 := hv.2.1
      have := ev_loop (fun k i => spec_LagCam.l0 k l a ((List.range i).map fun i : Nat => IntKind.i16.wrap (lagv l a i l.length)) (i : Int)) l.length (lagL l a, 0) ?_ ?_
      · exact this
      · intro i hi ih
        refine evs ?_
        simp (disch := omega) only [spec_LagCam.l0, if_pos, e_spec_l01At l h16, Option.bind_some]
        have := ev_loop (fun k j => spec_LagCam.l1 k l a ((List.range i).map fun i : Nat => IntKind.i16.wrap (lagv l a i l.length)) (i : Int) (lagv l a i (j + 1)) ((j + 1 : Nat) : Int)) (l.length - 1) (lagL l a, 0) ?_ ?_
        · rw [lagv_one] at this; exact this
        · intro j hj ih2
          refine evs ?_
          have b := mul_b (A := 10000) (B := 360) (show 0 ≤ a by omega) ha.2 (show (0 : Int) ≤ ((j + 1 : Nat) : Int) by omega) (by omega)
          have c := hv.atzb ((i : Int) - ((j + 1 : Nat) : Int))
          simp (disch := omega) only [spec_LagCam.l1, if_pos, w64, e_spec_l01At l h16, e_spec_l00Max, Option.bind_some]
          exact ih2
        · refine evs ?_
          have e : ((l.length - 1 + 1 : Nat) : Int) = l.length := by omega
          have e2 : l.length - 1 + 1 = l.length := by omega
          have e3 : ((List.range i).map fun i : Nat => IntKind.i16.wrap (lagv l a i l.length)).length = i := map_len _ _
          rw [e2]
          simp (disch := omega) only [spec_LagCam.l1, if_neg, e3, if_pos, w64]
          rw [← map_snoc (fun i : Nat => IntKind.i16.wrap (lagv l a i l.length))]
          exact ih
      · refine evs ?_
        simp (disch := omega) only [spec_LagCam.l0, if_neg]
        exact evo rfl
    · rw [decide_eq_false ha, if_neg ha]
      exact evo rfl
  · rw [decide_eq_false hv, if_neg hv]
    exact evo rfl
theorem e_impl_LagCam_c1 (l : List Int) (h16 : I16 l) (hv : Valid l) (a : Int) (ha : 1 ≤ a ∧ a ≤ 10000) (i : Int) (h0 : 0 ≤ i) (h1 : i ≤ 100000) : Ev (fun k => impl_LagCam_c1.f k i l a) (lagv l a i l.length) := by
  have hn := hv.1
  have hn2 := hv.2.1
  unfold impl_LagCam_c1.f
  simp (disch := omega) only [e_impl_Cam_at l h16, e_impl_Cam_steps, Option.bind_some]
  have := ev_loop (fun k j => impl_LagCam_c1.l0 k i l a (lagv l a i j) (l.length : Int) (j : Int)) l.length (lagv l a i l.length) ?_ ?_
  · exact this
  · intro j hj ih
    refine evs ?_
    have b := mul_b (A := 10000) (B := 360) (show 0 ≤ a by omega) ha.2 (show (0 : Int) ≤ (j : Int) by omega) (by omega)
    have c := hv.atzb (i - (j : Int))
    simp (disch := omega) only [impl_LagCam_c1.l0, if_pos, w64, e_impl_Cam_at l h16, Option.bind_some]
    exact ih
  · refine evs ?_
    simp (disch := omega) only [impl_LagCam_c1.l0, if_neg]
    exact evo rfl
theorem e_impl_LagCam (l : List Int) (h16 : I16 l) (hl : l.length ≤ 1048576) (a : Int) : Ev (fun k => impl_LagCam.f k l a) (lagR l a) := by
  unfold impl_LagCam.f lagR
  refine Ev.bind (e_impl_ValidCam l h16 hl) ?_
  by_cases hv : Valid l
  · rw [decide_eq_true hv, if_pos hv]
    simp only [if_true, e_impl_inRange, e_impl_Cam_steps, Option.bind_some]
    by_cases ha : 1 ≤ a ∧ a ≤ 10000
    · rw [decide_eq_true ha, if_pos ha]
      simp only [if_true]
      have hn := hv.1
      have hn2 := hv.2.1
      refine Ev.bind (a := (lagL l a, 0)) ?_ (evo rfl)
      unfold impl_camOf_at_impl_LagCam_c1.f
      have := ev_loop (fun k i => impl_camOf_at_impl_LagCam_c1.l0 k ((List.range i).map fun i : Nat => IntKind.i16.wrap (lagv l a i l.length)) (l.length : Int) (i : Int) l a) l.length (lagL l a, 0) ?_ ?_
      · exact this
      · intro i hi ih
        refine evs ?_
        simp (disch := omega) only [impl_camOf_at_impl_LagCam_c1.l0, if_pos]
        refine Ev.bind (e_impl_LagCam_c1 l h16 hv a ha i (by omega) (by omega)) ?_
        have b := lagv_b l hv a i (by omega) l.length
        have e3 : ((List.range i).map fun i : Nat => IntKind.i16.wrap (lagv l a i l.length)).length = i := map_len _ _
        simp (disch := omega) only [e_impl_isLift, Option.bind_some, decide_eq_true, if_true, and_self, e3, if_pos, w64]
        rw [← map_snoc (fun i : Nat => IntKind.i16.wrap (lagv l a i l.length))]
        exact ih
      · refine evs ?_
        simp (disch := omega) only [impl_camOf_at_impl_LagCam_c1.l0, if_neg]
        exact evo rfl
    · rw [decide_eq_false ha, if_neg ha]
      exact evo rfl
  · rw [decide_eq_false hv, if_neg hv]
    exact evo rfl

/-! laws_cam -/
theorem e_laws_toCam (l : List Int) (hl : l.length ≤ 1048576) : Ev (fun k => laws_toCam.f k l) l := by
  unfold laws_toCam.f
  simp (disch := omega) only [if_pos]
  have := ev_loop (fun k j => laws_toCam.l0 k l (l.take j ++ List.replicate (l.length - j) 0) (j : Int)) l.length l ?_ ?_
  · simpa using this
  · intro j hj ih
    refine evs ?_
    have e : ((l.take j ++ List.replicate (l.length - j) 0).length : Int) = l.length := by simp; omega
    simp (disch := omega) only [laws_toCam.l0, if_pos, e, w64]
    have e2 : (l.take j ++ List.replicate (l.length - j) 0).set ((j : Int)).toNat (rd l (j : Int)) = l.take (j + 1) ++ List.replicate (l.length - (j + 1)) 0 := by
      have e3 : l.length - j = (l.length - (j + 1)) + 1 := by omega
      rw [e3, List.replicate_succ, Int.toNat_natCast, set_app _ _ _ _ _ (by simp; omega), rd_nat, List.take_succ_eq_append_getElem hj]
      have e4 : l.getD j 0 = l[j] := by simp [List.getD_eq_getElem?_getD, hj]
      rw [e4, List.append_assoc, List.singleton_append]
    rw [e2]
    exact ih
  · refine evs ?_
    simp (disch := omega) only [laws_toCam.l0, if_neg]
    exact evo (by simp)
theorem e_laws_eqCam (l : List Int) (hl : l.length ≤ 1048576) : Ev (fun k => laws_eqCam.f k l l) true := by
  unfold laws_eqCam.f
  simp only [if_true]
  have := ev_loop (fun k j => laws_eqCam.l0 k l l (j : Int)) l.length true ?_ ?_
  · exact this
  · intro j hj ih
    refine evs ?_
    simp (disch := omega) only [laws_eqCam.l0, if_pos, if_true, w64]
    exact ih
  · refine evs ?_
    simp (disch := omega) only [laws_eqCam.l0, if_neg]
    exact evo rfl

/-! laws_mark -/
def marked (m : Int) (n : Nat) : List Int := (List.range n).map fun j : Nat => IntKind.i16.wrap (m + j)
theorem marked_len (m : Int) (n : Nat) : (marked m n).length = n := by simp [marked]
theorem e_laws_markCam (l : List Int) (hl : l.length ≤ 1048576) (m : Int) (h0 : 0 ≤ m) (h1 : m ≤ 1000000000) : Ev (fun k => laws_markCam.f k l m) (m + l.length, marked m l.length) := by
  unfold laws_markCam.f
  have := ev_loop (fun k j => laws_markCam.l0 k (marked m j ++ l.drop j) (m + j) (j : Int)) l.length (m + l.length, marked m l.length) ?_ ?_
  · simpa [marked] using this
  · intro j hj ih
    refine evs ?_
    have e : ((marked m j ++ l.drop j).length : Int) = l.length := by simp [marked_len]; omega
    have e2 : (marked m j ++ l.drop j).set ((j : Int)).toNat (IntKind.i16.wrap (m + j)) = marked m (j + 1) ++ l.drop (j + 1) := by
      rw [Int.toNat_natCast, List.drop_eq_getElem_cons hj, set_app _ _ _ _ _ (marked_len _ _)]
      unfold marked; rw [map_snoc]; simp
    simp (disch := omega) only [laws_markCam.l0, if_pos, e, w64]
    rw [e2, show m + (j : Int) + 1 = m + ((j + 1 : Nat) : Int) by omega]
    exact ih
  · refine evs ?_
    have e : ((marked m l.length ++ l.drop l.length).length : Int) = l.length := by simp [marked_len]
    simp (disch := omega) only [laws_markCam.l0, if_neg, e]
    exact evo (by simp)
theorem e_laws_heldCam (n : Nat) (hl : n ≤ 1048576) (m : Int) (h0 : 0 ≤ m) (h1 : m ≤ 1000000000) : Ev (fun k => laws_heldCam.f k (marked m n) m) (m + n) := by
  unfold laws_heldCam.f
  have e : ((marked m n).length : Int) = n := by rw [marked_len]
  have := ev_loop (fun k j => laws_heldCam.l0 k (marked m n) (m + j) (j : Int)) n (m + n) ?_ ?_
  · simpa using this
  · intro j hj ih
    refine evs ?_
    have e2 : rd (marked m n) (j : Int) = IntKind.i16.wrap (m + j) := by unfold marked; rw [rd_map _ _ _ (by omega) (by omega)]; simp
    simp (disch := omega) only [laws_heldCam.l0, if_pos, e, e2, if_true, w64]
    rw [show m + (j : Int) + 1 = m + ((j + 1 : Nat) : Int) by omega]
    exact ih
  · refine evs ?_
    simp (disch := omega) only [laws_heldCam.l0, if_neg, e]
    exact evo rfl

theorem lagR_len (l : List Int) (a : Int) : (lagR l a).1.length ≤ 1048576 := by
  unfold lagR
  split
  · rename_i h
    split
    · have := h.2.1; simp [lagL]; omega
    · simp
  · simp
theorem FnExactLagCam : laws_FnExactLagCam.Pure := by
  intro l a _ _ hw _
  have h16 : I16 l := fun x hx => by simpa [Lit.wf, IntKind.min, IntKind.max, IntKind.bits, IntKind.signed] using hw x hx
  refine ev_rounds ?_
  unfold laws_FnExactLagCam.f
  by_cases hl : (l.length : Int) > 1048576
  · simp only [if_pos hl]; exact evo rfl
  simp only [if_neg hl]
  have hl' : l.length ≤ 1048576 := by omega
  have T := e_laws_toCam l hl'
  have A := e_spec_LagCam l h16 hl' a
  have B := e_impl_LagCam l h16 hl' a
  have Q := e_laws_eqCam l hl'
  have hr := lagR_len l a
  revert A B hr
  generalize lagR l a = R
  obtain ⟨r, c⟩ := R
  intro A B hr
  have QR := e_laws_eqCam r hr
  refine Ev.bind T (Ev.bind A (Ev.bind T (Ev.bind B (Ev.bind QR ?_))))
  simp only [if_true, bne_self_eq_false]
  refine evs ?_
  simp only [laws_FnExactLagCam.j0, Bool.false_eq_true, if_false]
  refine Ev.bind T (Ev.bind Q ?_)
  simp only [if_true]
  refine Ev.bind (e_laws_markCam l hl' 1 (by omega) (by omega)) ?_
  dsimp only
  simp (disch := omega) only [if_neg]
  refine Ev.bind QR ?_
  simp only [if_true, bne_self_eq_false]
  refine evs ?_
  simp only [laws_FnExactLagCam.j1, Bool.false_eq_true, if_false]
  refine Ev.bind (e_laws_markCam r hr 1 (by omega) (by omega)) (Ev.bind (e_laws_heldCam r.length hr 1 (by omega) (by omega)) ?_)
  dsimp only
  simp (disch := omega) only [if_neg, if_pos]
  refine Ev.bind T (Ev.bind B (Ev.bind QR ?_))
  simp only [if_true, bne_self_eq_false]
  refine evs ?_
  simp only [laws_FnExactLagCam.j2, Bool.false_eq_true, if_false]
  refine Ev.bind (e_laws_heldCam r.length hr 1 (by omega) (by omega)) ?_
  simp (disch := omega) only [if_neg, if_pos]
  exact evo rfl

end Go.Proofs.Ytkblhdmolfbfcaa.Pure
