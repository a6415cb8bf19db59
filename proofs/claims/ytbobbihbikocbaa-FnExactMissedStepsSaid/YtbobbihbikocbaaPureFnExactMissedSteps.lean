/- The pure statement of the law FnExactMissedSteps: the program's function and the reference's tell the same of every input, by plain lemmas on numbers, lists and rounds; no further condition. -/
import Derived.Test.YtbobbihbikocbaaXFnExactMissedStepsx5
import Derived.Test.YtbobbihbikocbaaXLib
namespace Go.Proofs.Ytbobbihbikocbaa.Pure
open Go.RowKit Go.Proofs.Ytbobbihbikocbaa.XFnExactMissedSteps Go.Proofs.Ytbobbihbikocbaa.XLib Go.Proofs.YtbobbihbikocbaaW.PrintWords Go.Proofs.YtbobbihbikocbaaW.PrintLast Go.Proofs.YtbobbihbikocbaaW.PrintMore
set_option maxRecDepth 100000
set_option linter.unusedVariables false
set_option linter.unusedSimpArgs false
/-! foot -/
def footv (op : Int → Int → Int) (l : List Int) (w i : Int) : Nat → Int
  | 0 => atz l i
  | j + 1 => op (footv op l w i j) (atz l (i - w + j))
theorem footv_s (op : Int → Int → Int) (l : List Int) (w i : Int) (j : Nat) : footv op l w i (j + 1) = op (footv op l w i j) (atz l (i - w + j)) := rfl
def OpIn (op : Int → Int → Int) : Prop := ∀ a b : Int, 0 ≤ a → a ≤ 10000 → 0 ≤ b → b ≤ 10000 → 0 ≤ op a b ∧ op a b ≤ 10000
theorem mx_in : OpIn mx := by intro a b _ _ _ _; unfold mx; split <;> omega
theorem mn_in : OpIn mn := by intro a b _ _ _ _; unfold mn; split <;> omega
theorem footv_b {op : Int → Int → Int} (ho : OpIn op) (l : List Int) (hv : Valid l) (w i : Int) (j : Nat) : 0 ≤ footv op l w i j ∧ footv op l w i j ≤ 10000 := by
  induction j with
  | zero => exact hv.atzb i
  | succ j ih => have := hv.atzb (i - w + j); rw [footv_s]; exact ho _ _ ih.1 ih.2 this.1 this.2
def footL (op : Int → Int → Int) (l : List Int) (w : Int) : List Int := (List.range l.length).map fun i : Nat => footv op l w i (2 * w + 1).toNat
theorem footL_len (op : Int → Int → Int) (l : List Int) (w : Int) : (footL op l w).length = l.length := by simp [footL]
theorem footL_rd (op : Int → Int → Int) (l : List Int) (w : Int) (j : Nat) (h : j < l.length) : rd (footL op l w) (j : Int) = footv op l w j (2 * w + 1).toNat := by
  unfold footL; rw [rd_map _ _ _ (by omega) (by omega)]; simp
theorem Valid.foot {op : Int → Int → Int} (ho : OpIn op) {l : List Int} (h : Valid l) (w : Int) : Valid (footL op l w) := by
  refine ⟨by rw [footL_len]; exact h.1, by rw [footL_len]; exact h.2.1, fun j hj => ?_⟩
  rw [footL_len] at hj
  rw [footL_rd _ _ _ _ hj]
  exact footv_b ho l h w j _
theorem I16.foot {op : Int → Int → Int} (ho : OpIn op) {l : List Int} (hv : Valid l) (w : Int) : I16 (footL op l w) := by
  intro x hx
  unfold footL at hx
  obtain ⟨i, _, rfl⟩ := List.mem_map.mp hx
  have := footv_b ho l hv w i (2 * w + 1).toNat
  exact ⟨by omega, by omega⟩
def reachL (l : List Int) (w : Int) : List Int := footL mn (footL mx l w) w
theorem reachL_len (l : List Int) (w : Int) : (reachL l w).length = l.length := by unfold reachL; rw [footL_len, footL_len]

/-! spec_at -/
theorem e_spec_l01At (l : List Int) (h16 : I16 l) (h0 : 0 < l.length) (hl : l.length ≤ 1048576) (a : Int) (ha : -1000000000000 ≤ a) (hb : a ≤ 1000000000000) : spec_l01At.f l a = some (atz l a) := by
  unfold spec_l01At.f atz
  have hn : (0 : Int) < l.length := by omega
  have b := tmod_b a hn
  rw [if_neg (by omega), w64 (by omega) (by omega), two_mods a hn]
  have c := emod_b a hn
  rw [if_pos c.1, if_pos c.2]
  have := h16.rdb (a % (l.length : Int))
  rw [w64 (by omega) (by omega)]

/-! spec_foot_go -/
theorem e_spec_l03Foot_of (L0 : Nat → List Int → Int → Bool → List Int → Int → Option (List Int)) (op : Int → Int → Int) (b : Bool) (ho : OpIn op) (l : List Int) (h16 : I16 l) (hv : Valid l) (w : Int) (hw : 0 ≤ w ∧ w ≤ 1000)
    (L1 : Nat → List Int → Int → Bool → List Int → Int → Int → Int → Option (List Int))
    (h0 : ∀ k out x, L0 (k + 1) l w b out x = if x < (l.length : Int) then ((spec_l01At.f l x).bind fun t => L1 k l w b out x t (wrap64 (-w))) else some out)
    (h1 : ∀ k out x t y, L1 (k + 1) l w b out x t y = if y ≤ w then ((spec_l01At.f l (wrap64 (x + y))).bind fun u => L1 k l w b out x (op t u) (wrap64 (y + 1))) else (if out.length < 70368744177664 then L0 k l w b (out ++ [IntKind.i16.wrap t]) (wrap64 (x + 1)) else none)) :
    Ev (fun k => L0 k l w b [] 0) (footL op l w) := by
  have hn := hv.1
  have hn2 := hv.2.1
  have := ev_loop (fun k j => L0 k l w b ((List.range j).map fun i : Nat => footv op l w i (2 * w + 1).toNat) (j : Int)) l.length (footL op l w) ?_ ?_
  · exact this
  · intro j hj ih
    refine evs ?_
    simp (disch := omega) only [h0, if_pos, e_spec_l01At l h16, Option.bind_some, w64]
    have := ev_loop (fun k i => L1 k l w b ((List.range j).map fun i : Nat => footv op l w i (2 * w + 1).toNat) (j : Int) (footv op l w j i) (-w + (i : Int))) (2 * w + 1).toNat (footL op l w) ?_ ?_
    · rw [show ((0 : Nat) : Int) = 0 from rfl, Int.add_zero] at this; exact this
    · intro i hi ih2
      refine evs ?_
      simp (disch := omega) only [h1, if_pos, w64, e_spec_l01At l h16, Option.bind_some]
      have e : (j : Int) + (-w + (i : Int)) = j - w + i := by omega
      have e2 : -w + ((i + 1 : Nat) : Int) = -w + (i : Int) + 1 := by omega
      rw [e2, footv_s] at ih2
      rw [e]
      exact ih2
    · refine evs ?_
      have b1 := footv_b ho l hv w j (2 * w + 1).toNat
      have e1 : ((List.range j).map fun i : Nat => footv op l w i (2 * w + 1).toNat).length = j := by simp
      simp (disch := omega) only [h1, if_neg, if_pos, e1, w64, w16]
      rw [← map_snoc (fun i : Nat => footv op l w i (2 * w + 1).toNat)]
      exact ih
  · refine evs ?_
    simp (disch := omega) only [h0, if_neg]
    exact evo rfl
theorem mx_gt (a b : Int) : (if a > b then some a else some b) = some (mx a b) := by
  unfold mx
  by_cases h : a > b
  · rw [if_pos h, if_neg (by omega)]
  · rw [if_neg h]; by_cases h2 : a < b
    · rw [if_pos h2]
    · rw [if_neg h2, show a = b by omega]
theorem mn_lt (a b : Int) : (if a < b then some a else some b) = some (mn a b) := by
  unfold mn
  by_cases h : a < b
  · rw [if_pos h, if_neg (by omega)]
  · rw [if_neg h]; by_cases h2 : b < a
    · rw [if_pos h2]
    · rw [if_neg h2, show a = b by omega]

/-! spec_foot -/
theorem e_spec_l03Foot_mx (l : List Int) (h16 : I16 l) (hv : Valid l) (w : Int) (hw : 0 ≤ w ∧ w ≤ 1000) : Ev (fun k => spec_l03Foot.f k l w true) (footL mx l w) := by
  unfold spec_l03Foot.f
  refine e_spec_l03Foot_of spec_l03Foot.l0 mx true mx_in l h16 hv w hw spec_l03Foot.l1 (fun k out x => ?_) (fun k out x t y => ?_)
  · simp only [spec_l03Foot.l0]
  · simp only [spec_l03Foot.l1, if_true, spec_l00Max.f, mx_gt, Option.bind_some]
theorem e_spec_l03Foot_mn (l : List Int) (h16 : I16 l) (hv : Valid l) (w : Int) (hw : 0 ≤ w ∧ w ≤ 1000) : Ev (fun k => spec_l03Foot.f k l w false) (footL mn l w) := by
  unfold spec_l03Foot.f
  refine e_spec_l03Foot_of spec_l03Foot.l0 mn false mn_in l h16 hv w hw spec_l03Foot.l1 (fun k out x => ?_) (fun k out x t y => ?_)
  · simp only [spec_l03Foot.l0]
  · simp only [spec_l03Foot.l1, if_false, spec_l00Min.f, mn_lt, Option.bind_some, Bool.false_eq_true]

/-! base_impl -/
theorem e_impl_inRange (a b c : Int) : impl_inRange.f a b c = some (decide (b ≤ a ∧ a ≤ c)) := by
  unfold impl_inRange.f
  by_cases h : b ≤ a <;> simp [h]
theorem e_impl_isSteps (a : Int) : impl_isSteps.f a = some (decide (8 ≤ a ∧ a ≤ 360)) := by
  unfold impl_isSteps.f; rw [e_impl_inRange]; rfl
theorem e_impl_isLift (a : Int) : impl_isLift.f a = some (decide (0 ≤ a ∧ a ≤ 10000)) := by
  unfold impl_isLift.f; rw [e_impl_inRange]; rfl
theorem e_impl_Cam_steps (l : List Int) : impl_Cam_steps.f l = some (l.length : Int) := rfl
theorem e_impl_ValidCam (l : List Int) (h16 : I16 l) (hl : l.length ≤ 1048576) : Ev (fun k => impl_ValidCam.f k l) (decide (Valid l)) := by
  unfold impl_ValidCam.f
  simp only [e_impl_Cam_steps, e_impl_isSteps, Option.bind_some]
  by_cases h : 8 ≤ (l.length : Int) ∧ (l.length : Int) ≤ 360
  · simp only [h, and_self, decide_true, if_true]
    unfold slices_ContainsFunc_at_impl_ValidCam_c1.f slices_IndexFunc_at_impl_ValidCam_c1.f
    have := ev_find (fun k j => slices_IndexFunc_at_impl_ValidCam_c1.l0 k l (l.length : Int) (j : Int)) (fun j => decide (0 ≤ rd l (j : Int) ∧ rd l (j : Int) ≤ 10000)) l.length (-1) (fun j => (j : Int)) ?_ ?_ ?_
    · refine Ev.bind (Ev.bind this (evo rfl)) (evo ?_)
      rcases ff_eq (fun j => decide (0 ≤ rd l (j : Int) ∧ rd l (j : Int) ≤ 10000)) (-1 : Int) (fun j => (j : Int)) l.length with ⟨hh, e⟩ | ⟨m, hm, hf, _, e⟩
      · rw [e, decide_eq_true (show Valid l from ⟨by omega, by omega, fun j hj => by simpa using hh j hj⟩)]; rfl
      · rw [e, decide_eq_false (show ¬ Valid l from fun hv => by rw [decide_eq_true (hv.2.2 m hm)] at hf; cases hf)]
        simp
    · intro j r hj hp ih
      refine evs ?_
      have hb := h16.rdb (j : Int)
      simp (disch := omega) only [slices_IndexFunc_at_impl_ValidCam_c1.l0, impl_ValidCam_c1.f, if_pos, e_impl_isLift, Option.bind_some, w64]
      first | exact ih | (rw [hp]; simp only [Bool.not_true, Bool.false_eq_true, if_false]; exact ih)
    · intro j hj hp
      refine evs ?_
      have hb := h16.rdb (j : Int)
      simp (disch := omega) only [slices_IndexFunc_at_impl_ValidCam_c1.l0, impl_ValidCam_c1.f, if_pos, e_impl_isLift, Option.bind_some, w64]
      first | exact evo rfl | (rw [hp]; exact evo rfl)
    · refine evs ?_
      simp (disch := omega) only [slices_IndexFunc_at_impl_ValidCam_c1.l0, if_neg]
      exact evo rfl
  · rw [decide_eq_false h]
    simp only [Bool.false_eq_true, if_false]
    exact evo (decide_eq_false (fun hv => h ⟨by have := hv.1; omega, by have := hv.2.1; omega⟩)).symm

/-! impl_mod -/
theorem e_impl_floorDiv (a n : Int) (h : 0 < n) (ha : -9223372036854775807 ≤ a) (hb : a ≤ 9223372036854775807) : impl_floorDiv.f a n = some (a / n) := by
  unfold impl_floorDiv.f
  have := tdiv_b a h 9223372036854775807 ha hb
  rw [if_neg (by omega), ← floor_tdiv a h]
  by_cases c : Int.tmod a n < 0
  · simp (disch := omega) only [if_pos c, w64]
  · simp (disch := omega) only [if_neg c, w64]
theorem e_impl_mod (a n : Int) (h : 0 < n) (hn : n ≤ 1048576) (ha : -1000000000000 ≤ a) (hb : a ≤ 1000000000000) : impl_mod.f a n = some (a % n) := by
  unfold impl_mod.f
  rw [e_impl_floorDiv a n h (by omega) (by omega)]
  have e := Int.emod_add_mul_ediv a n
  have b := emod_b a h
  simp (disch := omega) only [Option.bind_some, w64, mod_ediv]

/-! impl_at -/
theorem e_impl_Cam_at (l : List Int) (h16 : I16 l) (h0 : 0 < l.length) (hl : l.length ≤ 1048576) (a : Int) (ha : -1000000000000 ≤ a) (hb : a ≤ 1000000000000) : impl_Cam_at.f l a = some (atz l a) := by
  unfold impl_Cam_at.f atz
  have hn : (0 : Int) < l.length := by omega
  have c := emod_b a hn
  rw [e_impl_Cam_steps, Option.bind_some, e_impl_mod a _ hn (by omega) ha hb, Option.bind_some, if_pos c.1, if_pos c.2]
  have := h16.rdb (a % (l.length : Int))
  rw [w64 (by omega) (by omega)]

/-! made_ok -/
theorem made_ok (g : Nat → Int) (n : Nat) (h : ∀ j, j < n → 0 ≤ g j ∧ g j ≤ 10000) : made g n = ((List.range n).map g, 0) := by
  unfold made; rw [if_pos h]

/-! impl_greater -/
theorem e_impl_greater_c1 (l : List Int) (h16 : I16 l) (hv : Valid l) (w : Int) (hw : 0 ≤ w ∧ w ≤ 1000) (i : Nat) (hi : i < l.length) : Ev (fun k => impl_Cam_beside_c1_with_impl_greater.f k (i : Int) l w ()) (footv mx l w i (2 * w + 1).toNat) := by
  have hn := hv.1
  have hn2 := hv.2.1
  unfold impl_Cam_beside_c1_with_impl_greater.f
  simp (disch := omega) only [e_impl_Cam_at l h16, Option.bind_some, w64]
  have := ev_loop (fun k j => impl_Cam_beside_c1_with_impl_greater.l0 k (i : Int) l w (footv mx l w i j) (-w + (j : Int))) (2 * w + 1).toNat (footv mx l w i (2 * w + 1).toNat) ?_ ?_
  · rw [show ((0 : Nat) : Int) = 0 from rfl, Int.add_zero] at this; exact this
  · intro j hj ih
    refine evs ?_
    simp (disch := omega) only [impl_Cam_beside_c1_with_impl_greater.l0, if_pos, w64, e_impl_Cam_at l h16, Option.bind_some, impl_greater.f]
    have e : (i : Int) + (-w + (j : Int)) = i - w + j := by omega
    have e2 : -w + ((j + 1 : Nat) : Int) = -w + (j : Int) + 1 := by omega
    rw [e2, footv_s] at ih
    rw [e]
    exact ih
  · refine evs ?_
    simp (disch := omega) only [impl_Cam_beside_c1_with_impl_greater.l0, if_neg]
    exact evo rfl
theorem e_impl_beside_greater (l : List Int) (h16 : I16 l) (hv : Valid l) (w : Int) (hw : 0 ≤ w ∧ w ≤ 1000) : Ev (fun k => impl_Cam_beside_at_impl_greater.f k l w) (footL mx l w) := by
  have hn := hv.1
  have hn2 := hv.2.1
  unfold impl_Cam_beside_at_impl_greater.f
  simp only [e_impl_Cam_steps, Option.bind_some]
  refine Ev.bind (a := made (fun i : Nat => footv mx l w i (2 * w + 1).toNat) l.length) ?_ (evo ?_)
  · unfold impl_camOf_at_impl_Cam_beside_c1_with_impl_greater.f
    refine ev_made (fun k out i => impl_camOf_at_impl_Cam_beside_c1_with_impl_greater.l0 k out (l.length : Int) i l w ()) (fun k i => impl_Cam_beside_c1_with_impl_greater.f k i l w ()) _ l.length _ rfl (by omega) (fun k out i => ?_) (fun j hj => e_impl_greater_c1 l h16 hv w hw j hj)
    simp only [impl_camOf_at_impl_Cam_beside_c1_with_impl_greater.l0, e_impl_isLift, Option.bind_some]
  · rw [made_ok _ _ (fun j _ => footv_b mx_in l hv w j _)]; rfl

/-! impl_lesser -/
theorem e_impl_lesser_c1 (l : List Int) (h16 : I16 l) (hv : Valid l) (w : Int) (hw : 0 ≤ w ∧ w ≤ 1000) (i : Nat) (hi : i < l.length) : Ev (fun k => impl_Cam_beside_c1_with_impl_lesser.f k (i : Int) l w ()) (footv mn l w i (2 * w + 1).toNat) := by
  have hn := hv.1
  have hn2 := hv.2.1
  unfold impl_Cam_beside_c1_with_impl_lesser.f
  simp (disch := omega) only [e_impl_Cam_at l h16, Option.bind_some, w64]
  have := ev_loop (fun k j => impl_Cam_beside_c1_with_impl_lesser.l0 k (i : Int) l w (footv mn l w i j) (-w + (j : Int))) (2 * w + 1).toNat (footv mn l w i (2 * w + 1).toNat) ?_ ?_
  · rw [show ((0 : Nat) : Int) = 0 from rfl, Int.add_zero] at this; exact this
  · intro j hj ih
    refine evs ?_
    simp (disch := omega) only [impl_Cam_beside_c1_with_impl_lesser.l0, if_pos, w64, e_impl_Cam_at l h16, Option.bind_some, impl_lesser.f]
    have e : (i : Int) + (-w + (j : Int)) = i - w + j := by omega
    have e2 : -w + ((j + 1 : Nat) : Int) = -w + (j : Int) + 1 := by omega
    rw [e2, footv_s] at ih
    rw [e]
    exact ih
  · refine evs ?_
    simp (disch := omega) only [impl_Cam_beside_c1_with_impl_lesser.l0, if_neg]
    exact evo rfl
theorem e_impl_beside_lesser (l : List Int) (h16 : I16 l) (hv : Valid l) (w : Int) (hw : 0 ≤ w ∧ w ≤ 1000) : Ev (fun k => impl_Cam_beside_at_impl_lesser.f k l w) (footL mn l w) := by
  have hn := hv.1
  have hn2 := hv.2.1
  unfold impl_Cam_beside_at_impl_lesser.f
  simp only [e_impl_Cam_steps, Option.bind_some]
  refine Ev.bind (a := made (fun i : Nat => footv mn l w i (2 * w + 1).toNat) l.length) ?_ (evo ?_)
  · unfold impl_camOf_at_impl_Cam_beside_c1_with_impl_lesser.f
    refine ev_made (fun k out i => impl_camOf_at_impl_Cam_beside_c1_with_impl_lesser.l0 k out (l.length : Int) i l w ()) (fun k i => impl_Cam_beside_c1_with_impl_lesser.f k i l w ()) _ l.length _ rfl (by omega) (fun k out i => ?_) (fun j hj => e_impl_lesser_c1 l h16 hv w hw j hj)
    simp only [impl_camOf_at_impl_Cam_beside_c1_with_impl_lesser.l0, e_impl_isLift, Option.bind_some]
  · rw [made_ok _ _ (fun j _ => footv_b mn_in l hv w j _)]; rfl

/-! reach -/
theorem e_spec_l03Reached (l : List Int) (h16 : I16 l) (hv : Valid l) (w : Int) (hw : 0 ≤ w ∧ w ≤ 1000) : Ev (fun k => spec_l03Reached.f k l w) (reachL l w) := by
  unfold spec_l03Reached.f reachL
  exact Ev.bind (e_spec_l03Foot_mx l h16 hv w hw) (Ev.bind (e_spec_l03Foot_mn _ (I16.foot mx_in hv w) (Valid.foot mx_in hv w) w hw) (evo rfl))
theorem e_impl_reached (l : List Int) (h16 : I16 l) (hv : Valid l) (w : Int) (hw : 0 ≤ w ∧ w ≤ 1000) : Ev (fun k => impl_Cam_reached.f k l w) (reachL l w) := by
  unfold impl_Cam_reached.f reachL
  exact Ev.bind (e_impl_beside_greater l h16 hv w hw) (Ev.bind (e_impl_beside_lesser _ (I16.foot mx_in hv w) (Valid.foot mx_in hv w) w hw) (evo rfl))

/-! base_spec -/
theorem e_spec_l00In (a b c : Int) : spec_l00In.f a b c = some (decide (b ≤ a ∧ a ≤ c)) := by
  unfold spec_l00In.f
  by_cases h : b ≤ a <;> simp [h]
theorem e_spec_l01Steps (a : Int) : spec_l01Steps.f a = some (decide (8 ≤ a ∧ a ≤ 360)) := by
  unfold spec_l01Steps.f; rw [e_spec_l00In]; rfl
theorem e_spec_l01Lift (a : Int) : spec_l01Lift.f a = some (decide (0 ≤ a ∧ a ≤ 10000)) := by
  unfold spec_l01Lift.f; rw [e_spec_l00In]; rfl
theorem e_spec_l01Ok (l : List Int) (h16 : I16 l) (hl : l.length ≤ 1048576) : Ev (fun k => spec_l01Ok.f k l) (decide (Valid l)) := by
  unfold spec_l01Ok.f
  simp only [e_spec_l01Steps, Option.bind_some]
  by_cases h : 8 ≤ (l.length : Int) ∧ (l.length : Int) ≤ 360
  · simp only [h, and_self, decide_true, if_true]
    have := ev_find (fun k j => spec_l01Ok.l0 k l (j : Int)) (fun j => decide (0 ≤ rd l (j : Int) ∧ rd l (j : Int) ≤ 10000)) l.length true (fun _ => false) ?_ ?_ ?_
    · rw [ff_all] at this
      refine eve this ?_
      apply decide_eq_decide.mpr
      unfold Valid
      constructor
      · intro hh; exact ⟨by omega, by omega, fun j hj => by simpa using hh j hj⟩
      · intro hh j hj; simpa using hh.2.2 j hj
    · intro j r hj hp ih
      refine evs ?_
      have hb := h16.rdb (j : Int)
      simp (disch := omega) only [spec_l01Ok.l0, if_pos, e_spec_l01Lift, Option.bind_some, w64]
      first | exact ih | (rw [hp]; simp only [if_true]; exact ih)
    · intro j hj hp
      refine evs ?_
      have hb := h16.rdb (j : Int)
      simp (disch := omega) only [spec_l01Ok.l0, if_pos, e_spec_l01Lift, Option.bind_some, w64]
      first | exact evo rfl | (rw [hp]; exact evo rfl)
    · refine evs ?_
      simp (disch := omega) only [spec_l01Ok.l0, if_neg]
      exact evo rfl
  · rw [decide_eq_false h]
    simp only [Bool.false_eq_true, if_false]
    exact evo (decide_eq_false (fun hv => h ⟨by have := hv.1; omega, by have := hv.2.1; omega⟩)).symm

/-! spec_footed -/
def footC (l : List Int) (w : Int) : Int := if Valid l then (if 0 ≤ w ∧ w ≤ 40 then 0 else 2) else 1
theorem footC_0 {l : List Int} {w : Int} (h : footC l w = 0) : Valid l ∧ 0 ≤ w ∧ w ≤ 40 := by
  unfold footC at h
  by_cases hv : Valid l
  · rw [if_pos hv] at h
    by_cases ha : 0 ≤ w ∧ w ≤ 40
    · exact ⟨hv, ha⟩
    · rw [if_neg ha] at h; omega
  · rw [if_neg hv] at h; omega
theorem e_spec_l03Footed (l : List Int) (h16 : I16 l) (hl : l.length ≤ 1048576) (w : Int) : Ev (fun k => spec_l03Footed.f k l w) (footC l w) := by
  unfold spec_l03Footed.f footC
  refine Ev.bind (e_spec_l01Ok l h16 hl) ?_
  by_cases hv : Valid l
  · simp only [hv, decide_true, if_true, e_spec_l00In, Option.bind_some]
    by_cases ha : 0 ≤ w ∧ w ≤ 40
    · simp only [decide_eq_true ha, if_pos ha, if_true]; exact evo rfl
    · simp only [decide_eq_false ha, if_neg ha]; exact evo rfl
  · simp only [hv, decide_false, if_false]; exact evo rfl

/-! impl_footcode -/
theorem e_impl_footCode (l : List Int) (h16 : I16 l) (hl : l.length ≤ 1048576) (w : Int) : Ev (fun k => impl_footCode.f k l w) (footC l w) := by
  unfold impl_footCode.f footC
  refine Ev.bind (e_impl_ValidCam l h16 hl) ?_
  by_cases hv : Valid l
  · simp only [hv, decide_true, if_true, e_impl_inRange, Option.bind_some]
    by_cases ha : 0 ≤ w ∧ w ≤ 40
    · simp only [decide_eq_true ha, if_pos ha, if_true]; exact evo rfl
    · simp only [decide_eq_false ha, if_neg ha]; exact evo rfl
  · simp only [hv, decide_false, if_false]; exact evo rfl

/-! MissedSteps -/
/-- The places at which something differs. -/
def diffL (p : Nat → Bool) : Nat → List Int
  | 0 => []
  | j + 1 => if p j = true then diffL p j else diffL p j ++ [(j : Int)]
theorem diffL_s (p : Nat → Bool) (j : Nat) : diffL p (j + 1) = if p j = true then diffL p j else diffL p j ++ [(j : Int)] := rfl
theorem diffL_len (p : Nat → Bool) (j : Nat) : (diffL p j).length ≤ j := by
  induction j with
  | zero => simp [diffL]
  | succ j ih => rw [diffL_s]; split
                 · omega
                 · simp; omega
def missP (l : List Int) (w : Int) (j : Nat) : Bool := decide (rd (reachL l w) (j : Int) = rd l (j : Int))
def missR (l : List Int) (w : Int) : List Int × Int := if footC l w = 0 then (diffL (missP l w) l.length, 0) else ([], footC l w)
theorem missR_len (l : List Int) (w : Int) (hl : l.length ≤ 1048576) : (missR l w).1.length ≤ 1048576 := by
  unfold missR
  split
  · exact Nat.le_trans (diffL_len _ _) hl
  · exact Nat.zero_le _
theorem e_spec_MissedSteps (l : List Int) (h16 : I16 l) (hl : l.length ≤ 1048576) (w : Int) : Ev (fun k => spec_MissedSteps.f k l w) (missR l w) := by
  unfold spec_MissedSteps.f missR
  refine Ev.bind (e_spec_l03Footed l h16 hl w) ?_
  by_cases h : footC l w = 0
  · obtain ⟨hv, hw⟩ := footC_0 h
    simp only [if_pos h]
    refine Ev.bind (e_spec_l03Reached l h16 hv w (by omega)) ?_
    have := ev_loop (fun k j => spec_MissedSteps.l0 k l (reachL l w) (diffL (missP l w) j) (j : Int)) l.length (diffL (missP l w) l.length, (0 : Int)) ?_ ?_
    · exact this
    · intro j hj ih
      refine evs ?_
      have e := reachL_len l w
      have e2 := diffL_len (missP l w) j
      simp (disch := omega) only [spec_MissedSteps.l0, if_pos, e, w64]
      rw [diffL_s] at ih
      by_cases c : rd (reachL l w) (j : Int) = rd l (j : Int)
      · rw [show missP l w j = true from decide_eq_true c, if_pos rfl] at ih
        simp only [if_pos c]; exact ih
      · rw [show missP l w j = false from decide_eq_false c] at ih
        simp only [if_neg c]; exact ih
    · refine evs ?_
      simp (disch := omega) only [spec_MissedSteps.l0, if_neg]
      exact evo rfl
  · simp only [if_neg h]; exact evo rfl
theorem e_impl_MissedSteps (l : List Int) (h16 : I16 l) (hl : l.length ≤ 1048576) (w : Int) : Ev (fun k => impl_MissedSteps.f k l w) (missR l w) := by
  unfold impl_MissedSteps.f missR
  refine Ev.bind (e_impl_footCode l h16 hl w) ?_
  by_cases h : footC l w = 0
  · obtain ⟨hv, hw⟩ := footC_0 h
    simp only [if_pos h]
    refine Ev.bind (e_impl_reached l h16 hv w (by omega)) ?_
    have e := reachL_len l w
    simp only [e]
    have := ev_loop (fun k j => impl_MissedSteps.l0 k l (diffL (missP l w) j) (reachL l w) (l.length : Int) (j : Int)) l.length (diffL (missP l w) l.length, (0 : Int)) ?_ ?_
    · exact this
    · intro j hj ih
      refine evs ?_
      have e2 := diffL_len (missP l w) j
      simp (disch := omega) only [impl_MissedSteps.l0, if_pos, e, w64]
      rw [diffL_s] at ih
      by_cases c : rd (reachL l w) (j : Int) = rd l (j : Int)
      · rw [show missP l w j = true from decide_eq_true c, if_pos rfl] at ih
        simp only [if_pos c]; exact ih
      · rw [show missP l w j = false from decide_eq_false c] at ih
        simp only [if_neg c]; exact ih
    · refine evs ?_
      simp (disch := omega) only [impl_MissedSteps.l0, if_neg]
      exact evo rfl
  · simp only [if_neg h]; exact evo rfl

/-! laws_cam -/
theorem e_laws_toCam (l : List Int) (hl : l.length ≤ 1048576) : Ev (fun k => laws_toCam.f k l) l := by
  unfold laws_toCam.f
  simp (disch := omega) only [if_pos]
  have := ev_loop (fun k j => laws_toCam.l0 k l (l.take j ++ List.replicate (l.length - j) 0) (j : Int)) l.length l ?_ ?_
  · simpa using this
  · intro j hj ih
    refine evs ?_
    have e : ((l.take j ++ List.replicate (l.length - j) 0).length : Int) = l.length := by simp; omega
    simp (disch := omega) only [laws_toCam.l0, if_pos, e, w64]
    have e2 : (l.take j ++ List.replicate (l.length - j) 0).set ((j : Int)).toNat (rd l (j : Int)) = l.take (j + 1) ++ List.replicate (l.length - (j + 1)) 0 := by
      have e3 : l.length - j = (l.length - (j + 1)) + 1 := by omega
      rw [e3, List.replicate_succ, Int.toNat_natCast, set_app _ _ _ _ _ (by simp; omega), rd_nat, List.take_succ_eq_append_getElem hj]
      have e4 : l.getD j 0 = l[j] := by simp [List.getD_eq_getElem?_getD, hj]
      rw [e4, List.append_assoc, List.singleton_append]
    rw [e2]
    exact ih
  · refine evs ?_
    simp (disch := omega) only [laws_toCam.l0, if_neg]
    exact evo (by simp)
theorem e_laws_eqCam (l : List Int) (hl : l.length ≤ 1048576) : Ev (fun k => laws_eqCam.f k l l) true := by
  unfold laws_eqCam.f
  simp only [if_true]
  have := ev_loop (fun k j => laws_eqCam.l0 k l l (j : Int)) l.length true ?_ ?_
  · exact this
  · intro j hj ih
    refine evs ?_
    simp (disch := omega) only [laws_eqCam.l0, if_pos, if_true, w64]
    exact ih
  · refine evs ?_
    simp (disch := omega) only [laws_eqCam.l0, if_neg]
    exact evo rfl

/-! marked -/
def marked (m : Int) (n : Nat) : List Int := (List.range n).map fun j : Nat => IntKind.i16.wrap (m + j)
theorem marked_len (m : Int) (n : Nat) : (marked m n).length = n := by simp [marked]

/-! laws_markonly -/
theorem e_laws_markCam (l : List Int) (hl : l.length ≤ 1048576) (m : Int) (h0 : 0 ≤ m) (h1 : m ≤ 1000000000) : Ev (fun k => laws_markCam.f k l m) (m + l.length, marked m l.length) := by
  unfold laws_markCam.f
  have := ev_loop (fun k j => laws_markCam.l0 k (marked m j ++ l.drop j) (m + j) (j : Int)) l.length (m + l.length, marked m l.length) ?_ ?_
  · simpa [marked] using this
  · intro j hj ih
    refine evs ?_
    have e : ((marked m j ++ l.drop j).length : Int) = l.length := by simp [marked_len]; omega
    have e2 : (marked m j ++ l.drop j).set ((j : Int)).toNat (IntKind.i16.wrap (m + j)) = marked m (j + 1) ++ l.drop (j + 1) := by
      rw [Int.toNat_natCast, List.drop_eq_getElem_cons hj, set_app _ _ _ _ _ (marked_len _ _)]
      unfold marked; rw [map_snoc]; simp
    simp (disch := omega) only [laws_markCam.l0, if_pos, e, w64]
    rw [e2, show m + (j : Int) + 1 = m + ((j + 1 : Nat) : Int) by omega]
    exact ih
  · refine evs ?_
    have e : ((marked m l.length ++ l.drop l.length).length : Int) = l.length := by simp [marked_len]
    simp (disch := omega) only [laws_markCam.l0, if_neg, e]
    exact evo (by simp)

/-! laws_eq64 -/
theorem e_laws_eqInt64S (l : List Int) (hl : l.length ≤ 1048576) : Ev (fun k => laws_eqInt64S.f k l l) true := by
  unfold laws_eqInt64S.f
  simp only [if_true]
  have := ev_loop (fun k j => laws_eqInt64S.l0 k l l (j : Int)) l.length true ?_ ?_
  · exact this
  · intro j hj ih
    refine evs ?_
    simp (disch := omega) only [laws_eqInt64S.l0, if_pos, if_true, w64]
    exact ih
  · refine evs ?_
    simp (disch := omega) only [laws_eqInt64S.l0, if_neg]
    exact evo rfl

/-! marked64 -/
def markd64 (m : Int) (n : Nat) : List Int := (List.range n).map fun j : Nat => (m + j)
theorem markd64_len (m : Int) (n : Nat) : (markd64 m n).length = n := by simp [markd64]

/-! laws_markonly64 -/
theorem e_laws_markInt64S (l : List Int) (hl : l.length ≤ 1048576) (m : Int) (h0 : 0 ≤ m) (h1 : m ≤ 1000000000) : Ev (fun k => laws_markInt64S.f k l m) (m + l.length, markd64 m l.length) := by
  unfold laws_markInt64S.f
  have := ev_loop (fun k j => laws_markInt64S.l0 k (markd64 m j ++ l.drop j) (m + j) (j : Int)) l.length (m + l.length, markd64 m l.length) ?_ ?_
  · simpa [markd64] using this
  · intro j hj ih
    refine evs ?_
    have e : ((markd64 m j ++ l.drop j).length : Int) = l.length := by simp [markd64_len]; omega
    have e2 : (markd64 m j ++ l.drop j).set ((j : Int)).toNat ((m + j)) = markd64 m (j + 1) ++ l.drop (j + 1) := by
      rw [Int.toNat_natCast, List.drop_eq_getElem_cons hj, set_app _ _ _ _ _ (markd64_len _ _)]
      unfold markd64; rw [map_snoc]; simp
    simp (disch := omega) only [laws_markInt64S.l0, if_pos, e, w64]
    rw [e2, show m + (j : Int) + 1 = m + ((j + 1 : Nat) : Int) by omega]
    exact ih
  · refine evs ?_
    have e : ((markd64 m l.length ++ l.drop l.length).length : Int) = l.length := by simp [markd64_len]
    simp (disch := omega) only [laws_markInt64S.l0, if_neg, e]
    exact evo (by simp)

/-! laws_held64 -/
theorem e_laws_heldInt64S (n : Nat) (hl : n ≤ 1048576) (m : Int) (h0 : 0 ≤ m) (h1 : m ≤ 1000000000) : Ev (fun k => laws_heldInt64S.f k (markd64 m n) m) (m + n) := by
  unfold laws_heldInt64S.f
  have e : ((markd64 m n).length : Int) = n := by rw [markd64_len]
  have := ev_loop (fun k j => laws_heldInt64S.l0 k (markd64 m n) (m + j) (j : Int)) n (m + n) ?_ ?_
  · simpa using this
  · intro j hj ih
    refine evs ?_
    have e2 : rd (markd64 m n) (j : Int) = (m + j) := by unfold markd64; rw [rd_map _ _ _ (by omega) (by omega)]; simp
    simp (disch := omega) only [laws_heldInt64S.l0, if_pos, e, e2, if_true, w64]
    rw [show m + (j : Int) + 1 = m + ((j + 1 : Nat) : Int) by omega]
    exact ih
  · refine evs ?_
    simp (disch := omega) only [laws_heldInt64S.l0, if_neg, e]
    exact evo rfl

/-! laws_mark64 -/

set_option maxHeartbeats 4000000 in
theorem FnExactMissedSteps : laws_FnExactMissedSteps.Pure := by
  intro l0 a1 _ _ w0 v1
  have h0 := I16.of_wf w0
  have i1 := wf_i64 v1
  refine ev_rounds ?_
  unfold laws_FnExactMissedSteps.f
  by_cases b0 : (l0.length : Int) > 1048576
  · simp only [if_pos b0]; exact evo rfl
  simp only [if_neg b0]
  have b0 : l0.length ≤ 1048576 := by omega
  have T0 := e_laws_toCam l0 b0
  have Q0 := e_laws_eqCam l0 b0
  have M0 := e_laws_markCam l0 b0
  have A := e_spec_MissedSteps l0 h0 b0 a1
  have B := e_impl_MissedSteps l0 h0 b0 a1
  have hr : (missR l0 a1).1.length ≤ 1048576 := missR_len l0 a1 b0
  revert A B hr
  generalize (missR l0 a1) = RR
  obtain ⟨r, c1⟩ := RR
  intro A B hr
  have QR := e_laws_eqInt64S r hr
  have MR := e_laws_markInt64S r hr
  have HR := e_laws_heldInt64S r.length hr
  repeat (first | exact evo rfl | (with_reducible refine Ev.bind T0 ?_) | (with_reducible refine Ev.bind Q0 ?_) | ((with_reducible refine Ev.bind (M0 _ ?s1 ?s2) ?_); (case s1 => first | omega | (dsimp only; omega)); (case s2 => first | omega | (dsimp only; omega))) | (with_reducible refine Ev.bind A ?_) | (with_reducible refine Ev.bind B ?_) | (with_reducible refine Ev.bind QR ?_) | ((with_reducible refine Ev.bind (MR 1 ?s1 ?s2) ?_); (case s1 => first | omega | (dsimp only; omega)); (case s2 => first | omega | (dsimp only; omega))) | ((with_reducible refine Ev.bind (HR 1 ?s1 ?s2) ?_); (case s1 => first | omega | (dsimp only; omega)); (case s2 => first | omega | (dsimp only; omega))) | ((with_reducible refine ev_pos ?s1 ?_); (case s1 => first | rfl | trivial | omega | (dsimp only; omega))) | ((with_reducible refine ev_neg ?s1 ?_); (case s1 => first | omega | (dsimp only; omega) | (simp; done))) | (refine evs ?_; simp only [laws_FnExactMissedSteps.j0, laws_FnExactMissedSteps.j1, laws_FnExactMissedSteps.j2]))


end Go.Proofs.Ytbobbihbikocbaa.Pure
