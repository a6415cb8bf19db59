/- The pure statement of the law FnExactBlendCams: the program's function and the reference's tell the same of every input, by plain lemmas on numbers, lists and rounds; no further condition. -/
import Derived.Test.YtmklaccobbkebaaXFnExactBlendCamsx4
import Derived.Test.YtmklaccobbkebaaXLib
namespace Go.Proofs.Ytmklaccobbkebaa.Pure
open Go.RowKit Go.Proofs.Ytmklaccobbkebaa.XFnExactBlendCams Go.Proofs.Ytmklaccobbkebaa.XLib Go.Proofs.YtmklaccobbkebaaW.PrintWords Go.Proofs.YtmklaccobbkebaaW.PrintLast Go.Proofs.YtmklaccobbkebaaW.PrintMore
set_option maxRecDepth 100000
set_option linter.unusedVariables false
set_option linter.unusedSimpArgs false
/-! base_spec -/
theorem e_spec_l00In (a b c : Int) : spec_l00In.f a b c = some (decide (b ≤ a ∧ a ≤ c)) := by
  unfold spec_l00In.f
  by_cases h : b ≤ a <;> simp [h]
theorem e_spec_l01Steps (a : Int) : spec_l01Steps.f a = some (decide (8 ≤ a ∧ a ≤ 360)) := by
  unfold spec_l01Steps.f; rw [e_spec_l00In]; rfl
theorem e_spec_l01Lift (a : Int) : spec_l01Lift.f a = some (decide (0 ≤ a ∧ a ≤ 10000)) := by
  unfold spec_l01Lift.f; rw [e_spec_l00In]; rfl
theorem e_spec_l01Ok (l : List Int) (h16 : I16 l) (hl : l.length ≤ 1048576) : Ev (fun k => spec_l01Ok.f k l) (decide (Valid l)) := by
  unfold spec_l01Ok.f
  simp only [e_spec_l01Steps, Option.bind_some]
  by_cases h : 8 ≤ (l.length : Int) ∧ (l.length : Int) ≤ 360
  · simp only [h, and_self, decide_true, if_true]
    have := ev_find (fun k j => spec_l01Ok.l0 k l (j : Int)) (fun j => decide (0 ≤ rd l (j : Int) ∧ rd l (j : Int) ≤ 10000)) l.length true (fun _ => false) ?_ ?_ ?_
    · rw [ff_all] at this
      refine eve this ?_
      apply decide_eq_decide.mpr
      unfold Valid
      constructor
      · intro hh; exact ⟨by omega, by omega, fun j hj => by simpa using hh j hj⟩
      · intro hh j hj; simpa using hh.2.2 j hj
    · intro j r hj hp ih
      refine evs ?_
      have hb := h16.rdb (j : Int)
      simp (disch := omega) only [spec_l01Ok.l0, if_pos, e_spec_l01Lift, Option.bind_some, w64]
      first | exact ih | (rw [hp]; simp only [if_true]; exact ih)
    · intro j hj hp
      refine evs ?_
      have hb := h16.rdb (j : Int)
      simp (disch := omega) only [spec_l01Ok.l0, if_pos, e_spec_l01Lift, Option.bind_some, w64]
      first | exact evo rfl | (rw [hp]; exact evo rfl)
    · refine evs ?_
      simp (disch := omega) only [spec_l01Ok.l0, if_neg]
      exact evo rfl
  · rw [decide_eq_false h]
    simp only [Bool.false_eq_true, if_false]
    exact evo (decide_eq_false (fun hv => h ⟨by have := hv.1; omega, by have := hv.2.1; omega⟩)).symm

/-! spec_two -/
theorem e_spec_l01Two (a b : List Int) (ha : I16 a) (hb : I16 b) (la : a.length ≤ 1048576) (lb : b.length ≤ 1048576) : Ev (fun k => spec_l01Two.f k a b) (if Valid a ∧ Valid b then (if a.length = b.length then 0 else 4) else 1) := by
  unfold spec_l01Two.f
  refine Ev.bind (e_spec_l01Ok a ha la) ?_
  by_cases va : Valid a
  · simp only [va, decide_true, if_true, true_and]
    refine Ev.bind (e_spec_l01Ok b hb lb) (evs ?_)
    by_cases vb : Valid b
    · simp only [spec_l01Two.j0, vb, decide_true, Bool.not_true, Bool.false_eq_true, if_false, if_true]
      by_cases e : a.length = b.length
      · simp only [e, if_true]; exact evo rfl
      · rw [if_neg e]; simp (disch := omega) only [if_neg]; exact evo rfl
    · simp only [spec_l01Two.j0, vb, decide_false, Bool.not_false, if_true, if_false]; exact evo rfl
  · simp only [va, decide_false, Bool.false_eq_true, if_false, false_and]
    refine evs ?_
    simp only [spec_l01Two.j0, if_true]; exact evo rfl

/-! base_impl -/
theorem e_impl_inRange (a b c : Int) : impl_inRange.f a b c = some (decide (b ≤ a ∧ a ≤ c)) := by
  unfold impl_inRange.f
  by_cases h : b ≤ a <;> simp [h]
theorem e_impl_isSteps (a : Int) : impl_isSteps.f a = some (decide (8 ≤ a ∧ a ≤ 360)) := by
  unfold impl_isSteps.f; rw [e_impl_inRange]; rfl
theorem e_impl_isLift (a : Int) : impl_isLift.f a = some (decide (0 ≤ a ∧ a ≤ 10000)) := by
  unfold impl_isLift.f; rw [e_impl_inRange]; rfl
theorem e_impl_Cam_steps (l : List Int) : impl_Cam_steps.f l = some (l.length : Int) := rfl
theorem e_impl_ValidCam (l : List Int) (h16 : I16 l) (hl : l.length ≤ 1048576) : Ev (fun k => impl_ValidCam.f k l) (decide (Valid l)) := by
  unfold impl_ValidCam.f
  simp only [e_impl_Cam_steps, e_impl_isSteps, Option.bind_some]
  by_cases h : 8 ≤ (l.length : Int) ∧ (l.length : Int) ≤ 360
  · simp only [h, and_self, decide_true, if_true]
    unfold slices_ContainsFunc_at_impl_ValidCam_c1.f slices_IndexFunc_at_impl_ValidCam_c1.f
    have := ev_find (fun k j => slices_IndexFunc_at_impl_ValidCam_c1.l0 k l (l.length : Int) (j : Int)) (fun j => decide (0 ≤ rd l (j : Int) ∧ rd l (j : Int) ≤ 10000)) l.length (-1) (fun j => (j : Int)) ?_ ?_ ?_
    · refine Ev.bind (Ev.bind this (evo rfl)) (evo ?_)
      rcases ff_eq (fun j => decide (0 ≤ rd l (j : Int) ∧ rd l (j : Int) ≤ 10000)) (-1 : Int) (fun j => (j : Int)) l.length with ⟨hh, e⟩ | ⟨m, hm, hf, _, e⟩
      · rw [e, decide_eq_true (show Valid l from ⟨by omega, by omega, fun j hj => by simpa using hh j hj⟩)]; rfl
      · rw [e, decide_eq_false (show ¬ Valid l from fun hv => by rw [decide_eq_true (hv.2.2 m hm)] at hf; cases hf)]
        simp
    · intro j r hj hp ih
      refine evs ?_
      have hb := h16.rdb (j : Int)
      simp (disch := omega) only [slices_IndexFunc_at_impl_ValidCam_c1.l0, impl_ValidCam_c1.f, if_pos, e_impl_isLift, Option.bind_some, w64]
      first | exact ih | (rw [hp]; simp only [Bool.not_true, Bool.false_eq_true, if_false]; exact ih)
    · intro j hj hp
      refine evs ?_
      have hb := h16.rdb (j : Int)
      simp (disch := omega) only [slices_IndexFunc_at_impl_ValidCam_c1.l0, impl_ValidCam_c1.f, if_pos, e_impl_isLift, Option.bind_some, w64]
      first | exact evo rfl | (rw [hp]; exact evo rfl)
    · refine evs ?_
      simp (disch := omega) only [slices_IndexFunc_at_impl_ValidCam_c1.l0, if_neg]
      exact evo rfl
  · rw [decide_eq_false h]
    simp only [Bool.false_eq_true, if_false]
    exact evo (decide_eq_false (fun hv => h ⟨by have := hv.1; omega, by have := hv.2.1; omega⟩)).symm

/-! impl_pair -/
theorem e_impl_pairCode (a b : List Int) (ha : I16 a) (hb : I16 b) (la : a.length ≤ 1048576) (lb : b.length ≤ 1048576) : Ev (fun k => impl_pairCode.f k a b) (if Valid a ∧ Valid b then (if a.length = b.length then 0 else 4) else 1) := by
  unfold impl_pairCode.f
  refine Ev.bind (e_impl_ValidCam a ha la) ?_
  by_cases va : Valid a
  · simp only [va, decide_true, if_true, true_and]
    refine Ev.bind (e_impl_ValidCam b hb lb) (evs ?_)
    by_cases vb : Valid b
    · simp only [impl_pairCode.j0, vb, decide_true, Bool.not_true, Bool.false_eq_true, if_false, if_true]
      by_cases e : a.length = b.length
      · simp only [e, if_true]; exact evo rfl
      · rw [if_neg e]; simp (disch := omega) only [if_neg]; exact evo rfl
    · simp only [impl_pairCode.j0, vb, decide_false, Bool.not_false, if_true, if_false]; exact evo rfl
  · simp only [va, decide_false, Bool.false_eq_true, if_false, false_and]
    refine evs ?_
    simp only [impl_pairCode.j0, if_true]; exact evo rfl

/-! spec_made -/
theorem e_spec_l01Made (g : Nat → Int) (n : Nat) (hn : n ≤ 10000000) : Ev (fun k => spec_l01Made.f k ((List.range n).map g)) (made g n) := by
  unfold spec_l01Made.f
  have e : ((List.range n).map g).length = n := by simp
  have := ev_find (fun k j => spec_l01Made.l0 k ((List.range n).map g) ((List.range j).map g) (j : Int)) (fun j => decide (0 ≤ g j ∧ g j ≤ 10000)) n ((List.range n).map g, 0) (fun _ => ([], 3)) ?_ ?_ ?_
  · rw [ff_made] at this; exact this
  · intro j r hj hp ih
    refine evs ?_
    have e1 : ((List.range j).map g).length = j := by simp
    have e2 : rd ((List.range n).map g) (j : Int) = g j := by rw [rd_map _ _ _ (by omega) (by omega)]; simp
    have hp' := of_decide_eq_true hp
    simp (disch := omega) only [spec_l01Made.l0, e, e1, e2, if_pos, e_spec_l01Lift, Option.bind_some, hp', and_self, decide_true, if_true, w64, w16]
    rw [← map_snoc g]
    exact ih
  · intro j hj hp
    refine evs ?_
    have e2 : rd ((List.range n).map g) (j : Int) = g j := by rw [rd_map _ _ _ (by omega) (by omega)]; simp
    simp (disch := omega) only [spec_l01Made.l0, e, e2, if_pos, e_spec_l01Lift, Option.bind_some]
    rw [hp]
    exact evo rfl
  · refine evs ?_
    simp (disch := omega) only [spec_l01Made.l0, e, if_neg]
    exact evo rfl

/-! impl_at -/
theorem e_impl_floorDiv (a n : Int) (h : 0 < n) (ha : -9223372036854775807 ≤ a) (hb : a ≤ 9223372036854775807) : impl_floorDiv.f a n = some (a / n) := by
  unfold impl_floorDiv.f
  have := tdiv_b a h 9223372036854775807 ha hb
  rw [if_neg (by omega), ← floor_tdiv a h]
  by_cases c : Int.tmod a n < 0
  · simp (disch := omega) only [if_pos c, w64]
  · simp (disch := omega) only [if_neg c, w64]
theorem e_impl_mod (a n : Int) (h : 0 < n) (hn : n ≤ 1048576) (ha : -1000000000000 ≤ a) (hb : a ≤ 1000000000000) : impl_mod.f a n = some (a % n) := by
  unfold impl_mod.f
  rw [e_impl_floorDiv a n h (by omega) (by omega)]
  have e := Int.emod_add_mul_ediv a n
  have b := emod_b a h
  simp (disch := omega) only [Option.bind_some, w64, mod_ediv]
theorem e_impl_Cam_at (l : List Int) (h16 : I16 l) (h0 : 0 < l.length) (hl : l.length ≤ 1048576) (a : Int) (ha : -1000000000000 ≤ a) (hb : a ≤ 1000000000000) : impl_Cam_at.f l a = some (atz l a) := by
  unfold impl_Cam_at.f atz
  have hn : (0 : Int) < l.length := by omega
  have c := emod_b a hn
  rw [e_impl_Cam_steps, Option.bind_some, e_impl_mod a _ hn (by omega) ha hb, Option.bind_some, if_pos c.1, if_pos c.2]
  have := h16.rdb (a % (l.length : Int))
  rw [w64 (by omega) (by omega)]

/-! near -/
theorem e_spec_l01Near (a b : Int) (hb : 0 < b) (hb1 : b ≤ 1000000000000000000) (h0 : -4000000000000000000 ≤ a) (h1 : a ≤ 4000000000000000000) : spec_l01Near.f a b = some (near a b) := by
  unfold spec_l01Near.f near
  have b3 := tdiv_b (2 * a + b) (n := 2 * b) (by omega) 9200000000000000000 (by omega) (by omega)
  simp (disch := omega) only [w64]
  rw [if_neg (by omega), ← floor_tdiv _ (show 0 < 2 * b by omega)]
  split <;> rfl
theorem e_impl_nearest (a b : Int) (hb : 0 < b) (hb1 : b ≤ 1000000000000000000) (h0 : -4000000000000000000 ≤ a) (h1 : a ≤ 4000000000000000000) : impl_nearest.f a b = some (near a b) := by
  unfold impl_nearest.f near
  simp (disch := omega) only [w64, e_impl_floorDiv, Option.bind_some]

/-! BlendCams -/
def blendv (a b : List Int) (c i : Int) : Int := near (rd a i * (100 - c) + rd b i * c) 100
def blendR (a b : List Int) (c : Int) : List Int × Int := if Valid a ∧ Valid b then (if a.length = b.length then (if 0 ≤ c ∧ c ≤ 100 then made (fun j => blendv a b c (j : Int)) a.length else ([], 2)) else ([], 4)) else ([], 1)
theorem e_spec_BlendCams (a b : List Int) (ha : I16 a) (hb : I16 b) (la : a.length ≤ 1048576) (lb : b.length ≤ 1048576) (c : Int) : Ev (fun k => spec_BlendCams.f k a b c) (blendR a b c) := by
  unfold spec_BlendCams.f blendR
  refine Ev.bind (e_spec_l01Two a b ha hb la lb) ?_
  by_cases v : Valid a ∧ Valid b
  · rw [if_pos v, if_pos v]
    by_cases e : a.length = b.length
    · rw [if_pos e, if_pos e]
      simp only [if_true, e_spec_l00In, Option.bind_some]
      refine evs ?_
      by_cases hc : 0 ≤ c ∧ c ≤ 100
      · simp only [hc, and_self, decide_true, spec_BlendCams.j0, Bool.not_true, Bool.false_eq_true, if_false, if_true]
        refine evs ?_
        simp only [spec_BlendCams.j1, if_true]
        have := ev_loop (fun k j => spec_BlendCams.l0 k a b c ((List.range j).map fun j : Nat => blendv a b c (j : Int)) (j : Int)) a.length (made (fun j => blendv a b c (j : Int)) a.length) ?_ ?_
        · exact this
        · intro j hj ih
          refine evs ?_
          have e1 : ((List.range j).map fun j : Nat => blendv a b c (j : Int)).length = j := by simp
          have h1 := v.1.rdb (j : Int)
          have h2 := v.2.rdb (j : Int)
          have h3 := mul_b h1.1 h1.2 (show 0 ≤ 100 - c by omega) (show 100 - c ≤ 100 by omega)
          have h4 := mul_b h2.1 h2.2 hc.1 hc.2
          have hl := v.1.2.1
          simp (disch := omega) only [spec_BlendCams.l0, if_pos, e1, w64, e_spec_l01Near, Option.bind_some]
          rw [show near (rd a j * (100 - c) + rd b j * c) 100 = blendv a b c j from rfl, ← map_snoc (fun j : Nat => blendv a b c (j : Int))]
          exact ih
        · refine evs ?_
          have hl := v.1.2.1
          simp (disch := omega) only [spec_BlendCams.l0, if_neg]
          exact Ev.bind (e_spec_l01Made _ _ (by omega)) (evo rfl)
      · simp only [decide_eq_false hc, if_neg hc, spec_BlendCams.j0, Bool.not_false, if_true]
        refine evs ?_
        simp (disch := omega) only [spec_BlendCams.j1, if_neg]; exact evo rfl
    · rw [if_neg e, if_neg e]
      simp (disch := omega) only [if_neg]
      refine evs ?_
      simp only [spec_BlendCams.j0, Bool.false_eq_true, if_false]
      refine evs ?_
      simp (disch := omega) only [spec_BlendCams.j1, if_neg]; exact evo rfl
  · rw [if_neg v, if_neg v]
    simp (disch := omega) only [if_neg]
    refine evs ?_
    simp only [spec_BlendCams.j0, Bool.false_eq_true, if_false]
    refine evs ?_
    simp (disch := omega) only [spec_BlendCams.j1, if_neg]; exact evo rfl
theorem e_impl_BlendCams_c1 (a b : List Int) (ha : I16 a) (hb : I16 b) (va : Valid a) (vb : Valid b) (e : a.length = b.length) (c : Int) (hc : 0 ≤ c ∧ c ≤ 100) (j : Nat) (hj : j < a.length) : impl_BlendCams_c1.f (j : Int) a c b = some (blendv a b c j) := by
  have h1 := va.rdb (j : Int)
  have h2 := vb.rdb (j : Int)
  have h3 := mul_b h1.1 h1.2 (show 0 ≤ 100 - c by omega) (show 100 - c ≤ 100 by omega)
  have h4 := mul_b h2.1 h2.2 hc.1 hc.2
  have hl := va.2.1
  have hl0 := va.1
  unfold impl_BlendCams_c1.f blendv
  simp (disch := omega) only [e_impl_Cam_at _ ha, e_impl_Cam_at _ hb, Option.bind_some, atz_nat, w64, e_impl_nearest]
theorem e_impl_BlendCams (a b : List Int) (ha : I16 a) (hb : I16 b) (la : a.length ≤ 1048576) (lb : b.length ≤ 1048576) (c : Int) : Ev (fun k => impl_BlendCams.f k a b c) (blendR a b c) := by
  unfold impl_BlendCams.f blendR
  refine Ev.bind (e_impl_pairCode a b ha hb la lb) ?_
  by_cases v : Valid a ∧ Valid b
  · rw [if_pos v, if_pos v]
    by_cases e : a.length = b.length
    · rw [if_pos e, if_pos e]
      simp only [if_true, e_impl_Cam_steps, Option.bind_some, e_impl_inRange]
      by_cases hc : 0 ≤ c ∧ c ≤ 100
      · simp only [hc, and_self, decide_true, if_true]
        refine Ev.bind (a := made (fun j => blendv a b c (j : Int)) a.length) ?_ (evo rfl)
        have hl := v.1.2.1
        unfold impl_camOf_at_impl_BlendCams_c1.f
        refine ev_made (fun k out i => impl_camOf_at_impl_BlendCams_c1.l0 k out (a.length : Int) i a c b) (fun _ i => impl_BlendCams_c1.f i a c b) _ a.length _ rfl (by omega) (fun k out i => ?_) (fun j hj => ?_)
        · simp only [impl_camOf_at_impl_BlendCams_c1.l0, e_impl_isLift, Option.bind_some]
        · simp only [e_impl_BlendCams_c1 a b ha hb v.1 v.2 e c hc j hj]; exact Ev.now _
      · simp only [decide_eq_false hc, if_neg hc]; exact evo rfl
    · rw [if_neg e, if_neg e]; exact evo rfl
  · rw [if_neg v, if_neg v]; exact evo rfl
theorem blendR_len (a b : List Int) (c : Int) (la : a.length ≤ 1048576) : (blendR a b c).1.length ≤ 1048576 := by
  unfold blendR
  split
  · split
    · split
      · exact Nat.le_trans (made_len _ _) la
      · exact Nat.zero_le _
    · exact Nat.zero_le _
  · exact Nat.zero_le _

/-! laws_cam -/
theorem e_laws_toCam (l : List Int) (hl : l.length ≤ 1048576) : Ev (fun k => laws_toCam.f k l) l := by
  unfold laws_toCam.f
  simp (disch := omega) only [if_pos]
  have := ev_loop (fun k j => laws_toCam.l0 k l (l.take j ++ List.replicate (l.length - j) 0) (j : Int)) l.length l ?_ ?_
  · simpa using this
  · intro j hj ih
    refine evs ?_
    have e : ((l.take j ++ List.replicate (l.length - j) 0).length : Int) = l.length := by simp; omega
    simp (disch := omega) only [laws_toCam.l0, if_pos, e, w64]
    have e2 : (l.take j ++ List.replicate (l.length - j) 0).set ((j : Int)).toNat (rd l (j : Int)) = l.take (j + 1) ++ List.replicate (l.length - (j + 1)) 0 := by
      have e3 : l.length - j = (l.length - (j + 1)) + 1 := by omega
      rw [e3, List.replicate_succ, Int.toNat_natCast, set_app _ _ _ _ _ (by simp; omega), rd_nat, List.take_succ_eq_append_getElem hj]
      have e4 : l.getD j 0 = l[j] := by simp [List.getD_eq_getElem?_getD, hj]
      rw [e4, List.append_assoc, List.singleton_append]
    rw [e2]
    exact ih
  · refine evs ?_
    simp (disch := omega) only [laws_toCam.l0, if_neg]
    exact evo (by simp)
theorem e_laws_eqCam (l : List Int) (hl : l.length ≤ 1048576) : Ev (fun k => laws_eqCam.f k l l) true := by
  unfold laws_eqCam.f
  simp only [if_true]
  have := ev_loop (fun k j => laws_eqCam.l0 k l l (j : Int)) l.length true ?_ ?_
  · exact this
  · intro j hj ih
    refine evs ?_
    simp (disch := omega) only [laws_eqCam.l0, if_pos, if_true, w64]
    exact ih
  · refine evs ?_
    simp (disch := omega) only [laws_eqCam.l0, if_neg]
    exact evo rfl

/-! laws_mark -/
def marked (m : Int) (n : Nat) : List Int := (List.range n).map fun j : Nat => IntKind.i16.wrap (m + j)
theorem marked_len (m : Int) (n : Nat) : (marked m n).length = n := by simp [marked]
theorem e_laws_markCam (l : List Int) (hl : l.length ≤ 1048576) (m : Int) (h0 : 0 ≤ m) (h1 : m ≤ 1000000000) : Ev (fun k => laws_markCam.f k l m) (m + l.length, marked m l.length) := by
  unfold laws_markCam.f
  have := ev_loop (fun k j => laws_markCam.l0 k (marked m j ++ l.drop j) (m + j) (j : Int)) l.length (m + l.length, marked m l.length) ?_ ?_
  · simpa [marked] using this
  · intro j hj ih
    refine evs ?_
    have e : ((marked m j ++ l.drop j).length : Int) = l.length := by simp [marked_len]; omega
    have e2 : (marked m j ++ l.drop j).set ((j : Int)).toNat (IntKind.i16.wrap (m + j)) = marked m (j + 1) ++ l.drop (j + 1) := by
      rw [Int.toNat_natCast, List.drop_eq_getElem_cons hj, set_app _ _ _ _ _ (marked_len _ _)]
      unfold marked; rw [map_snoc]; simp
    simp (disch := omega) only [laws_markCam.l0, if_pos, e, w64]
    rw [e2, show m + (j : Int) + 1 = m + ((j + 1 : Nat) : Int) by omega]
    exact ih
  · refine evs ?_
    have e : ((marked m l.length ++ l.drop l.length).length : Int) = l.length := by simp [marked_len]
    simp (disch := omega) only [laws_markCam.l0, if_neg, e]
    exact evo (by simp)
theorem e_laws_heldCam (n : Nat) (hl : n ≤ 1048576) (m : Int) (h0 : 0 ≤ m) (h1 : m ≤ 1000000000) : Ev (fun k => laws_heldCam.f k (marked m n) m) (m + n) := by
  unfold laws_heldCam.f
  have e : ((marked m n).length : Int) = n := by rw [marked_len]
  have := ev_loop (fun k j => laws_heldCam.l0 k (marked m n) (m + j) (j : Int)) n (m + n) ?_ ?_
  · simpa using this
  · intro j hj ih
    refine evs ?_
    have e2 : rd (marked m n) (j : Int) = IntKind.i16.wrap (m + j) := by unfold marked; rw [rd_map _ _ _ (by omega) (by omega)]; simp
    simp (disch := omega) only [laws_heldCam.l0, if_pos, e, e2, if_true, w64]
    rw [show m + (j : Int) + 1 = m + ((j + 1 : Nat) : Int) by omega]
    exact ih
  · refine evs ?_
    simp (disch := omega) only [laws_heldCam.l0, if_neg, e]
    exact evo rfl

set_option maxHeartbeats 4000000 in
theorem FnExactBlendCams : laws_FnExactBlendCams.Pure := by
  intro l0 l1 a2 _ _ w0 _ _ w1 v2
  have h0 := I16.of_wf w0
  have h1 := I16.of_wf w1
  have i2 := wf_i64 v2
  refine ev_rounds ?_
  unfold laws_FnExactBlendCams.f
  by_cases b0 : (l0.length : Int) > 1048576
  · simp only [if_pos b0]; exact evo rfl
  simp only [if_neg b0]
  have b0 : l0.length ≤ 1048576 := by omega
  have T0 := e_laws_toCam l0 b0
  have Q0 := e_laws_eqCam l0 b0
  have M0 := e_laws_markCam l0 b0
  by_cases b1 : (l1.length : Int) > 1048576
  · simp only [if_pos b1]; exact evo rfl
  simp only [if_neg b1]
  have b1 : l1.length ≤ 1048576 := by omega
  have T1 := e_laws_toCam l1 b1
  have Q1 := e_laws_eqCam l1 b1
  have M1 := e_laws_markCam l1 b1
  have A := e_spec_BlendCams l0 l1 h0 h1 b0 b1 a2
  have B := e_impl_BlendCams l0 l1 h0 h1 b0 b1 a2
  have hr : (blendR l0 l1 a2).1.length ≤ 1048576 := blendR_len l0 l1 a2 b0
  revert A B hr
  generalize (blendR l0 l1 a2) = RR
  obtain ⟨r, c1⟩ := RR
  intro A B hr
  have QR := e_laws_eqCam r hr
  have MR := e_laws_markCam r hr
  have HR := e_laws_heldCam r.length hr
  repeat (first | exact evo rfl | (with_reducible refine Ev.bind T0 ?_) | (with_reducible refine Ev.bind Q0 ?_) | ((with_reducible refine Ev.bind (M0 _ ?s1 ?s2) ?_); (case s1 => first | omega | (dsimp only; omega)); (case s2 => first | omega | (dsimp only; omega))) | (with_reducible refine Ev.bind T1 ?_) | (with_reducible refine Ev.bind Q1 ?_) | ((with_reducible refine Ev.bind (M1 _ ?s1 ?s2) ?_); (case s1 => first | omega | (dsimp only; omega)); (case s2 => first | omega | (dsimp only; omega))) | (with_reducible refine Ev.bind A ?_) | (with_reducible refine Ev.bind B ?_) | (with_reducible refine Ev.bind QR ?_) | ((with_reducible refine Ev.bind (MR 1 ?s1 ?s2) ?_); (case s1 => first | omega | (dsimp only; omega)); (case s2 => first | omega | (dsimp only; omega))) | ((with_reducible refine Ev.bind (HR 1 ?s1 ?s2) ?_); (case s1 => first | omega | (dsimp only; omega)); (case s2 => first | omega | (dsimp only; omega))) | ((with_reducible refine ev_pos ?s1 ?_); (case s1 => first | rfl | omega | (dsimp only; omega))) | ((with_reducible refine ev_neg ?s1 ?_); (case s1 => first | omega | (dsimp only; omega) | (simp; done))) | (refine evs ?_; simp only [laws_FnExactBlendCams.j0, laws_FnExactBlendCams.j1, laws_FnExactBlendCams.j2]))


end Go.Proofs.Ytmklaccobbkebaa.Pure
