/- The pure statement of the law FnExactRefineCam: the program's function and the reference's tell the same of every input, by plain lemmas on numbers, lists and rounds; no further condition. -/
import Derived.Test.YtkblhdmolfbfcaaXFnExactRefineCamx4
import Derived.Test.YtkblhdmolfbfcaaXLib
namespace Go.Proofs.Ytkblhdmolfbfcaa.Pure
open Go.RowKit Go.Proofs.Ytkblhdmolfbfcaa.XFnExactRefineCam Go.Proofs.Ytkblhdmolfbfcaa.XLib Go.Proofs.YtkblhdmolfbfcaaW.PrintWords Go.Proofs.YtkblhdmolfbfcaaW.PrintLast Go.Proofs.YtkblhdmolfbfcaaW.PrintMore
set_option maxRecDepth 100000
set_option linter.unusedVariables false
set_option linter.unusedSimpArgs false
/-! base_spec -/
theorem e_spec_l00In (a b c : Int) : spec_l00In.f a b c = some (decide (b ≤ a ∧ a ≤ c)) := by
  unfold spec_l00In.f
  by_cases h : b ≤ a <;> simp [h]
theorem e_spec_l01Steps (a : Int) : spec_l01Steps.f a = some (decide (8 ≤ a ∧ a ≤ 360)) := by
  unfold spec_l01Steps.f; rw [e_spec_l00In]; rfl
theorem e_spec_l01Lift (a : Int) : spec_l01Lift.f a = some (decide (0 ≤ a ∧ a ≤ 10000)) := by
  unfold spec_l01Lift.f; rw [e_spec_l00In]; rfl
theorem e_spec_l01Ok (l : List Int) (h16 : I16 l) (hl : l.length ≤ 1048576) : Ev (fun k => spec_l01Ok.f k l) (decide (Valid l)) := by
  unfold spec_l01Ok.f
  simp only [e_spec_l01Steps, Option.bind_some]
  by_cases h : 8 ≤ (l.length : Int) ∧ (l.length : Int) ≤ 360
  · simp only [h, and_self, decide_true, if_true]
    have := ev_find (fun k j => spec_l01Ok.l0 k l (j : Int)) (fun j => decide (0 ≤ rd l (j : Int) ∧ rd l (j : Int) ≤ 10000)) l.length true (fun _ => false) ?_ ?_ ?_
    · rw [ff_all] at this
      refine eve this ?_
      apply decide_eq_decide.mpr
      unfold Valid
      constructor
      · intro hh; exact ⟨by omega, by omega, fun j hj => by simpa using hh j hj⟩
      · intro hh j hj; simpa using hh.2.2 j hj
    · intro j r hj hp ih
      refine evs ?_
      have hb := h16.rdb (j : Int)
      simp (disch := omega) only [spec_l01Ok.l0, if_pos, e_spec_l01Lift, Option.bind_some, w64]
      first | exact ih | (rw [hp]; simp only [if_true]; exact ih)
    · intro j hj hp
      refine evs ?_
      have hb := h16.rdb (j : Int)
      simp (disch := omega) only [spec_l01Ok.l0, if_pos, e_spec_l01Lift, Option.bind_some, w64]
      first | exact evo rfl | (rw [hp]; exact evo rfl)
    · refine evs ?_
      simp (disch := omega) only [spec_l01Ok.l0, if_neg]
      exact evo rfl
  · rw [decide_eq_false h]
    simp only [Bool.false_eq_true, if_false]
    exact evo (decide_eq_false (fun hv => h ⟨by have := hv.1; omega, by have := hv.2.1; omega⟩)).symm

/-! spec_at -/
theorem e_spec_l01At (l : List Int) (h16 : I16 l) (h0 : 0 < l.length) (hl : l.length ≤ 1048576) (a : Int) (ha : -1000000000000 ≤ a) (hb : a ≤ 1000000000000) : spec_l01At.f l a = some (atz l a) := by
  unfold spec_l01At.f atz
  have hn : (0 : Int) < l.length := by omega
  have b := tmod_b a hn
  rw [if_neg (by omega), w64 (by omega) (by omega), two_mods a hn]
  have c := emod_b a hn
  rw [if_pos c.1, if_pos c.2]
  have := h16.rdb (a % (l.length : Int))
  rw [w64 (by omega) (by omega)]

/-! base_impl -/
theorem e_impl_inRange (a b c : Int) : impl_inRange.f a b c = some (decide (b ≤ a ∧ a ≤ c)) := by
  unfold impl_inRange.f
  by_cases h : b ≤ a <;> simp [h]
theorem e_impl_isSteps (a : Int) : impl_isSteps.f a = some (decide (8 ≤ a ∧ a ≤ 360)) := by
  unfold impl_isSteps.f; rw [e_impl_inRange]; rfl
theorem e_impl_isLift (a : Int) : impl_isLift.f a = some (decide (0 ≤ a ∧ a ≤ 10000)) := by
  unfold impl_isLift.f; rw [e_impl_inRange]; rfl
theorem e_impl_Cam_steps (l : List Int) : impl_Cam_steps.f l = some (l.length : Int) := rfl
theorem e_impl_ValidCam (l : List Int) (h16 : I16 l) (hl : l.length ≤ 1048576) : Ev (fun k => impl_ValidCam.f k l) (decide (Valid l)) := by
  unfold impl_ValidCam.f
  simp only [e_impl_Cam_steps, e_impl_isSteps, Option.bind_some]
  by_cases h : 8 ≤ (l.length : Int) ∧ (l.length : Int) ≤ 360
  · simp only [h, and_self, decide_true, if_true]
    unfold slices_ContainsFunc_at_impl_ValidCam_c1.f slices_IndexFunc_at_impl_ValidCam_c1.f
    have := ev_find (fun k j => slices_IndexFunc_at_impl_ValidCam_c1.l0 k l (l.length : Int) (j : Int)) (fun j => decide (0 ≤ rd l (j : Int) ∧ rd l (j : Int) ≤ 10000)) l.length (-1) (fun j => (j : Int)) ?_ ?_ ?_
    · refine Ev.bind (Ev.bind this (evo rfl)) (evo ?_)
      rcases ff_eq (fun j => decide (0 ≤ rd l (j : Int) ∧ rd l (j : Int) ≤ 10000)) (-1 : Int) (fun j => (j : Int)) l.length with ⟨hh, e⟩ | ⟨m, hm, hf, _, e⟩
      · rw [e, decide_eq_true (show Valid l from ⟨by omega, by omega, fun j hj => by simpa using hh j hj⟩)]; rfl
      · rw [e, decide_eq_false (show ¬ Valid l from fun hv => by rw [decide_eq_true (hv.2.2 m hm)] at hf; cases hf)]
        simp
    · intro j r hj hp ih
      refine evs ?_
      have hb := h16.rdb (j : Int)
      simp (disch := omega) only [slices_IndexFunc_at_impl_ValidCam_c1.l0, impl_ValidCam_c1.f, if_pos, e_impl_isLift, Option.bind_some, w64]
      first | exact ih | (rw [hp]; simp only [Bool.not_true, Bool.false_eq_true, if_false]; exact ih)
    · intro j hj hp
      refine evs ?_
      have hb := h16.rdb (j : Int)
      simp (disch := omega) only [slices_IndexFunc_at_impl_ValidCam_c1.l0, impl_ValidCam_c1.f, if_pos, e_impl_isLift, Option.bind_some, w64]
      first | exact evo rfl | (rw [hp]; exact evo rfl)
    · refine evs ?_
      simp (disch := omega) only [slices_IndexFunc_at_impl_ValidCam_c1.l0, if_neg]
      exact evo rfl
  · rw [decide_eq_false h]
    simp only [Bool.false_eq_true, if_false]
    exact evo (decide_eq_false (fun hv => h ⟨by have := hv.1; omega, by have := hv.2.1; omega⟩)).symm

/-! impl_at -/
theorem e_impl_floorDiv (a n : Int) (h : 0 < n) (ha : -1000000000000000000 ≤ a) (hb : a ≤ 1000000000000000000) : impl_floorDiv.f a n = some (a / n) := by
  unfold impl_floorDiv.f
  have := tdiv_b a h 1000000000000000000 ha hb
  rw [if_neg (by omega), ← floor_tdiv a h]
  by_cases c : Int.tmod a n < 0
  · simp (disch := omega) only [if_pos c, w64]
  · simp (disch := omega) only [if_neg c, w64]
theorem e_impl_mod (a n : Int) (h : 0 < n) (hn : n ≤ 1048576) (ha : -1000000000000 ≤ a) (hb : a ≤ 1000000000000) : impl_mod.f a n = some (a % n) := by
  unfold impl_mod.f
  rw [e_impl_floorDiv a n h (by omega) (by omega)]
  have e := Int.emod_add_mul_ediv a n
  have b := emod_b a h
  simp (disch := omega) only [Option.bind_some, w64, mod_ediv]
theorem e_impl_Cam_at (l : List Int) (h16 : I16 l) (h0 : 0 < l.length) (hl : l.length ≤ 1048576) (a : Int) (ha : -1000000000000 ≤ a) (hb : a ≤ 1000000000000) : impl_Cam_at.f l a = some (atz l a) := by
  unfold impl_Cam_at.f atz
  have hn : (0 : Int) < l.length := by omega
  have c := emod_b a hn
  rw [e_impl_Cam_steps, Option.bind_some, e_impl_mod a _ hn (by omega) ha hb, Option.bind_some, if_pos c.1, if_pos c.2]
  have := h16.rdb (a % (l.length : Int))
  rw [w64 (by omega) (by omega)]

/-! near -/
theorem e_spec_l01Near (a b : Int) (hb : 0 < b) (hb1 : b ≤ 1000000000000000000) (h0 : -1000000000000000000 ≤ a) (h1 : a ≤ 1000000000000000000) : spec_l01Near.f a b = some (near a b) := by
  unfold spec_l01Near.f near
  have b3 := tdiv_b (2 * a + b) (n := 2 * b) (by omega) 4000000000000000000 (by omega) (by omega)
  simp (disch := omega) only [w64]
  rw [if_neg (by omega), ← floor_tdiv _ (show 0 < 2 * b by omega)]
  split <;> rfl
theorem e_impl_nearest (a b : Int) (hb : 0 < b) (hb1 : b ≤ 100000000000000000) (h0 : -100000000000000000 ≤ a) (h1 : a ≤ 100000000000000000) : impl_nearest.f a b = some (near a b) := by
  unfold impl_nearest.f near
  simp (disch := omega) only [w64, e_impl_floorDiv, Option.bind_some]

/-! made_ok -/
theorem made_ok (g : Nat → Int) (n : Nat) (h : ∀ j, j < n → 0 ≤ g j ∧ g j ≤ 10000) : made g n = ((List.range n).map g, 0) := by
  unfold made; rw [if_pos h]

/-! RefineCam -/
theorem e_spec_l01Times (a : Int) : spec_l01Times.f a = some (decide (1 ≤ a ∧ a ≤ 45)) := by
  unfold spec_l01Times.f; rw [e_spec_l00In]; rfl
def refv (l : List Int) (t s : Int) : Int := near (atz l (s / t) * t + (atz l (s / t + 1) - atz l (s / t)) * (s % t)) t
theorem refv_b (l : List Int) (hv : Valid l) (t s : Int) (ht : 0 < t) : 0 ≤ refv l t s ∧ refv l t s ≤ 10000 := by
  have a := hv.atzb (s / t)
  have b := hv.atzb (s / t + 1)
  have c := emod_b s ht
  have d := between_b (t := t) a.1 a.2 b.1 b.2 c.1 (by omega)
  exact near_b ht d.1 d.2
def refR (l : List Int) (t : Int) : List Int × Int := if Valid l then (if 1 ≤ t ∧ t ≤ 45 then (if 8 ≤ (l.length : Int) * t ∧ (l.length : Int) * t ≤ 360 then ((List.range (l.length * t.toNat)).map fun s : Nat => refv l t s, 0) else ([], 3)) else ([], 2)) else ([], 1)
theorem e_spec_RefineCam (l : List Int) (h16 : I16 l) (hl : l.length ≤ 1048576) (a : Int) : Ev (fun k => spec_RefineCam.f k l a) (refR l a) := by
  unfold spec_RefineCam.f refR
  refine Ev.bind (e_spec_l01Ok l h16 hl) ?_
  by_cases hv : Valid l
  · simp only [hv, decide_true, if_true, e_spec_l01Times, Option.bind_some]
    by_cases ha : 1 ≤ a ∧ a ≤ 45
    · simp only [ha, and_self, decide_true, if_true, e_spec_l01Steps, Option.bind_some]
      have hn := hv.1
      have hn2 := hv.2.1
      have hm := mul_b (A := 45) (B := 360) (show 0 ≤ a by omega) ha.2 (show (0 : Int) ≤ l.length by omega) (by omega)
      rw [w64 (by omega) (by omega), Int.mul_comm a]
      by_cases hs : 8 ≤ (l.length : Int) * a ∧ (l.length : Int) * a ≤ 360
      · simp only [hs, and_self, decide_true, if_true]
        obtain ⟨t, rfl⟩ := Int.eq_ofNat_of_zero_le (show 0 ≤ a by omega)
        rw [Int.toNat_natCast]
        have hs2 : l.length * t ≤ 360 := by exact_mod_cast hs.2
        have := ev_loop (fun k i => spec_RefineCam.l0 k l t ((List.range (i * t)).map fun s : Nat => refv l t s) (i : Int)) l.length ((List.range (l.length * t)).map fun s : Nat => refv l t s, 0) ?_ ?_
        · simpa using this
        · intro i hi ih
          refine evs ?_
          simp (disch := omega) only [spec_RefineCam.l0, if_pos, w64, e_spec_l01At l h16, Option.bind_some]
          have := ev_loop (fun k j => spec_RefineCam.l1 k l t ((List.range (i * t + j)).map fun s : Nat => refv l t s) (i : Int) (atz l i) (atz l ((i : Int) + 1)) (j : Int)) t ((List.range (l.length * t)).map fun s : Nat => refv l t s, 0) ?_ ?_
          · exact this
          · intro j hj ih2
            refine evs ?_
            have b1 := hv.atzb (i : Int)
            have b2 := hv.atzb ((i : Int) + 1)
            have b3 := sub_mul_b (K := 45) b1.1 b1.2 b2.1 b2.2 (show (0 : Int) ≤ j by omega) (by omega)
            have e : (((i * t + j : Nat) : Int)) = (j : Int) + (i : Int) * t := by push_cast; omega
            have e1 : (((i * t + j : Nat) : Int)) / (t : Int) = i := by
              rw [e, Int.add_mul_ediv_right _ _ (by omega), Int.ediv_eq_zero_of_lt (by omega) (by omega)]; omega
            have e2 : (((i * t + j : Nat) : Int)) % (t : Int) = j := by
              rw [e, Int.add_mul_emod_self_right, Int.emod_eq_of_lt (by omega) (by omega)]
            have e3 : refv l t ((i * t + j : Nat) : Int) = atz l i + near ((atz l ((i : Int) + 1) - atz l i) * j) t := by
              unfold refv; rw [e1, e2, near_add _ _ (by omega)]
            have b4 := refv_b l hv t ((i * t + j : Nat) : Int) (by omega)
            rw [e3] at b4
            have e5 : ((List.range (i * t + j)).map fun s : Nat => refv l t s).length = i * t + j := by simp
            have e6 : i * t ≤ 360 * 45 := Nat.mul_le_mul (by omega) (by omega)
            simp (disch := omega) only [spec_RefineCam.l1, if_pos, w64, e_spec_l01Near, Option.bind_some, e5]
            rw [w16 (by omega) (by omega), ← e3, ← map_snoc (fun s : Nat => refv l t s)]
            exact ih2
          · refine evs ?_
            simp (disch := omega) only [spec_RefineCam.l1, if_neg, w64]
            rw [show i * t + t = (i + 1) * t by rw [Nat.add_mul]; omega]
            exact ih
        · refine evs ?_
          simp (disch := omega) only [spec_RefineCam.l0, if_neg]
          exact evo rfl
      · simp only [decide_eq_false hs, if_neg hs]; exact evo rfl
    · simp only [decide_eq_false ha, if_neg ha]; exact evo rfl
  · simp only [hv, decide_false, if_false]; exact evo rfl
theorem e_impl_RefineCam_c1 (l : List Int) (h16 : I16 l) (hv : Valid l) (t : Int) (ht : 1 ≤ t ∧ t ≤ 45) (j : Int) (h0 : 0 ≤ j) (h1 : j ≤ 100000) : impl_RefineCam_c1.f j t l = some (refv l t j) := by
  have hn := hv.1
  have hn2 := hv.2.1
  have b1 := hv.atzb (j / t)
  have b2 := hv.atzb (j / t + 1)
  have b0 := emod_b j (show 0 < t by omega)
  have b3 := sub_mul_b (K := 45) b1.1 b1.2 b2.1 b2.2 b0.1 (by omega)
  have b5 := mul_b (B := 45) b1.1 b1.2 (show (0 : Int) ≤ t by omega) (by omega)
  have b6 := ediv_b j (show 0 < t by omega) 100000 (by omega) (by omega)
  unfold impl_RefineCam_c1.f refv
  rw [if_neg (by omega)]
  simp only [tdiv_pos h0, tmod_pos h0]
  simp (disch := omega) only [w64, e_impl_Cam_at l h16, Option.bind_some, e_impl_nearest]
theorem e_impl_RefineCam (l : List Int) (h16 : I16 l) (hl : l.length ≤ 1048576) (a : Int) : Ev (fun k => impl_RefineCam.f k l a) (refR l a) := by
  unfold impl_RefineCam.f refR
  refine Ev.bind (e_impl_ValidCam l h16 hl) ?_
  by_cases hv : Valid l
  · simp only [hv, decide_true, if_true, e_impl_inRange, Option.bind_some]
    by_cases ha : 1 ≤ a ∧ a ≤ 45
    · simp only [ha, and_self, decide_true, if_true, e_impl_isSteps, e_impl_Cam_steps, Option.bind_some]
      have hn := hv.1
      have hn2 := hv.2.1
      have hm := mul_b (A := 45) (B := 360) (show 0 ≤ a by omega) ha.2 (show (0 : Int) ≤ l.length by omega) (by omega)
      rw [Int.mul_comm a] at hm
      rw [w64 (by omega) (by omega)]
      by_cases hs : 8 ≤ (l.length : Int) * a ∧ (l.length : Int) * a ≤ 360
      · simp only [hs, and_self, decide_true, if_true]
        obtain ⟨t, rfl⟩ := Int.eq_ofNat_of_zero_le (show 0 ≤ a by omega)
        rw [Int.toNat_natCast]
        have hs2 : l.length * t ≤ 360 := by exact_mod_cast hs.2
        have em : made (fun s : Nat => refv l t s) (l.length * t) = ((List.range (l.length * t)).map fun s : Nat => refv l t s, 0) := made_ok _ _ (fun j _ => refv_b l hv t j (by omega))
        rw [← em]
        refine Ev.bind (a := made (fun s : Nat => refv l t s) (l.length * t)) ?_ (evo rfl)
        unfold impl_camOf_at_impl_RefineCam_c1.f
        refine ev_made (fun k out i => impl_camOf_at_impl_RefineCam_c1.l0 k out ((l.length : Int) * t) i t l) (fun _ i => impl_RefineCam_c1.f i t l) _ (l.length * t) _ (by push_cast; rfl) (by omega) (fun k out i => ?_) (fun j hj => ?_)
        · simp only [impl_camOf_at_impl_RefineCam_c1.l0, e_impl_isLift, Option.bind_some]
        · simp only [e_impl_RefineCam_c1 l h16 hv _ ha (j : Int) (by omega) (by omega)]; exact Ev.now _
      · simp only [decide_eq_false hs, if_neg hs]; exact evo rfl
    · simp only [decide_eq_false ha, if_neg ha]; exact evo rfl
  · simp only [hv, decide_false, if_false]; exact evo rfl
theorem refR_len (l : List Int) (a : Int) : (refR l a).1.length ≤ 1048576 := by
  unfold refR
  split
  · split
    · rename_i h
      split
      · rename_i q
        obtain ⟨t, rfl⟩ := Int.eq_ofNat_of_zero_le (show 0 ≤ a by omega)
        have hs2 : l.length * t ≤ 360 := by exact_mod_cast q.2
        rw [List.length_map, List.length_range, Int.toNat_natCast]
        omega
      · exact Nat.zero_le _
    · exact Nat.zero_le _
  · exact Nat.zero_le _

/-! laws_cam -/
theorem e_laws_toCam (l : List Int) (hl : l.length ≤ 1048576) : Ev (fun k => laws_toCam.f k l) l := by
  unfold laws_toCam.f
  simp (disch := omega) only [if_pos]
  have := ev_loop (fun k j => laws_toCam.l0 k l (l.take j ++ List.replicate (l.length - j) 0) (j : Int)) l.length l ?_ ?_
  · simpa using this
  · intro j hj ih
    refine evs ?_
    have e : ((l.take j ++ List.replicate (l.length - j) 0).length : Int) = l.length := by simp; omega
    simp (disch := omega) only [laws_toCam.l0, if_pos, e, w64]
    have e2 : (l.take j ++ List.replicate (l.length - j) 0).set ((j : Int)).toNat (rd l (j : Int)) = l.take (j + 1) ++ List.replicate (l.length - (j + 1)) 0 := by
      have e3 : l.length - j = (l.length - (j + 1)) + 1 := by omega
      rw [e3, List.replicate_succ, Int.toNat_natCast, set_app _ _ _ _ _ (by simp; omega), rd_nat, List.take_succ_eq_append_getElem hj]
      have e4 : l.getD j 0 = l[j] := by simp [List.getD_eq_getElem?_getD, hj]
      rw [e4, List.append_assoc, List.singleton_append]
    rw [e2]
    exact ih
  · refine evs ?_
    simp (disch := omega) only [laws_toCam.l0, if_neg]
    exact evo (by simp)
theorem e_laws_eqCam (l : List Int) (hl : l.length ≤ 1048576) : Ev (fun k => laws_eqCam.f k l l) true := by
  unfold laws_eqCam.f
  simp only [if_true]
  have := ev_loop (fun k j => laws_eqCam.l0 k l l (j : Int)) l.length true ?_ ?_
  · exact this
  · intro j hj ih
    refine evs ?_
    simp (disch := omega) only [laws_eqCam.l0, if_pos, if_true, w64]
    exact ih
  · refine evs ?_
    simp (disch := omega) only [laws_eqCam.l0, if_neg]
    exact evo rfl

/-! laws_mark -/
def marked (m : Int) (n : Nat) : List Int := (List.range n).map fun j : Nat => IntKind.i16.wrap (m + j)
theorem marked_len (m : Int) (n : Nat) : (marked m n).length = n := by simp [marked]
theorem e_laws_markCam (l : List Int) (hl : l.length ≤ 1048576) (m : Int) (h0 : 0 ≤ m) (h1 : m ≤ 1000000000) : Ev (fun k => laws_markCam.f k l m) (m + l.length, marked m l.length) := by
  unfold laws_markCam.f
  have := ev_loop (fun k j => laws_markCam.l0 k (marked m j ++ l.drop j) (m + j) (j : Int)) l.length (m + l.length, marked m l.length) ?_ ?_
  · simpa [marked] using this
  · intro j hj ih
    refine evs ?_
    have e : ((marked m j ++ l.drop j).length : Int) = l.length := by simp [marked_len]; omega
    have e2 : (marked m j ++ l.drop j).set ((j : Int)).toNat (IntKind.i16.wrap (m + j)) = marked m (j + 1) ++ l.drop (j + 1) := by
      rw [Int.toNat_natCast, List.drop_eq_getElem_cons hj, set_app _ _ _ _ _ (marked_len _ _)]
      unfold marked; rw [map_snoc]; simp
    simp (disch := omega) only [laws_markCam.l0, if_pos, e, w64]
    rw [e2, show m + (j : Int) + 1 = m + ((j + 1 : Nat) : Int) by omega]
    exact ih
  · refine evs ?_
    have e : ((marked m l.length ++ l.drop l.length).length : Int) = l.length := by simp [marked_len]
    simp (disch := omega) only [laws_markCam.l0, if_neg, e]
    exact evo (by simp)
theorem e_laws_heldCam (n : Nat) (hl : n ≤ 1048576) (m : Int) (h0 : 0 ≤ m) (h1 : m ≤ 1000000000) : Ev (fun k => laws_heldCam.f k (marked m n) m) (m + n) := by
  unfold laws_heldCam.f
  have e : ((marked m n).length : Int) = n := by rw [marked_len]
  have := ev_loop (fun k j => laws_heldCam.l0 k (marked m n) (m + j) (j : Int)) n (m + n) ?_ ?_
  · simpa using this
  · intro j hj ih
    refine evs ?_
    have e2 : rd (marked m n) (j : Int) = IntKind.i16.wrap (m + j) := by unfold marked; rw [rd_map _ _ _ (by omega) (by omega)]; simp
    simp (disch := omega) only [laws_heldCam.l0, if_pos, e, e2, if_true, w64]
    rw [show m + (j : Int) + 1 = m + ((j + 1 : Nat) : Int) by omega]
    exact ih
  · refine evs ?_
    simp (disch := omega) only [laws_heldCam.l0, if_neg, e]
    exact evo rfl

set_option maxHeartbeats 4000000 in
theorem FnExactRefineCam : laws_FnExactRefineCam.Pure := by
  intro l0 a1 _ _ w0 v1
  have h0 := I16.of_wf w0
  have i1 := wf_i64 v1
  refine ev_rounds ?_
  unfold laws_FnExactRefineCam.f
  by_cases b0 : (l0.length : Int) > 1048576
  · simp only [if_pos b0]; exact evo rfl
  simp only [if_neg b0]
  have b0 : l0.length ≤ 1048576 := by omega
  have T0 := e_laws_toCam l0 b0
  have Q0 := e_laws_eqCam l0 b0
  have M0 := e_laws_markCam l0 b0
  have A := e_spec_RefineCam l0 h0 b0 a1
  have B := e_impl_RefineCam l0 h0 b0 a1
  have hr : (refR l0 a1).1.length ≤ 1048576 := refR_len l0 a1
  revert A B hr
  generalize (refR l0 a1) = RR
  obtain ⟨r, c1⟩ := RR
  intro A B hr
  have QR := e_laws_eqCam r hr
  have MR := e_laws_markCam r hr
  have HR := e_laws_heldCam r.length hr
  repeat (first | exact evo rfl | (with_reducible refine Ev.bind T0 ?_) | (with_reducible refine Ev.bind Q0 ?_) | ((with_reducible refine Ev.bind (M0 _ ?s1 ?s2) ?_); (case s1 => first | omega | (dsimp only; omega)); (case s2 => first | omega | (dsimp only; omega))) | (with_reducible refine Ev.bind A ?_) | (with_reducible refine Ev.bind B ?_) | (with_reducible refine Ev.bind QR ?_) | ((with_reducible refine Ev.bind (MR 1 ?s1 ?s2) ?_); (case s1 => first | omega | (dsimp only; omega)); (case s2 => first | omega | (dsimp only; omega))) | ((with_reducible refine Ev.bind (HR 1 ?s1 ?s2) ?_); (case s1 => first | omega | (dsimp only; omega)); (case s2 => first | omega | (dsimp only; omega))) | ((with_reducible refine ev_pos ?s1 ?_); (case s1 => first | rfl | omega | (dsimp only; omega))) | ((with_reducible refine ev_neg ?s1 ?_); (case s1 => first | omega | (dsimp only; omega) | (simp; done))) | (refine evs ?_; simp only [laws_FnExactRefineCam.j0, laws_FnExactRefineCam.j1, laws_FnExactRefineCam.j2]))


end Go.Proofs.Ytkblhdmolfbfcaa.Pure
