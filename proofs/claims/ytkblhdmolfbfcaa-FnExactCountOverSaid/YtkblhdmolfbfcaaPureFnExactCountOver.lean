/- The pure statement of the law FnExactCountOver: the program's function and the reference's tell the same of every input, by plain lemmas on numbers, lists and rounds; no further condition. -/
import Derived.Test.YtkblhdmolfbfcaaXFnExactCountOverx3
import Derived.Test.YtkblhdmolfbfcaaXLib
namespace Go.Proofs.Ytkblhdmolfbfcaa.Pure
open Go.RowKit Go.Proofs.Ytkblhdmolfbfcaa.XFnExactCountOver Go.Proofs.Ytkblhdmolfbfcaa.XLib Go.Proofs.YtkblhdmolfbfcaaW.PrintWords Go.Proofs.YtkblhdmolfbfcaaW.PrintLast Go.Proofs.YtkblhdmolfbfcaaW.PrintMore
set_option maxRecDepth 100000
set_option linter.unusedVariables false
set_option linter.unusedSimpArgs false
/-! base_spec -/
theorem e_spec_l00In (a b c : Int) : spec_l00In.f a b c = some (decide (b ≤ a ∧ a ≤ c)) := by
  unfold spec_l00In.f
  by_cases h : b ≤ a <;> simp [h]
theorem e_spec_l01Steps (a : Int) : spec_l01Steps.f a = some (decide (8 ≤ a ∧ a ≤ 360)) := by
  unfold spec_l01Steps.f; rw [e_spec_l00In]; rfl
theorem e_spec_l01Lift (a : Int) : spec_l01Lift.f a = some (decide (0 ≤ a ∧ a ≤ 10000)) := by
  unfold spec_l01Lift.f; rw [e_spec_l00In]; rfl
theorem e_spec_l01Ok (l : List Int) (h16 : I16 l) (hl : l.length ≤ 1048576) : Ev (fun k => spec_l01Ok.f k l) (decide (Valid l)) := by
  unfold spec_l01Ok.f
  simp only [e_spec_l01Steps, Option.bind_some]
  by_cases h : 8 ≤ (l.length : Int) ∧ (l.length : Int) ≤ 360
  · simp only [h, and_self, decide_true, if_true]
    have := ev_find (fun k j => spec_l01Ok.l0 k l (j : Int)) (fun j => decide (0 ≤ rd l (j : Int) ∧ rd l (j : Int) ≤ 10000)) l.length true (fun _ => false) ?_ ?_ ?_
    · rw [ff_all] at this
      refine eve this ?_
      apply decide_eq_decide.mpr
      unfold Valid
      constructor
      · intro hh; exact ⟨by omega, by omega, fun j hj => by simpa using hh j hj⟩
      · intro hh j hj; simpa using hh.2.2 j hj
    · intro j r hj hp ih
      refine evs ?_
      have hb := h16.rdb (j : Int)
      simp (disch := omega) only [spec_l01Ok.l0, if_pos, e_spec_l01Lift, Option.bind_some, w64]
      first | exact ih | (rw [hp]; simp only [if_true]; exact ih)
    · intro j hj hp
      refine evs ?_
      have hb := h16.rdb (j : Int)
      simp (disch := omega) only [spec_l01Ok.l0, if_pos, e_spec_l01Lift, Option.bind_some, w64]
      first | exact evo rfl | (rw [hp]; exact evo rfl)
    · refine evs ?_
      simp (disch := omega) only [spec_l01Ok.l0, if_neg]
      exact evo rfl
  · rw [decide_eq_false h]
    simp only [Bool.false_eq_true, if_false]
    exact evo (decide_eq_false (fun hv => h ⟨by have := hv.1; omega, by have := hv.2.1; omega⟩)).symm

/-! base_impl -/
theorem e_impl_inRange (a b c : Int) : impl_inRange.f a b c = some (decide (b ≤ a ∧ a ≤ c)) := by
  unfold impl_inRange.f
  by_cases h : b ≤ a <;> simp [h]
theorem e_impl_isSteps (a : Int) : impl_isSteps.f a = some (decide (8 ≤ a ∧ a ≤ 360)) := by
  unfold impl_isSteps.f; rw [e_impl_inRange]; rfl
theorem e_impl_isLift (a : Int) : impl_isLift.f a = some (decide (0 ≤ a ∧ a ≤ 10000)) := by
  unfold impl_isLift.f; rw [e_impl_inRange]; rfl
theorem e_impl_Cam_steps (l : List Int) : impl_Cam_steps.f l = some (l.length : Int) := rfl
theorem e_impl_ValidCam (l : List Int) (h16 : I16 l) (hl : l.length ≤ 1048576) : Ev (fun k => impl_ValidCam.f k l) (decide (Valid l)) := by
  unfold impl_ValidCam.f
  simp only [e_impl_Cam_steps, e_impl_isSteps, Option.bind_some]
  by_cases h : 8 ≤ (l.length : Int) ∧ (l.length : Int) ≤ 360
  · simp only [h, and_self, decide_true, if_true]
    unfold slices_ContainsFunc_at_impl_ValidCam_c1.f slices_IndexFunc_at_impl_ValidCam_c1.f
    have := ev_find (fun k j => slices_IndexFunc_at_impl_ValidCam_c1.l0 k l (l.length : Int) (j : Int)) (fun j => decide (0 ≤ rd l (j : Int) ∧ rd l (j : Int) ≤ 10000)) l.length (-1) (fun j => (j : Int)) ?_ ?_ ?_
    · refine Ev.bind (Ev.bind this (evo rfl)) (evo ?_)
      rcases ff_eq (fun j => decide (0 ≤ rd l (j : Int) ∧ rd l (j : Int) ≤ 10000)) (-1 : Int) (fun j => (j : Int)) l.length with ⟨hh, e⟩ | ⟨m, hm, hf, _, e⟩
      · rw [e, decide_eq_true (show Valid l from ⟨by omega, by omega, fun j hj => by simpa using hh j hj⟩)]; rfl
      · rw [e, decide_eq_false (show ¬ Valid l from fun hv => by rw [decide_eq_true (hv.2.2 m hm)] at hf; cases hf)]
        simp
    · intro j r hj hp ih
      refine evs ?_
      have hb := h16.rdb (j : Int)
      simp (disch := omega) only [slices_IndexFunc_at_impl_ValidCam_c1.l0, impl_ValidCam_c1.f, if_pos, e_impl_isLift, Option.bind_some, w64]
      first | exact ih | (rw [hp]; simp only [Bool.not_true, Bool.false_eq_true, if_false]; exact ih)
    · intro j hj hp
      refine evs ?_
      have hb := h16.rdb (j : Int)
      simp (disch := omega) only [slices_IndexFunc_at_impl_ValidCam_c1.l0, impl_ValidCam_c1.f, if_pos, e_impl_isLift, Option.bind_some, w64]
      first | exact evo rfl | (rw [hp]; exact evo rfl)
    · refine evs ?_
      simp (disch := omega) only [slices_IndexFunc_at_impl_ValidCam_c1.l0, if_neg]
      exact evo rfl
  · rw [decide_eq_false h]
    simp only [Bool.false_eq_true, if_false]
    exact evo (decide_eq_false (fun hv => h ⟨by have := hv.1; omega, by have := hv.2.1; omega⟩)).symm

/-! spec_at -/
theorem e_spec_l01At (l : List Int) (h16 : I16 l) (h0 : 0 < l.length) (hl : l.length ≤ 1048576) (a : Int) (ha : -1000000000000 ≤ a) (hb : a ≤ 1000000000000) : spec_l01At.f l a = some (atz l a) := by
  unfold spec_l01At.f atz
  have hn : (0 : Int) < l.length := by omega
  have b := tmod_b a hn
  rw [if_neg (by omega), w64 (by omega) (by omega), two_mods a hn]
  have c := emod_b a hn
  rw [if_pos c.1, if_pos c.2]
  have := h16.rdb (a % (l.length : Int))
  rw [w64 (by omega) (by omega)]

/-! spec_bends -/
def bendv (l : List Int) (i : Int) : Int := atz l (i + 1) - 2 * atz l i + atz l (i - 1)
theorem bendv_b (l : List Int) (hv : Valid l) (i : Int) : -20000 ≤ bendv l i ∧ bendv l i ≤ 20000 := by
  have a := hv.atzb (i + 1)
  have b := hv.atzb i
  have c := hv.atzb (i - 1)
  unfold bendv; omega
def bendsL (l : List Int) : List Int := (List.range l.length).map fun i : Nat => bendv l i
theorem e_spec_l01Bends (l : List Int) (h16 : I16 l) (hv : Valid l) : Ev (fun k => spec_l01Bends.f k l) (bendsL l) := by
  have hn := hv.1
  have hn2 := hv.2.1
  unfold spec_l01Bends.f
  have := ev_loop (fun k j => spec_l01Bends.l0 k l ((List.range j).map fun i : Nat => bendv l i) (j : Int)) l.length (bendsL l) ?_ ?_
  · exact this
  · intro j hj ih
    refine evs ?_
    have a := hv.atzb ((j : Int) + 1)
    have b := hv.atzb (j : Int)
    have c := hv.atzb ((j : Int) - 1)
    have e1 : ((List.range j).map fun i : Nat => bendv l i).length = j := by simp
    simp (disch := omega) only [spec_l01Bends.l0, if_pos, e_spec_l01At l h16, Option.bind_some, e1, w64]
    rw [show atz l ((j : Int) + 1) - 2 * atz l (j : Int) + atz l ((j : Int) - 1) = bendv l (j : Int) from rfl, ← map_snoc (fun i : Nat => bendv l i)]
    exact ih
  · refine evs ?_
    simp (disch := omega) only [spec_l01Bends.l0, if_neg]
    exact evo rfl
def sz (a : Int) : Int := if a < 0 then -a else a
theorem e_spec_l01Size (a : Int) (h0 : -9223372036854775807 ≤ a) (h1 : a ≤ 9223372036854775807) : spec_l01Size.f a = some (sz a) := by
  unfold spec_l01Size.f sz
  split
  · rw [w64 (by omega) (by omega)]
  · rfl

/-! impl_at -/
theorem e_impl_floorDiv (a n : Int) (h : 0 < n) (ha : -1000000000000000000 ≤ a) (hb : a ≤ 1000000000000000000) : impl_floorDiv.f a n = some (a / n) := by
  unfold impl_floorDiv.f
  have := tdiv_b a h 1000000000000000000 ha hb
  rw [if_neg (by omega), ← floor_tdiv a h]
  by_cases c : Int.tmod a n < 0
  · simp (disch := omega) only [if_pos c, w64]
  · simp (disch := omega) only [if_neg c, w64]
theorem e_impl_mod (a n : Int) (h : 0 < n) (hn : n ≤ 1048576) (ha : -1000000000000 ≤ a) (hb : a ≤ 1000000000000) : impl_mod.f a n = some (a % n) := by
  unfold impl_mod.f
  rw [e_impl_floorDiv a n h (by omega) (by omega)]
  have e := Int.emod_add_mul_ediv a n
  have b := emod_b a h
  simp (disch := omega) only [Option.bind_some, w64, mod_ediv]
theorem e_impl_Cam_at (l : List Int) (h16 : I16 l) (h0 : 0 < l.length) (hl : l.length ≤ 1048576) (a : Int) (ha : -1000000000000 ≤ a) (hb : a ≤ 1000000000000) : impl_Cam_at.f l a = some (atz l a) := by
  unfold impl_Cam_at.f atz
  have hn : (0 : Int) < l.length := by omega
  have c := emod_b a hn
  rw [e_impl_Cam_steps, Option.bind_some, e_impl_mod a _ hn (by omega) ha hb, Option.bind_some, if_pos c.1, if_pos c.2]
  have := h16.rdb (a % (l.length : Int))
  rw [w64 (by omega) (by omega)]

/-! impl_bend -/
theorem e_impl_Cam_change (l : List Int) (h16 : I16 l) (hv : Valid l) (i : Int) (h0 : -1000000 ≤ i) (h1 : i ≤ 1000000) : impl_Cam_change.f l i = some (atz l (i + 1) - atz l i) := by
  have a := hv.atzb (i + 1)
  have b := hv.atzb i
  have hn := hv.1
  have hn2 := hv.2.1
  unfold impl_Cam_change.f
  simp (disch := omega) only [e_impl_Cam_at l h16, Option.bind_some, w64]
theorem e_impl_Cam_bend (l : List Int) (h16 : I16 l) (hv : Valid l) (i : Int) (h0 : -100000 ≤ i) (h1 : i ≤ 100000) : impl_Cam_bend.f l i = some (bendv l i) := by
  have a := hv.atzb (i + 1)
  have b := hv.atzb i
  have c := hv.atzb (i - 1)
  unfold impl_Cam_bend.f
  simp (disch := omega) only [w64]
  simp (disch := omega) only [e_impl_Cam_change l h16 hv, Option.bind_some]
  rw [Int.sub_add_cancel, w64 (by omega) (by omega)]
  unfold bendv; congr 1; omega
theorem e_impl_bends (l : List Int) (h16 : I16 l) (hv : Valid l) : Ev (fun k => impl_Cam_numbers_at_impl_Cam_bend.f k l l) (bendsL l) := by
  have hn := hv.1
  have hn2 := hv.2.1
  unfold impl_Cam_numbers_at_impl_Cam_bend.f
  simp only [e_impl_Cam_steps, Option.bind_some]
  exact ev_nums id (fun k out i => impl_Cam_numbers_at_impl_Cam_bend.l0 k out (l.length : Int) i l) (fun _ i => impl_Cam_bend.f l i) (fun i : Nat => bendv l i) l.length _ rfl (by omega) 17592186044416 (by omega) (fun k out i => by simp only [impl_Cam_numbers_at_impl_Cam_bend.l0, id]) (fun j hj => by
    have := e_impl_Cam_bend l h16 hv (j : Int) (by omega) (by omega)
    simp only [this]; exact evo rfl)

/-! impl_first -/
theorem e_impl_firstCode (l : List Int) (hl : l.length ≤ 10000000) : Ev (fun k => impl_firstCode.f k l) (fnz l) := by
  unfold impl_firstCode.f
  suffices H : ∀ d j, j + d = l.length → Ev (fun k => impl_firstCode.l0 k l (l.length : Int) (j : Int)) (fnz (l.drop j)) from by
    have := H l.length 0 (by omega); simpa using this
  intro d
  induction d with
  | zero =>
    intro j hj
    refine evs ?_
    simp (disch := omega) only [impl_firstCode.l0, if_neg]
    exact evo (by rw [List.drop_of_length_le (by omega)]; rfl)
  | succ d ih =>
    intro j hj
    refine evs ?_
    have hj2 : j < l.length := by omega
    simp (disch := omega) only [impl_firstCode.l0, if_pos, w64]
    have e : l.drop j = rd l (j : Int) :: l.drop (j + 1) := by
      rw [List.drop_eq_getElem_cons hj2, rd_nat]; simp [List.getD_eq_getElem?_getD, hj2]
    rw [e]; unfold fnz
    by_cases c : rd l (j : Int) = 0
    · simp only [if_pos c]; exact ih (j + 1) (by omega)
    · simp only [if_neg c]; exact evo rfl
theorem e_impl_codeIf (b : Bool) (c : Int) : impl_codeIf.f b c = some (if b = true then c else 0) := by
  unfold impl_codeIf.f; split <;> rfl

/-! CountOver -/
theorem e_impl_abs (a : Int) (h0 : -9223372036854775807 ≤ a) (h1 : a ≤ 9223372036854775807) : impl_abs.f a = some (sz a) := by
  unfold impl_abs.f sz mx
  rw [w64 (by omega) (by omega)]
  congr 1
  split <;> split <;> omega
def cntv (g : Nat → Int) (a : Int) : Nat → Int
  | 0 => 0
  | j + 1 => if sz (g j) > a then cntv g a j + 1 else cntv g a j
theorem cntv_s (g : Nat → Int) (a : Int) (j : Nat) : cntv g a (j + 1) = if sz (g j) > a then cntv g a j + 1 else cntv g a j := rfl
theorem cntv_b (g : Nat → Int) (a : Int) (j : Nat) : 0 ≤ cntv g a j ∧ cntv g a j ≤ j := by
  induction j with
  | zero => simp [cntv]
  | succ j ih => unfold cntv; split <;> omega
def countR (l : List Int) (a : Int) : Int × Int := if Valid l then (if a < 0 then (0, 2) else (cntv (fun i : Nat => bendv l i) a l.length, 0)) else (0, 1)
theorem e_spec_CountOver (l : List Int) (h16 : I16 l) (hl : l.length ≤ 1048576) (a : Int) : Ev (fun k => spec_CountOver.f k l a) (countR l a) := by
  unfold spec_CountOver.f countR
  refine Ev.bind (e_spec_l01Ok l h16 hl) ?_
  by_cases hv : Valid l
  · rw [decide_eq_true hv, if_pos hv]
    simp only [if_true]
    by_cases ha : a < 0
    · simp only [if_pos ha]; exact evo rfl
    simp only [if_neg ha]
    refine Ev.bind (e_spec_l01Bends l h16 hv) ?_
    have hn2 := hv.2.1
    have := ev_loop (fun k j => spec_CountOver.l0 k a (bendsL l) (cntv (fun i : Nat => bendv l i) a j) (j : Int)) l.length (cntv (fun i : Nat => bendv l i) a l.length, 0) ?_ ?_
    · exact this
    · intro j hj ih
      refine evs ?_
      have e : (bendsL l).length = l.length := by simp [bendsL]
      have e2 : rd (bendsL l) (j : Int) = bendv l j := by unfold bendsL; rw [rd_map _ _ _ (by omega) (by omega)]; simp
      have b := bendv_b l hv j
      have c := cntv_b (fun i : Nat => bendv l i) a j
      simp (disch := omega) only [spec_CountOver.l0, e, e2, if_pos, e_spec_l01Size, Option.bind_some, w64]
      rw [cntv_s] at ih
      by_cases d : sz (bendv l j) > a
      · simp only [if_pos d] at ih ⊢; exact ih
      · simp only [if_neg d] at ih ⊢; exact ih
    · refine evs ?_
      have e : (bendsL l).length = l.length := by simp [bendsL]
      simp (disch := omega) only [spec_CountOver.l0, e, if_neg]
      exact evo rfl
  · rw [decide_eq_false hv, if_neg hv]
    exact evo rfl
theorem e_impl_CountOver (l : List Int) (h16 : I16 l) (hl : l.length ≤ 1048576) (a : Int) : Ev (fun k => impl_CountOver.f k l a) (countR l a) := by
  unfold impl_CountOver.f countR
  refine Ev.bind (e_impl_ValidCam l h16 hl) ?_
  simp only [e_impl_codeIf, Option.bind_some]
  refine Ev.bind (e_impl_firstCode _ (by simp)) ?_
  by_cases hv : Valid l
  · by_cases ha : a < 0
    · simp [hv, ha, fnz]; exact evo rfl
    simp only [hv, ha, fnz, decide_true, decide_false, Bool.not_true, Bool.false_eq_true, if_false, if_true]
    refine Ev.bind (e_impl_bends l h16 hv) ?_
    have hn2 := hv.2.1
    have e : (bendsL l).length = l.length := by simp [bendsL]
    have := ev_loop (fun k j => impl_CountOver.l0 k a (cntv (fun i : Nat => bendv l i) a j) (bendsL l) ((bendsL l).length : Int) (j : Int)) l.length (cntv (fun i : Nat => bendv l i) a l.length, 0) ?_ ?_
    · exact this
    · intro j hj ih
      refine evs ?_
      have e2 : rd (bendsL l) (j : Int) = bendv l j := by unfold bendsL; rw [rd_map _ _ _ (by omega) (by omega)]; simp
      have b := bendv_b l hv j
      have c := cntv_b (fun i : Nat => bendv l i) a j
      simp (disch := omega) only [impl_CountOver.l0, e, e2, if_pos, e_impl_abs, Option.bind_some, w64]
      rw [e] at ih
      rw [cntv_s] at ih
      by_cases d : sz (bendv l j) > a
      · simp only [if_pos d] at ih ⊢; exact ih
      · simp only [if_neg d] at ih ⊢; exact ih
    · refine evs ?_
      simp (disch := omega) only [impl_CountOver.l0, e, if_neg]
      exact evo rfl
  · simp [hv, fnz]; exact evo rfl

/-! laws_cam -/
theorem e_laws_toCam (l : List Int) (hl : l.length ≤ 1048576) : Ev (fun k => laws_toCam.f k l) l := by
  unfold laws_toCam.f
  simp (disch := omega) only [if_pos]
  have := ev_loop (fun k j => laws_toCam.l0 k l (l.take j ++ List.replicate (l.length - j) 0) (j : Int)) l.length l ?_ ?_
  · simpa using this
  · intro j hj ih
    refine evs ?_
    have e : ((l.take j ++ List.replicate (l.length - j) 0).length : Int) = l.length := by simp; omega
    simp (disch := omega) only [laws_toCam.l0, if_pos, e, w64]
    have e2 : (l.take j ++ List.replicate (l.length - j) 0).set ((j : Int)).toNat (rd l (j : Int)) = l.take (j + 1) ++ List.replicate (l.length - (j + 1)) 0 := by
      have e3 : l.length - j = (l.length - (j + 1)) + 1 := by omega
      rw [e3, List.replicate_succ, Int.toNat_natCast, set_app _ _ _ _ _ (by simp; omega), rd_nat, List.take_succ_eq_append_getElem hj]
      have e4 : l.getD j 0 = l[j] := by simp [List.getD_eq_getElem?_getD, hj]
      rw [e4, List.append_assoc, List.singleton_append]
    rw [e2]
    exact ih
  · refine evs ?_
    simp (disch := omega) only [laws_toCam.l0, if_neg]
    exact evo (by simp)
theorem e_laws_eqCam (l : List Int) (hl : l.length ≤ 1048576) : Ev (fun k => laws_eqCam.f k l l) true := by
  unfold laws_eqCam.f
  simp only [if_true]
  have := ev_loop (fun k j => laws_eqCam.l0 k l l (j : Int)) l.length true ?_ ?_
  · exact this
  · intro j hj ih
    refine evs ?_
    simp (disch := omega) only [laws_eqCam.l0, if_pos, if_true, w64]
    exact ih
  · refine evs ?_
    simp (disch := omega) only [laws_eqCam.l0, if_neg]
    exact evo rfl

set_option maxHeartbeats 4000000 in
theorem FnExactCountOver : laws_FnExactCountOver.Pure := by
  intro l0 a1 _ _ w0 v1
  have h0 := I16.of_wf w0
  have i1 := wf_i64 v1
  refine ev_rounds ?_
  unfold laws_FnExactCountOver.f
  by_cases b0 : (l0.length : Int) > 1048576
  · simp only [if_pos b0]; exact evo rfl
  simp only [if_neg b0]
  have b0 : l0.length ≤ 1048576 := by omega
  have T0 := e_laws_toCam l0 b0
  have Q0 := e_laws_eqCam l0 b0
  have A := e_spec_CountOver l0 h0 b0 a1
  have B := e_impl_CountOver l0 h0 b0 a1
  revert A B
  generalize (countR l0 a1) = RR
  obtain ⟨c0, c1⟩ := RR
  intro A B
  repeat (first | exact evo rfl | (with_reducible refine Ev.bind T0 ?_) | (with_reducible refine Ev.bind Q0 ?_) | (with_reducible refine Ev.bind A ?_) | (with_reducible refine Ev.bind B ?_) | ((with_reducible refine ev_pos ?s1 ?_); (case s1 => first | rfl | omega | (dsimp only; omega))) | ((with_reducible refine ev_neg ?s1 ?_); (case s1 => first | omega | (dsimp only; omega) | (simp; done))) | (refine evs ?_; simp only [laws_FnExactCountOver.j0]))


end Go.Proofs.Ytkblhdmolfbfcaa.Pure
