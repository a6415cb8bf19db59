/- The pure statement of the law FnExactSmoothRound: the program's function and the reference's tell the same of every input, by plain lemmas on numbers, lists and rounds; no further condition. -/
import Derived.Test.YtmklaccobbkebabXFnExactSmoothRoundx
import Derived.Test.YtmklaccobbkebabXLib
namespace Go.Proofs.Ytmklaccobbkebab.Pure
open Go.RowKit Go.Proofs.Ytmklaccobbkebab.XFnExactSmoothRound Go.Proofs.Ytmklaccobbkebab.XLib Go.Proofs.YtmklaccobbkebabW.PrintWords Go.Proofs.YtmklaccobbkebabW.PrintLast Go.Proofs.YtmklaccobbkebabW.PrintMore
set_option maxRecDepth 100000
set_option linter.unusedVariables false
set_option linter.unusedSimpArgs false
/-! spec_at -/
theorem e_spec_l01At (l : List Int) (h16 : I16 l) (h0 : 0 < l.length) (hl : l.length ≤ 1048576) (a : Int) (ha : -1000000000000 ≤ a) (hb : a ≤ 1000000000000) : spec_l01At.f l a = some (atz l a) := by
  unfold spec_l01At.f atz
  have hn : (0 : Int) < l.length := by omega
  have b := tmod_b a hn
  rw [if_neg (by omega), w64 (by omega) (by omega), two_mods a hn]
  have c := emod_b a hn
  rw [if_pos c.1, if_pos c.2]
  have := h16.rdb (a % (l.length : Int))
  rw [w64 (by omega) (by omega)]

/-! base_impl -/
theorem e_impl_inRange (a b c : Int) : impl_inRange.f a b c = some (decide (b ≤ a ∧ a ≤ c)) := by
  unfold impl_inRange.f
  by_cases h : b ≤ a <;> simp [h]
theorem e_impl_isSteps (a : Int) : impl_isSteps.f a = some (decide (8 ≤ a ∧ a ≤ 360)) := by
  unfold impl_isSteps.f; rw [e_impl_inRange]; rfl
theorem e_impl_isLift (a : Int) : impl_isLift.f a = some (decide (0 ≤ a ∧ a ≤ 10000)) := by
  unfold impl_isLift.f; rw [e_impl_inRange]; rfl
theorem e_impl_Cam_steps (l : List Int) : impl_Cam_steps.f l = some (l.length : Int) := rfl
theorem e_impl_ValidCam (l : List Int) (h16 : I16 l) (hl : l.length ≤ 1048576) : Ev (fun k => impl_ValidCam.f k l) (decide (Valid l)) := by
  unfold impl_ValidCam.f
  simp only [e_impl_Cam_steps, e_impl_isSteps, Option.bind_some]
  by_cases h : 8 ≤ (l.length : Int) ∧ (l.length : Int) ≤ 360
  · simp only [h, and_self, decide_true, if_true]
    unfold slices_ContainsFunc_at_impl_ValidCam_c1.f slices_IndexFunc_at_impl_ValidCam_c1.f
    have := ev_find (fun k j => slices_IndexFunc_at_impl_ValidCam_c1.l0 k l (l.length : Int) (j : Int)) (fun j => decide (0 ≤ rd l (j : Int) ∧ rd l (j : Int) ≤ 10000)) l.length (-1) (fun j => (j : Int)) ?_ ?_ ?_
    · refine Ev.bind (Ev.bind this (evo rfl)) (evo ?_)
      rcases ff_eq (fun j => decide (0 ≤ rd l (j : Int) ∧ rd l (j : Int) ≤ 10000)) (-1 : Int) (fun j => (j : Int)) l.length with ⟨hh, e⟩ | ⟨m, hm, hf, _, e⟩
      · rw [e, decide_eq_true (show Valid l from ⟨by omega, by omega, fun j hj => by simpa using hh j hj⟩)]; rfl
      · rw [e, decide_eq_false (show ¬ Valid l from fun hv => by rw [decide_eq_true (hv.2.2 m hm)] at hf; cases hf)]
        simp
    · intro j r hj hp ih
      refine evs ?_
      have hb := h16.rdb (j : Int)
      simp (disch := omega) only [slices_IndexFunc_at_impl_ValidCam_c1.l0, impl_ValidCam_c1.f, if_pos, e_impl_isLift, Option.bind_some, w64]
      first | exact ih | (rw [hp]; simp only [Bool.not_true, Bool.false_eq_true, if_false]; exact ih)
    · intro j hj hp
      refine evs ?_
      have hb := h16.rdb (j : Int)
      simp (disch := omega) only [slices_IndexFunc_at_impl_ValidCam_c1.l0, impl_ValidCam_c1.f, if_pos, e_impl_isLift, Option.bind_some, w64]
      first | exact evo rfl | (rw [hp]; exact evo rfl)
    · refine evs ?_
      simp (disch := omega) only [slices_IndexFunc_at_impl_ValidCam_c1.l0, if_neg]
      exact evo rfl
  · rw [decide_eq_false h]
    simp only [Bool.false_eq_true, if_false]
    exact evo (decide_eq_false (fun hv => h ⟨by have := hv.1; omega, by have := hv.2.1; omega⟩)).symm

/-! impl_mod -/
theorem e_impl_floorDiv (a n : Int) (h : 0 < n) (ha : -9223372036854775807 ≤ a) (hb : a ≤ 9223372036854775807) : impl_floorDiv.f a n = some (a / n) := by
  unfold impl_floorDiv.f
  have := tdiv_b a h 9223372036854775807 ha hb
  rw [if_neg (by omega), ← floor_tdiv a h]
  by_cases c : Int.tmod a n < 0
  · simp (disch := omega) only [if_pos c, w64]
  · simp (disch := omega) only [if_neg c, w64]
theorem e_impl_mod (a n : Int) (h : 0 < n) (hn : n ≤ 1048576) (ha : -1000000000000 ≤ a) (hb : a ≤ 1000000000000) : impl_mod.f a n = some (a % n) := by
  unfold impl_mod.f
  rw [e_impl_floorDiv a n h (by omega) (by omega)]
  have e := Int.emod_add_mul_ediv a n
  have b := emod_b a h
  simp (disch := omega) only [Option.bind_some, w64, mod_ediv]

/-! impl_at -/
theorem e_impl_Cam_at (l : List Int) (h16 : I16 l) (h0 : 0 < l.length) (hl : l.length ≤ 1048576) (a : Int) (ha : -1000000000000 ≤ a) (hb : a ≤ 1000000000000) : impl_Cam_at.f l a = some (atz l a) := by
  unfold impl_Cam_at.f atz
  have hn : (0 : Int) < l.length := by omega
  have c := emod_b a hn
  rw [e_impl_Cam_steps, Option.bind_some, e_impl_mod a _ hn (by omega) ha hb, Option.bind_some, if_pos c.1, if_pos c.2]
  have := h16.rdb (a % (l.length : Int))
  rw [w64 (by omega) (by omega)]

/-! base_spec -/
theorem e_spec_l00In (a b c : Int) : spec_l00In.f a b c = some (decide (b ≤ a ∧ a ≤ c)) := by
  unfold spec_l00In.f
  by_cases h : b ≤ a <;> simp [h]
theorem e_spec_l01Steps (a : Int) : spec_l01Steps.f a = some (decide (8 ≤ a ∧ a ≤ 360)) := by
  unfold spec_l01Steps.f; rw [e_spec_l00In]; rfl
theorem e_spec_l01Lift (a : Int) : spec_l01Lift.f a = some (decide (0 ≤ a ∧ a ≤ 10000)) := by
  unfold spec_l01Lift.f; rw [e_spec_l00In]; rfl
theorem e_spec_l01Ok (l : List Int) (h16 : I16 l) (hl : l.length ≤ 1048576) : Ev (fun k => spec_l01Ok.f k l) (decide (Valid l)) := by
  unfold spec_l01Ok.f
  simp only [e_spec_l01Steps, Option.bind_some]
  by_cases h : 8 ≤ (l.length : Int) ∧ (l.length : Int) ≤ 360
  · simp only [h, and_self, decide_true, if_true]
    have := ev_find (fun k j => spec_l01Ok.l0 k l (j : Int)) (fun j => decide (0 ≤ rd l (j : Int) ∧ rd l (j : Int) ≤ 10000)) l.length true (fun _ => false) ?_ ?_ ?_
    · rw [ff_all] at this
      refine eve this ?_
      apply decide_eq_decide.mpr
      unfold Valid
      constructor
      · intro hh; exact ⟨by omega, by omega, fun j hj => by simpa using hh j hj⟩
      · intro hh j hj; simpa using hh.2.2 j hj
    · intro j r hj hp ih
      refine evs ?_
      have hb := h16.rdb (j : Int)
      simp (disch := omega) only [spec_l01Ok.l0, if_pos, e_spec_l01Lift, Option.bind_some, w64]
      first | exact ih | (rw [hp]; simp only [if_true]; exact ih)
    · intro j hj hp
      refine evs ?_
      have hb := h16.rdb (j : Int)
      simp (disch := omega) only [spec_l01Ok.l0, if_pos, e_spec_l01Lift, Option.bind_some, w64]
      first | exact evo rfl | (rw [hp]; exact evo rfl)
    · refine evs ?_
      simp (disch := omega) only [spec_l01Ok.l0, if_neg]
      exact evo rfl
  · rw [decide_eq_false h]
    simp only [Bool.false_eq_true, if_false]
    exact evo (decide_eq_false (fun hv => h ⟨by have := hv.1; omega, by have := hv.2.1; omega⟩)).symm

/-! near -/
theorem e_spec_l01Near (a b : Int) (hb : 0 < b) (hb1 : b ≤ 1000000000000000000) (h0 : -4000000000000000000 ≤ a) (h1 : a ≤ 4000000000000000000) : spec_l01Near.f a b = some (near a b) := by
  unfold spec_l01Near.f near
  have b3 := tdiv_b (2 * a + b) (n := 2 * b) (by omega) 9200000000000000000 (by omega) (by omega)
  simp (disch := omega) only [w64]
  rw [if_neg (by omega), ← floor_tdiv _ (show 0 < 2 * b by omega)]
  split <;> rfl
theorem e_impl_nearest (a b : Int) (hb : 0 < b) (hb1 : b ≤ 1000000000000000000) (h0 : -4000000000000000000 ≤ a) (h1 : a ≤ 4000000000000000000) : impl_nearest.f a b = some (near a b) := by
  unfold impl_nearest.f near
  simp (disch := omega) only [w64, e_impl_floorDiv, Option.bind_some]

/-! made_ok -/
theorem made_ok (g : Nat → Int) (n : Nat) (h : ∀ j, j < n → 0 ≤ g j ∧ g j ≤ 10000) : made g n = ((List.range n).map g, 0) := by
  unfold made; rw [if_pos h]

/-! same -/
def sameB (a b : List Int) : Bool := decide (a = b)
theorem same_all (a b : List Int) (e : a.length = b.length) : decide (∀ j, j < a.length → (decide (rd a (j : Int) = rd b (j : Int))) = true) = sameB a b := by
  unfold sameB
  apply decide_eq_decide.mpr
  constructor
  · intro h
    apply List.ext_getElem e
    intro i h1 h2
    have := of_decide_eq_true (h i h1)
    rw [rd_nat, rd_nat] at this
    simpa [List.getD_eq_getElem?_getD, h1, h2] using this
  · intro h j _; rw [h]; simp

/-! i16valid -/
theorem I16.valid {l : List Int} (h : Valid l) : I16 l := by
  intro x hx
  obtain ⟨i, hi, rfl⟩ := List.getElem_of_mem hx
  have := h.2.2 i hi
  rw [rd_nat] at this
  simp [List.getD_eq_getElem?_getD, hi] at this
  exact ⟨by omega, by omega⟩

/-! round -/
def dwB (l : List Int) (i : Int) : Bool := decide (atz l (i + 1) = atz l i) || decide (atz l i = atz l (i - 1))
def dwL (l : List Int) : List Bool := (List.range l.length).map fun i : Nat => dwB l i
theorem dwL_len (l : List Int) : (dwL l).length = l.length := by simp [dwL]
def rndv (l : List Int) (d : List Bool) (i : Int) : Int := if rdOf false d i = true then atz l i else near (atz l (i - 1) + 2 * atz l i + atz l (i + 1)) 4
theorem rndv_b (l : List Int) (hv : Valid l) (d : List Bool) (i : Int) : 0 ≤ rndv l d i ∧ rndv l d i ≤ 10000 := by
  have a := hv.atzb i
  have b := hv.atzb (i - 1)
  have c := hv.atzb (i + 1)
  unfold rndv
  split
  · exact a
  · exact near_b (by omega) (by omega) (by omega)
def rndL (l : List Int) (d : List Bool) : List Int := (List.range l.length).map fun i : Nat => rndv l d i
theorem rndL_len (l : List Int) (d : List Bool) : (rndL l d).length = l.length := by simp [rndL]
theorem rndL_rd (l : List Int) (d : List Bool) (j : Nat) (h : j < l.length) : rd (rndL l d) (j : Int) = rndv l d j := by
  unfold rndL; rw [rd_map _ _ _ (by omega) (by omega)]; simp
theorem Valid.rnd {l : List Int} (h : Valid l) (d : List Bool) : Valid (rndL l d) := by
  refine ⟨by rw [rndL_len]; exact h.1, by rw [rndL_len]; exact h.2.1, fun j hj => ?_⟩
  rw [rndL_len] at hj
  rw [rndL_rd _ _ _ hj]
  exact rndv_b l h d j
theorem e_spec_l05Round (l : List Int) (h16 : I16 l) (hv : Valid l) (d : List Bool) (hd : d.length = l.length) : Ev (fun k => spec_l05Round.f k l d) (rndL l d) := by
  have hn := hv.1
  have hn2 := hv.2.1
  unfold spec_l05Round.f
  simp (disch := first | omega | (simp; omega)) only [Option.bind_some, List.nil_append, if_pos]
  have := ev_loop (fun k j => spec_l05Round.l0 k l d (((List.range j).map fun i : Nat => rndv l d i) ++ l.drop j) (j : Int)) l.length (rndL l d) ?_ ?_
  · exact this
  · intro j hj ih
    refine evs ?_
    have a := hv.atzb (j : Int)
    have b := hv.atzb ((j : Int) - 1)
    have c := hv.atzb ((j : Int) + 1)
    have e : ((((List.range j).map fun i : Nat => rndv l d i) ++ l.drop j).length : Int) = l.length := by simp; omega
    have em : ((List.range j).map fun i : Nat => rndv l d i).length = j := by simp
    have er := rndv_b l hv d j
    have e2 : ∀ x : Int, (((List.range j).map fun i : Nat => rndv l d i) ++ l.drop j).set ((j : Int)).toNat x = ((List.range j).map fun i : Nat => rndv l d i) ++ x :: l.drop (j + 1) := by
      intro x; rw [Int.toNat_natCast, List.drop_eq_getElem_cons hj, set_app _ _ _ _ _ em]
    rw [map_snoc (fun i : Nat => rndv l d i), List.append_assoc, List.singleton_append] at ih
    simp (disch := omega) only [spec_l05Round.l0, if_pos, w64]
    by_cases q : rdOf false d (j : Int) = true
    · simp only [if_pos q]
      rw [List.drop_eq_getElem_cons hj]
      have e3 : rndv l d (j : Int) = l[j] := by
        unfold rndv; rw [if_pos q, atz_nat _ _ hj, rd_nat]; simp [List.getD_eq_getElem?_getD, hj]
      rw [e3] at ih
      exact ih
    · simp only [if_neg q]
      have e3 : rndv l d (j : Int) = near (atz l ((j : Int) - 1) + 2 * atz l (j : Int) + atz l ((j : Int) + 1)) 4 := by
        unfold rndv; rw [if_neg q]
      rw [e3] at ih er
      simp (disch := omega) only [w64, e_spec_l01At l h16, e_spec_l01Near, Option.bind_some, e, if_pos, w16]
      rw [e2]
      exact ih
  · refine evs ?_
    simp (disch := omega) only [spec_l05Round.l0, if_neg]
    exact evo (by rw [List.drop_of_length_le (Nat.le_refl _), List.append_nil]; rfl)
theorem e_impl_round_c1 (l : List Int) (h16 : I16 l) (hv : Valid l) (d : List Bool) (hd : d.length = l.length) (j : Nat) (hj : j < l.length) : impl_Cam_round_c1.f (j : Int) l d = some (rndv l d j) := by
  have hn := hv.1
  have hn2 := hv.2.1
  have a := hv.atzb (j : Int)
  have b := hv.atzb ((j : Int) - 1)
  have c := hv.atzb ((j : Int) + 1)
  unfold impl_Cam_round_c1.f rndv
  simp (disch := omega) only [e_impl_Cam_at l h16, Option.bind_some, if_pos, w64, e_impl_nearest]
  split <;> rfl
theorem e_impl_round (l : List Int) (h16 : I16 l) (hv : Valid l) (d : List Bool) (hd : d.length = l.length) : Ev (fun k => impl_Cam_round.f k l d) (rndL l d) := by
  have hn := hv.1
  have hn2 := hv.2.1
  unfold impl_Cam_round.f
  simp only [e_impl_Cam_steps, Option.bind_some]
  refine Ev.bind (a := made (fun i : Nat => rndv l d i) l.length) ?_ (evo ?_)
  · unfold impl_camOf_at_impl_Cam_round_c1.f
    refine ev_made (fun k out i => impl_camOf_at_impl_Cam_round_c1.l0 k out (l.length : Int) i l d) (fun _ i => impl_Cam_round_c1.f i l d) _ l.length _ rfl (by omega) (fun k out i => ?_) (fun j hj => ?_)
    · simp only [impl_camOf_at_impl_Cam_round_c1.l0, e_impl_isLift, Option.bind_some]
    · simp only [e_impl_round_c1 l h16 hv d hd j hj]; exact Ev.now _
  · rw [made_ok _ _ (fun j _ => rndv_b l hv d j)]; rfl

/-! impl_first -/
theorem e_impl_firstCode (l : List Int) (hl : l.length ≤ 10000000) : Ev (fun k => impl_firstCode.f k l) (fnz l) := by
  unfold impl_firstCode.f
  suffices H : ∀ d j, j + d = l.length → Ev (fun k => impl_firstCode.l0 k l (l.length : Int) (j : Int)) (fnz (l.drop j)) from by
    have := H l.length 0 (by omega); simpa using this
  intro d
  induction d with
  | zero =>
    intro j hj
    refine evs ?_
    simp (disch := omega) only [impl_firstCode.l0, if_neg]
    exact evo (by rw [List.drop_of_length_le (by omega)]; rfl)
  | succ d ih =>
    intro j hj
    refine evs ?_
    have hj2 : j < l.length := by omega
    simp (disch := omega) only [impl_firstCode.l0, if_pos, w64]
    have e : l.drop j = rd l (j : Int) :: l.drop (j + 1) := by
      rw [List.drop_eq_getElem_cons hj2, rd_nat]; simp [List.getD_eq_getElem?_getD, hj2]
    rw [e]; unfold fnz
    by_cases c : rd l (j : Int) = 0
    · simp only [if_pos c]; exact ih (j + 1) (by omega)
    · simp only [if_neg c]; exact evo rfl
theorem e_impl_codeIf (b : Bool) (c : Int) : impl_codeIf.f b c = some (if b = true then c else 0) := by
  unfold impl_codeIf.f; split <;> rfl

/-! SmoothRound -/
def srC (l : List Int) (d : List Bool) : Int := if Valid l then (if d.length = l.length then 0 else 2) else 1
def srR (l : List Int) (d : List Bool) : List Int × Int := if srC l d = 0 then (rndL l d, 0) else ([], srC l d)
theorem srC_0 {l : List Int} {d : List Bool} (h : srC l d = 0) : Valid l ∧ d.length = l.length := by
  unfold srC at h
  by_cases v : Valid l
  · rw [if_pos v] at h
    by_cases e : d.length = l.length
    · exact ⟨v, e⟩
    · rw [if_neg e] at h; omega
  · rw [if_neg v] at h; omega
theorem srR_len (l : List Int) (d : List Bool) (hl : l.length ≤ 1048576) : (srR l d).1.length ≤ 1048576 := by
  unfold srR
  split
  · simp only [rndL_len]; exact hl
  · exact Nat.zero_le _
theorem e_spec_SmoothRound (l : List Int) (h16 : I16 l) (hl : l.length ≤ 1048576) (d : List Bool) : Ev (fun k => spec_SmoothRound.f k l d) (srR l d) := by
  have c : Ev (fun k => spec_l05Held.f k l d) (srC l d) := by
    unfold spec_l05Held.f srC
    refine Ev.bind (e_spec_l01Ok l h16 hl) ?_
    by_cases v : Valid l
    · simp only [v, decide_true, if_true]
      by_cases e : d.length = l.length
      · rw [if_pos e]; exact ev_pos (by omega) (evo rfl)
      · rw [if_neg e]; exact ev_neg (by omega) (evo rfl)
    · simp only [v, decide_false, Bool.false_eq_true, if_false]; exact evo rfl
  unfold spec_SmoothRound.f srR
  refine Ev.bind c ?_
  by_cases h : srC l d = 0
  · obtain ⟨v, e⟩ := srC_0 h
    simp only [if_pos h]
    exact Ev.bind (e_spec_l05Round l h16 v d e) (evo rfl)
  · simp only [if_neg h]; exact evo rfl
theorem e_impl_SmoothRound (l : List Int) (h16 : I16 l) (hl : l.length ≤ 1048576) (d : List Bool) : Ev (fun k => impl_SmoothRound.f k l d) (srR l d) := by
  have c : Ev (fun k => impl_heldCode.f k l d) (srC l d) := by
    unfold impl_heldCode.f srC
    refine Ev.bind (e_impl_ValidCam l h16 hl) ?_
    simp only [e_impl_codeIf, Option.bind_some]
    refine Ev.bind (e_impl_firstCode _ (by simp)) (evo ?_)
    by_cases v : Valid l
    · rw [if_pos v, decide_eq_true v]
      by_cases e : d.length = l.length
      · rw [if_pos e, e, bne_self_eq_false]; rfl
      · rw [if_neg e, show ((d.length : Int) != (l.length : Int)) = true from by rw [bne_iff_ne]; omega]; rfl
    · rw [if_neg v, decide_eq_false v]; rfl
  unfold impl_SmoothRound.f srR
  refine Ev.bind c ?_
  by_cases h : srC l d = 0
  · obtain ⟨v, e⟩ := srC_0 h
    simp only [if_pos h]
    exact Ev.bind (e_impl_round l h16 v d e) (evo rfl)
  · simp only [if_neg h]; exact evo rfl

/-! laws_cam -/
theorem e_laws_toCam (l : List Int) (hl : l.length ≤ 1048576) : Ev (fun k => laws_toCam.f k l) l := by
  unfold laws_toCam.f
  simp (disch := omega) only [if_pos]
  have := ev_loop (fun k j => laws_toCam.l0 k l (l.take j ++ List.replicate (l.length - j) 0) (j : Int)) l.length l ?_ ?_
  · simpa using this
  · intro j hj ih
    refine evs ?_
    have e : ((l.take j ++ List.replicate (l.length - j) 0).length : Int) = l.length := by simp; omega
    simp (disch := omega) only [laws_toCam.l0, if_pos, e, w64]
    have e2 : (l.take j ++ List.replicate (l.length - j) 0).set ((j : Int)).toNat (rd l (j : Int)) = l.take (j + 1) ++ List.replicate (l.length - (j + 1)) 0 := by
      have e3 : l.length - j = (l.length - (j + 1)) + 1 := by omega
      rw [e3, List.replicate_succ, Int.toNat_natCast, set_app _ _ _ _ _ (by simp; omega), rd_nat, List.take_succ_eq_append_getElem hj]
      have e4 : l.getD j 0 = l[j] := by simp [List.getD_eq_getElem?_getD, hj]
      rw [e4, List.append_assoc, List.singleton_append]
    rw [e2]
    exact ih
  · refine evs ?_
    simp (disch := omega) only [laws_toCam.l0, if_neg]
    exact evo (by simp)
theorem e_laws_eqCam (l : List Int) (hl : l.length ≤ 1048576) : Ev (fun k => laws_eqCam.f k l l) true := by
  unfold laws_eqCam.f
  simp only [if_true]
  have := ev_loop (fun k j => laws_eqCam.l0 k l l (j : Int)) l.length true ?_ ?_
  · exact this
  · intro j hj ih
    refine evs ?_
    simp (disch := omega) only [laws_eqCam.l0, if_pos, if_true, w64]
    exact ih
  · refine evs ?_
    simp (disch := omega) only [laws_eqCam.l0, if_neg]
    exact evo rfl

/-! marked -/
def marked (m : Int) (n : Nat) : List Int := (List.range n).map fun j : Nat => IntKind.i16.wrap (m + j)
theorem marked_len (m : Int) (n : Nat) : (marked m n).length = n := by simp [marked]

/-! laws_markonly -/
theorem e_laws_markCam (l : List Int) (hl : l.length ≤ 1048576) (m : Int) (h0 : 0 ≤ m) (h1 : m ≤ 1000000000) : Ev (fun k => laws_markCam.f k l m) (m + l.length, marked m l.length) := by
  unfold laws_markCam.f
  have := ev_loop (fun k j => laws_markCam.l0 k (marked m j ++ l.drop j) (m + j) (j : Int)) l.length (m + l.length, marked m l.length) ?_ ?_
  · simpa [marked] using this
  · intro j hj ih
    refine evs ?_
    have e : ((marked m j ++ l.drop j).length : Int) = l.length := by simp [marked_len]; omega
    have e2 : (marked m j ++ l.drop j).set ((j : Int)).toNat (IntKind.i16.wrap (m + j)) = marked m (j + 1) ++ l.drop (j + 1) := by
      rw [Int.toNat_natCast, List.drop_eq_getElem_cons hj, set_app _ _ _ _ _ (marked_len _ _)]
      unfold marked; rw [map_snoc]; simp
    simp (disch := omega) only [laws_markCam.l0, if_pos, e, w64]
    rw [e2, show m + (j : Int) + 1 = m + ((j + 1 : Nat) : Int) by omega]
    exact ih
  · refine evs ?_
    have e : ((marked m l.length ++ l.drop l.length).length : Int) = l.length := by simp [marked_len]
    simp (disch := omega) only [laws_markCam.l0, if_neg, e]
    exact evo (by simp)

/-! laws_held -/
theorem e_laws_heldCam (n : Nat) (hl : n ≤ 1048576) (m : Int) (h0 : 0 ≤ m) (h1 : m ≤ 1000000000) : Ev (fun k => laws_heldCam.f k (marked m n) m) (m + n) := by
  unfold laws_heldCam.f
  have e : ((marked m n).length : Int) = n := by rw [marked_len]
  have := ev_loop (fun k j => laws_heldCam.l0 k (marked m n) (m + j) (j : Int)) n (m + n) ?_ ?_
  · simpa using this
  · intro j hj ih
    refine evs ?_
    have e2 : rd (marked m n) (j : Int) = IntKind.i16.wrap (m + j) := by unfold marked; rw [rd_map _ _ _ (by omega) (by omega)]; simp
    simp (disch := omega) only [laws_heldCam.l0, if_pos, e, e2, if_true, w64]
    rw [show m + (j : Int) + 1 = m + ((j + 1 : Nat) : Int) by omega]
    exact ih
  · refine evs ?_
    simp (disch := omega) only [laws_heldCam.l0, if_neg, e]
    exact evo rfl

/-! laws_mark -/

/-! laws_bool -/
theorem rdB (l : List Bool) (j : Nat) (h : j < l.length) : rdOf false l (j : Int) = l[j] := by
  unfold rdOf; rw [Int.toNat_natCast, List.getD_eq_getElem?_getD, List.getElem?_eq_getElem h]; rfl
theorem e_laws_toBoolS (l : List Bool) (hl : l.length ≤ 1048576) : Ev (fun k => laws_toBoolS.f k l) l := by
  unfold laws_toBoolS.f
  simp (disch := omega) only [if_pos]
  have := ev_loop (fun k j => laws_toBoolS.l0 k l (l.take j ++ List.replicate (l.length - j) false) (j : Int)) l.length l ?_ ?_
  · simpa using this
  · intro j hj ih
    refine evs ?_
    have e : ((l.take j ++ List.replicate (l.length - j) false).length : Int) = l.length := by simp; omega
    simp (disch := omega) only [laws_toBoolS.l0, if_pos, e, w64]
    have e2 : (l.take j ++ List.replicate (l.length - j) false).set ((j : Int)).toNat (rdOf false l (j : Int)) = l.take (j + 1) ++ List.replicate (l.length - (j + 1)) false := by
      have e3 : l.length - j = (l.length - (j + 1)) + 1 := by omega
      rw [e3, List.replicate_succ, Int.toNat_natCast, set_app _ _ _ _ _ (by simp; omega), rdB _ _ hj, List.take_succ_eq_append_getElem hj, List.append_assoc, List.singleton_append]
    rw [e2]
    exact ih
  · refine evs ?_
    simp (disch := omega) only [laws_toBoolS.l0, if_neg]
    exact evo (by simp)
theorem e_laws_eqBoolS (l : List Bool) (hl : l.length ≤ 1048576) : Ev (fun k => laws_eqBoolS.f k l l) true := by
  unfold laws_eqBoolS.f
  simp only [if_true]
  have := ev_loop (fun k j => laws_eqBoolS.l0 k l l (j : Int)) l.length true ?_ ?_
  · exact this
  · intro j hj ih
    refine evs ?_
    simp (disch := omega) only [laws_eqBoolS.l0, if_pos, bne_self_eq_false, Bool.false_eq_true, if_false, w64]
    exact ih
  · refine evs ?_
    simp (disch := omega) only [laws_eqBoolS.l0, if_neg]
    exact evo rfl
def markB (m : Int) (n : Nat) : List Bool := (List.range n).map fun j : Nat => (Int.tmod (m + (j : Int)) 3 == 0)
theorem markB_len (m : Int) (n : Nat) : (markB m n).length = n := by simp [markB]
theorem e_laws_markBoolS (l : List Bool) (hl : l.length ≤ 1048576) (m : Int) (h0 : 0 ≤ m) (h1 : m ≤ 1000000000) : Ev (fun k => laws_markBoolS.f k l m) (m + l.length, markB m l.length) := by
  unfold laws_markBoolS.f
  have := ev_loop (fun k j => laws_markBoolS.l0 k (markB m j ++ l.drop j) (m + j) (j : Int)) l.length (m + l.length, markB m l.length) ?_ ?_
  · simpa [markB] using this
  · intro j hj ih
    refine evs ?_
    have e : ((markB m j ++ l.drop j).length : Int) = l.length := by simp [markB_len]; omega
    have e2 : (markB m j ++ l.drop j).set ((j : Int)).toNat (Int.tmod (m + (j : Int)) 3 == 0) = markB m (j + 1) ++ l.drop (j + 1) := by
      rw [Int.toNat_natCast, List.drop_eq_getElem_cons hj, set_app _ _ _ _ _ (markB_len _ _)]
      unfold markB; rw [map_snoc]; simp
    simp (disch := omega) only [laws_markBoolS.l0, if_pos, e, w64]
    rw [e2, show m + (j : Int) + 1 = m + ((j + 1 : Nat) : Int) by omega]
    exact ih
  · refine evs ?_
    have e : ((markB m l.length ++ l.drop l.length).length : Int) = l.length := by simp [markB_len]
    simp (disch := omega) only [laws_markBoolS.l0, if_neg, e]
    exact evo (by simp)

set_option maxHeartbeats 4000000 in
theorem FnExactSmoothRound : ∀ (l0 : List Int) (l1 : List Bool), (l0.length ≤ maxLen ∧ ∀ x2 ∈ l0, (Lit.int .i16 x2).wf = true) → (l1.length ≤ maxLen ∧ ∀ x2 ∈ l1, True) → ∃ k, laws_FnExactSmoothRound.f k l0 l1 = some true := by
  rintro l0 l1 ⟨_, w0⟩ ⟨_, w1⟩
  have h0 := I16.of_wf w0
  refine ev_rounds ?_
  unfold laws_FnExactSmoothRound.f
  by_cases b0 : (l0.length : Int) > 1048576
  · simp only [if_pos b0]; exact evo rfl
  simp only [if_neg b0]
  have b0 : l0.length ≤ 1048576 := by omega
  have T0 := e_laws_toCam l0 b0
  have Q0 := e_laws_eqCam l0 b0
  have M0 := e_laws_markCam l0 b0
  by_cases b1 : (l1.length : Int) > 1048576
  · simp only [if_pos b1]; exact evo rfl
  simp only [if_neg b1]
  have b1 : l1.length ≤ 1048576 := by omega
  have T1 := e_laws_toBoolS l1 b1
  have Q1 := e_laws_eqBoolS l1 b1
  have M1 := e_laws_markBoolS l1 b1
  have A := e_spec_SmoothRound l0 h0 b0 l1
  have B := e_impl_SmoothRound l0 h0 b0 l1
  have hr : (srR l0 l1).1.length ≤ 1048576 := srR_len l0 l1 b0
  revert A B hr
  generalize (srR l0 l1) = RR
  obtain ⟨r, c1⟩ := RR
  intro A B hr
  have QR := e_laws_eqCam r hr
  have MR := e_laws_markCam r hr
  have HR := e_laws_heldCam r.length hr
  repeat (first | exact evo rfl | (with_reducible refine Ev.bind T0 ?_) | (with_reducible refine Ev.bind Q0 ?_) | ((with_reducible refine Ev.bind (M0 _ ?s1 ?s2) ?_); (case s1 => first | omega | (dsimp only; omega)); (case s2 => first | omega | (dsimp only; omega))) | (with_reducible refine Ev.bind T1 ?_) | (with_reducible refine Ev.bind Q1 ?_) | ((with_reducible refine Ev.bind (M1 _ ?s1 ?s2) ?_); (case s1 => first | omega | (dsimp only; omega)); (case s2 => first | omega | (dsimp only; omega))) | (with_reducible refine Ev.bind A ?_) | (with_reducible refine Ev.bind B ?_) | (with_reducible refine Ev.bind QR ?_) | ((with_reducible refine Ev.bind (MR 1 ?s1 ?s2) ?_); (case s1 => first | omega | (dsimp only; omega)); (case s2 => first | omega | (dsimp only; omega))) | ((with_reducible refine Ev.bind (HR 1 ?s1 ?s2) ?_); (case s1 => first | omega | (dsimp only; omega)); (case s2 => first | omega | (dsimp only; omega))) | ((with_reducible refine ev_pos ?s1 ?_); (case s1 => first | rfl | trivial | omega | (dsimp only; omega))) | ((with_reducible refine ev_neg ?s1 ?_); (case s1 => first | omega | (dsimp only; omega) | (simp; done))) | (refine evs ?_; simp only [laws_FnExactSmoothRound.j0, laws_FnExactSmoothRound.j1, laws_FnExactSmoothRound.j2]))


end Go.Proofs.Ytmklaccobbkebab.Pure
