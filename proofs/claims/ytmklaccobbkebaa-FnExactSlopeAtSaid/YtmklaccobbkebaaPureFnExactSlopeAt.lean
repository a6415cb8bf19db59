/- The pure statement of the law FnExactSlopeAt: the program's function and the reference's tell the same of every input, by plain lemmas on numbers, lists and rounds; no further condition. -/
import Derived.Test.YtmklaccobbkebaaXFnExactSlopeAtx
import Derived.Test.YtmklaccobbkebaaXLib
namespace Go.Proofs.Ytmklaccobbkebaa.Pure
open Go.RowKit Go.Proofs.Ytmklaccobbkebaa.XFnExactSlopeAt Go.Proofs.Ytmklaccobbkebaa.XLib Go.Proofs.YtmklaccobbkebaaW.PrintWords Go.Proofs.YtmklaccobbkebaaW.PrintLast Go.Proofs.YtmklaccobbkebaaW.PrintMore
set_option maxRecDepth 100000
set_option linter.unusedVariables false
set_option linter.unusedSimpArgs false
/-! base_spec -/
theorem e_spec_l00In (a b c : Int) : spec_l00In.f a b c = some (decide (b ≤ a ∧ a ≤ c)) := by
  unfold spec_l00In.f
  by_cases h : b ≤ a <;> simp [h]
theorem e_spec_l01Steps (a : Int) : spec_l01Steps.f a = some (decide (8 ≤ a ∧ a ≤ 360)) := by
  unfold spec_l01Steps.f; rw [e_spec_l00In]; rfl
theorem e_spec_l01Lift (a : Int) : spec_l01Lift.f a = some (decide (0 ≤ a ∧ a ≤ 10000)) := by
  unfold spec_l01Lift.f; rw [e_spec_l00In]; rfl
theorem e_spec_l01Ok (l : List Int) (h16 : I16 l) (hl : l.length ≤ 1048576) : Ev (fun k => spec_l01Ok.f k l) (decide (Valid l)) := by
  unfold spec_l01Ok.f
  simp only [e_spec_l01Steps, Option.bind_some]
  by_cases h : 8 ≤ (l.length : Int) ∧ (l.length : Int) ≤ 360
  · simp only [h, and_self, decide_true, if_true]
    have := ev_find (fun k j => spec_l01Ok.l0 k l (j : Int)) (fun j => decide (0 ≤ rd l (j : Int) ∧ rd l (j : Int) ≤ 10000)) l.length true (fun _ => false) ?_ ?_ ?_
    · rw [ff_all] at this
      refine eve this ?_
      apply decide_eq_decide.mpr
      unfold Valid
      constructor
      · intro hh; exact ⟨by omega, by omega, fun j hj => by simpa using hh j hj⟩
      · intro hh j hj; simpa using hh.2.2 j hj
    · intro j r hj hp ih
      refine evs ?_
      have hb := h16.rdb (j : Int)
      simp (disch := omega) only [spec_l01Ok.l0, if_pos, e_spec_l01Lift, Option.bind_some, w64]
      first | exact ih | (rw [hp]; simp only [if_true]; exact ih)
    · intro j hj hp
      refine evs ?_
      have hb := h16.rdb (j : Int)
      simp (disch := omega) only [spec_l01Ok.l0, if_pos, e_spec_l01Lift, Option.bind_some, w64]
      first | exact evo rfl | (rw [hp]; exact evo rfl)
    · refine evs ?_
      simp (disch := omega) only [spec_l01Ok.l0, if_neg]
      exact evo rfl
  · rw [decide_eq_false h]
    simp only [Bool.false_eq_true, if_false]
    exact evo (decide_eq_false (fun hv => h ⟨by have := hv.1; omega, by have := hv.2.1; omega⟩)).symm

/-! gcd -/
theorem gcd_loop (L : Nat → Int → Int → Option Int) (hL : ∀ k a b, L (k + 1) a b = if b = 0 then some a else L k b (Int.tmod a b)) (a b : Nat) : Ev (fun k => L k (a : Int) (b : Int)) ((Nat.gcd a b : Nat) : Int) := by
  induction b using Nat.strongRecOn generalizing a with
  | _ b ih =>
    refine evs ?_
    by_cases h : b = 0
    · subst h
      simp only [hL, Int.natCast_zero, if_true]
      exact evo (by rw [Nat.gcd_zero_right])
    · have hb : (b : Int) ≠ 0 := by omega
      simp only [hL, if_neg hb]
      have e : Int.tmod (a : Int) (b : Int) = ((a % b : Nat) : Int) := by rw [tmod_pos (by omega)]; exact (Int.natCast_emod a b).symm
      rw [e]
      have := ih (a % b) (Nat.mod_lt _ (by omega)) b
      rw [show Nat.gcd a b = Nat.gcd b (a % b) by rw [Nat.gcd_comm, Nat.gcd_rec, Nat.gcd_comm]]
      exact this

/-! spec_at -/
theorem e_spec_l01At (l : List Int) (h16 : I16 l) (h0 : 0 < l.length) (hl : l.length ≤ 1048576) (a : Int) (ha : -1000000000000 ≤ a) (hb : a ≤ 1000000000000) : spec_l01At.f l a = some (atz l a) := by
  unfold spec_l01At.f atz
  have hn : (0 : Int) < l.length := by omega
  have b := tmod_b a hn
  rw [if_neg (by omega), w64 (by omega) (by omega), two_mods a hn]
  have c := emod_b a hn
  rw [if_pos c.1, if_pos c.2]
  have := h16.rdb (a % (l.length : Int))
  rw [w64 (by omega) (by omega)]

/-! base_impl -/
theorem e_impl_inRange (a b c : Int) : impl_inRange.f a b c = some (decide (b ≤ a ∧ a ≤ c)) := by
  unfold impl_inRange.f
  by_cases h : b ≤ a <;> simp [h]
theorem e_impl_isSteps (a : Int) : impl_isSteps.f a = some (decide (8 ≤ a ∧ a ≤ 360)) := by
  unfold impl_isSteps.f; rw [e_impl_inRange]; rfl
theorem e_impl_isLift (a : Int) : impl_isLift.f a = some (decide (0 ≤ a ∧ a ≤ 10000)) := by
  unfold impl_isLift.f; rw [e_impl_inRange]; rfl
theorem e_impl_Cam_steps (l : List Int) : impl_Cam_steps.f l = some (l.length : Int) := rfl
theorem e_impl_ValidCam (l : List Int) (h16 : I16 l) (hl : l.length ≤ 1048576) : Ev (fun k => impl_ValidCam.f k l) (decide (Valid l)) := by
  unfold impl_ValidCam.f
  simp only [e_impl_Cam_steps, e_impl_isSteps, Option.bind_some]
  by_cases h : 8 ≤ (l.length : Int) ∧ (l.length : Int) ≤ 360
  · simp only [h, and_self, decide_true, if_true]
    unfold slices_ContainsFunc_at_impl_ValidCam_c1.f slices_IndexFunc_at_impl_ValidCam_c1.f
    have := ev_find (fun k j => slices_IndexFunc_at_impl_ValidCam_c1.l0 k l (l.length : Int) (j : Int)) (fun j => decide (0 ≤ rd l (j : Int) ∧ rd l (j : Int) ≤ 10000)) l.length (-1) (fun j => (j : Int)) ?_ ?_ ?_
    · refine Ev.bind (Ev.bind this (evo rfl)) (evo ?_)
      rcases ff_eq (fun j => decide (0 ≤ rd l (j : Int) ∧ rd l (j : Int) ≤ 10000)) (-1 : Int) (fun j => (j : Int)) l.length with ⟨hh, e⟩ | ⟨m, hm, hf, _, e⟩
      · rw [e, decide_eq_true (show Valid l from ⟨by omega, by omega, fun j hj => by simpa using hh j hj⟩)]; rfl
      · rw [e, decide_eq_false (show ¬ Valid l from fun hv => by rw [decide_eq_true (hv.2.2 m hm)] at hf; cases hf)]
        simp
    · intro j r hj hp ih
      refine evs ?_
      have hb := h16.rdb (j : Int)
      simp (disch := omega) only [slices_IndexFunc_at_impl_ValidCam_c1.l0, impl_ValidCam_c1.f, if_pos, e_impl_isLift, Option.bind_some, w64]
      first | exact ih | (rw [hp]; simp only [Bool.not_true, Bool.false_eq_true, if_false]; exact ih)
    · intro j hj hp
      refine evs ?_
      have hb := h16.rdb (j : Int)
      simp (disch := omega) only [slices_IndexFunc_at_impl_ValidCam_c1.l0, impl_ValidCam_c1.f, if_pos, e_impl_isLift, Option.bind_some, w64]
      first | exact evo rfl | (rw [hp]; exact evo rfl)
    · refine evs ?_
      simp (disch := omega) only [slices_IndexFunc_at_impl_ValidCam_c1.l0, if_neg]
      exact evo rfl
  · rw [decide_eq_false h]
    simp only [Bool.false_eq_true, if_false]
    exact evo (decide_eq_false (fun hv => h ⟨by have := hv.1; omega, by have := hv.2.1; omega⟩)).symm

/-! impl_mod -/
theorem e_impl_floorDiv (a n : Int) (h : 0 < n) (ha : -9223372036854775807 ≤ a) (hb : a ≤ 9223372036854775807) : impl_floorDiv.f a n = some (a / n) := by
  unfold impl_floorDiv.f
  have := tdiv_b a h 9223372036854775807 ha hb
  rw [if_neg (by omega), ← floor_tdiv a h]
  by_cases c : Int.tmod a n < 0
  · simp (disch := omega) only [if_pos c, w64]
  · simp (disch := omega) only [if_neg c, w64]
theorem e_impl_mod (a n : Int) (h : 0 < n) (hn : n ≤ 1048576) (ha : -1000000000000 ≤ a) (hb : a ≤ 1000000000000) : impl_mod.f a n = some (a % n) := by
  unfold impl_mod.f
  rw [e_impl_floorDiv a n h (by omega) (by omega)]
  have e := Int.emod_add_mul_ediv a n
  have b := emod_b a h
  simp (disch := omega) only [Option.bind_some, w64, mod_ediv]

/-! impl_at -/
theorem e_impl_Cam_at (l : List Int) (h16 : I16 l) (h0 : 0 < l.length) (hl : l.length ≤ 1048576) (a : Int) (ha : -1000000000000 ≤ a) (hb : a ≤ 1000000000000) : impl_Cam_at.f l a = some (atz l a) := by
  unfold impl_Cam_at.f atz
  have hn : (0 : Int) < l.length := by omega
  have c := emod_b a hn
  rw [e_impl_Cam_steps, Option.bind_some, e_impl_mod a _ hn (by omega) ha hb, Option.bind_some, if_pos c.1, if_pos c.2]
  have := h16.rdb (a % (l.length : Int))
  rw [w64 (by omega) (by omega)]

/-! spec_size -/
def sz (a : Int) : Int := if a < 0 then -a else a
theorem e_spec_l01Size (a : Int) (h0 : -9223372036854775807 ≤ a) (h1 : a ≤ 9223372036854775807) : spec_l01Size.f a = some (sz a) := by
  unfold spec_l01Size.f sz
  split
  · rw [w64 (by omega) (by omega)]
  · rfl

/-! impl_abs -/
theorem e_impl_abs (a : Int) (h0 : -9223372036854775807 ≤ a) (h1 : a ≤ 9223372036854775807) : impl_abs.f a = some (sz a) := by
  unfold impl_abs.f sz mx
  rw [w64 (by omega) (by omega)]
  congr 1
  split <;> split <;> omega

/-! slope -/
/-- The slope at a step, in lowest terms. -/
def slpN (l : List Int) (i : Int) : Int := (atz l (i + 1) - atz l i) * (l.length : Int) * 7
def slpD (l : List Int) (b i : Int) : Int := 44 * (b + atz l i)
def slpG (l : List Int) (b i : Int) : Int := ((Nat.gcd (sz (slpN l i)).toNat (slpD l b i).toNat : Nat) : Int)
def slp (l : List Int) (b i : Int) : Int × Int := (wrap64 (Int.tdiv (slpN l i) (slpG l b i)), wrap64 (Int.tdiv (slpD l b i) (slpG l b i)))
theorem slpN_b (l : List Int) (hv : Valid l) (i : Int) : (-10000 ≤ atz l (i + 1) - atz l i ∧ atz l (i + 1) - atz l i ≤ 10000) ∧ (-3600000 ≤ (atz l (i + 1) - atz l i) * (l.length : Int) ∧ (atz l (i + 1) - atz l i) * (l.length : Int) ≤ 3600000) ∧ -25200000 ≤ slpN l i ∧ slpN l i ≤ 25200000 := by
  have a := hv.atzb (i + 1)
  have b := hv.atzb i
  have c := hv.2.1
  have d := sub_mul_b (K := 360) b.1 b.2 a.1 a.2 (show (0 : Int) ≤ (l.length : Int) by omega) (by omega)
  unfold slpN
  omega
theorem slpD_b (l : List Int) (hv : Valid l) (b i : Int) (hb : 1 ≤ b ∧ b ≤ 1000000) : 44 ≤ slpD l b i ∧ slpD l b i ≤ 44440000 := by
  have a := hv.atzb i
  unfold slpD
  omega
theorem slpG_b (l : List Int) (hv : Valid l) (b i : Int) (hb : 1 ≤ b ∧ b ≤ 1000000) : 1 ≤ slpG l b i := by
  have d := slpD_b l hv b i hb
  have : 0 < Nat.gcd (sz (slpN l i)).toNat (slpD l b i).toNat := Nat.gcd_pos_of_pos_right _ (by omega)
  unfold slpG; omega
theorem sz_nn (a : Int) : 0 ≤ sz a := by unfold sz; split <;> omega
theorem e_spec_l03Slope (l : List Int) (h16 : I16 l) (hv : Valid l) (b i : Int) (hb : 1 ≤ b ∧ b ≤ 1000000) (hi : -1 ≤ i ∧ i ≤ 100000) : Ev (fun k => spec_l03Slope.f k l b i) (slp l b i) := by
  have hn := hv.1
  have hn2 := hv.2.1
  obtain ⟨n1, n2, n3⟩ := slpN_b l hv i
  have d := slpD_b l hv b i hb
  have a0 := hv.atzb i
  unfold spec_l03Slope.f
  have eN : (atz l (i + 1) - atz l i) * (l.length : Int) * 7 = slpN l i := rfl
  have eD : 44 * (b + atz l i) = slpD l b i := rfl
  simp (disch := omega) only [w64, e_spec_l01At l h16, Option.bind_some, eN, eD, e_spec_l01Size]
  have := gcd_loop spec_l03Gcd.l0 (fun k a b => by simp only [spec_l03Gcd.l0]) (sz (slpN l i)).toNat (slpD l b i).toNat
  rw [Int.toNat_of_nonneg (sz_nn _), Int.toNat_of_nonneg (by omega)] at this
  unfold spec_l03Gcd.f
  refine Ev.bind this ?_
  have g := slpG_b l hv b i hb
  unfold slpG at g
  refine ev_neg (by omega) (evo rfl)
theorem e_impl_slope (l : List Int) (h16 : I16 l) (hv : Valid l) (b g i : Int) (hb : 1 ≤ b ∧ b ≤ 1000000) (hi : -1 ≤ i ∧ i ≤ 100000) : Ev (fun k => impl_Cam_slope.f k l b g i) (slp l b i) := by
  have hn := hv.1
  have hn2 := hv.2.1
  obtain ⟨n1, n2, n3⟩ := slpN_b l hv i
  have d := slpD_b l hv b i hb
  have a0 := hv.atzb i
  unfold impl_Cam_slope.f impl_Cam_change.f
  have eN : (atz l (i + 1) - atz l i) * (l.length : Int) * 7 = slpN l i := rfl
  have eD : 44 * (b + atz l i) = slpD l b i := rfl
  simp (disch := omega) only [w64, e_impl_Cam_at l h16, e_impl_Cam_steps, Option.bind_some, eN, eD, e_impl_abs]
  have := gcd_loop impl_common.l0 (fun k a b => by simp only [impl_common.l0]) (sz (slpN l i)).toNat (slpD l b i).toNat
  rw [Int.toNat_of_nonneg (sz_nn _), Int.toNat_of_nonneg (by omega)] at this
  unfold impl_common.f
  refine Ev.bind this ?_
  have g := slpG_b l hv b i hb
  unfold slpG at g
  refine ev_neg (by omega) (evo rfl)

/-! asked -/
def FolOK (b g : Int) : Prop := (1 ≤ b ∧ b ≤ 20000) ∧ (1 ≤ g ∧ g ≤ 10000)
instance (b g : Int) : Decidable (FolOK b g) := by unfold FolOK; infer_instance
def askC (l : List Int) (b g : Int) : Int := if Valid l ∧ FolOK b g then 0 else 1
theorem askC_0 {l : List Int} {b g : Int} (h : askC l b g = 0) : Valid l ∧ FolOK b g := by
  unfold askC at h
  by_cases c : Valid l ∧ FolOK b g
  · exact c
  · rw [if_neg c] at h; omega
theorem askC_1 {l : List Int} {b g : Int} (h : ¬ askC l b g = 0) : askC l b g = 1 := by
  unfold askC at h ⊢
  by_cases c : Valid l ∧ FolOK b g
  · rw [if_pos c] at h; omega
  · rw [if_neg c]
theorem e_spec_l03Asked (l : List Int) (h16 : I16 l) (hl : l.length ≤ 1048576) (b g : Int) : Ev (fun k => spec_l03Asked.f k l b g) (askC l b g) := by
  unfold spec_l03Asked.f askC
  refine Ev.bind (e_spec_l01Ok l h16 hl) ?_
  by_cases hv : Valid l
  · simp only [hv, decide_true, if_true, true_and, spec_l03Ok.f, e_spec_l00In, Option.bind_some]
    by_cases h1 : 1 ≤ b ∧ b ≤ 20000
    · simp only [decide_eq_true h1, if_true, Option.bind_some]
      by_cases h2 : 1 ≤ g ∧ g ≤ 10000
      · simp only [decide_eq_true h2, if_true]
        exact evo (by rw [if_pos (show FolOK b g from ⟨h1, h2⟩)])
      · simp only [decide_eq_false h2, Bool.false_eq_true, if_false]
        exact evo (by rw [if_neg (show ¬ FolOK b g from fun h => h2 h.2)])
    · simp only [decide_eq_false h1, Bool.false_eq_true, if_false, Option.bind_some]
      exact evo (by rw [if_neg (show ¬ FolOK b g from fun h => h1 h.1)])
  · simp only [hv, decide_false, Bool.false_eq_true, if_false, false_and]; exact evo rfl
theorem e_impl_camCode (l : List Int) (h16 : I16 l) (hl : l.length ≤ 1048576) (b g : Int) : Ev (fun k => impl_camCode.f k l b g) (askC l b g) := by
  unfold impl_camCode.f askC
  refine Ev.bind (e_impl_ValidCam l h16 hl) ?_
  by_cases hv : Valid l
  · simp only [hv, decide_true, if_true, true_and, impl_ValidFollower.f, impl_isSpring.f, e_impl_inRange, Option.bind_some]
    by_cases h1 : 1 ≤ b ∧ b ≤ 20000
    · simp only [decide_eq_true h1, if_true, Option.bind_some]
      by_cases h2 : 1 ≤ g ∧ g ≤ 10000
      · simp only [decide_eq_true h2, if_true]
        exact evo (by rw [if_pos (show FolOK b g from ⟨h1, h2⟩)])
      · simp only [decide_eq_false h2, Bool.false_eq_true, if_false]
        exact evo (by rw [if_neg (show ¬ FolOK b g from fun h => h2 h.2)])
    · simp only [decide_eq_false h1, Bool.false_eq_true, if_false, Option.bind_some]
      exact evo (by rw [if_neg (show ¬ FolOK b g from fun h => h1 h.1)])
  · simp only [hv, decide_false, Bool.false_eq_true, if_false, false_and]; exact evo rfl

/-! SlopeAt -/
def saR (l : List Int) (b g i : Int) : Int × Int × Int := if askC l b g = 0 then (if 0 ≤ i ∧ i ≤ (l.length : Int) - 1 then ((slp l b i).1, (slp l b i).2, 0) else (0, 0, 2)) else (0, 0, 1)
theorem e_spec_SlopeAt (l : List Int) (h16 : I16 l) (hl : l.length ≤ 1048576) (b g i : Int) : Ev (fun k => spec_SlopeAt.f k l b g i) (saR l b g i) := by
  unfold spec_SlopeAt.f saR
  refine Ev.bind (e_spec_l03Asked l h16 hl b g) ?_
  by_cases h : askC l b g = 0
  · obtain ⟨hv, hf⟩ := askC_0 h
    have h2 := hv.2.1
    have hb := hf.1
    simp (disch := omega) only [if_pos h, w64, e_spec_l00In, Option.bind_some]
    by_cases d : 0 ≤ i ∧ i ≤ (l.length : Int) - 1
    · simp only [decide_eq_true d, if_pos d, if_true]
      exact Ev.bind (e_spec_l03Slope l h16 hv b i (by omega) (by omega)) (evo rfl)
    · simp only [decide_eq_false d, if_neg d, Bool.false_eq_true, if_false]; exact evo rfl
  · simp only [if_neg h]; exact evo (by rw [askC_1 h])
theorem e_impl_SlopeAt (l : List Int) (h16 : I16 l) (hl : l.length ≤ 1048576) (b g i : Int) : Ev (fun k => impl_SlopeAt.f k l b g i) (saR l b g i) := by
  unfold impl_SlopeAt.f saR
  refine Ev.bind (e_impl_camCode l h16 hl b g) ?_
  by_cases h : askC l b g = 0
  · obtain ⟨hv, hf⟩ := askC_0 h
    have h2 := hv.2.1
    have hb := hf.1
    simp (disch := omega) only [if_pos h, w64, impl_isPlace.f, e_impl_inRange, Option.bind_some]
    by_cases d : 0 ≤ i ∧ i ≤ (l.length : Int) - 1
    · simp only [decide_eq_true d, if_pos d, if_true]
      exact Ev.bind (e_impl_slope l h16 hv b g i (by omega) (by omega)) (evo rfl)
    · simp only [decide_eq_false d, if_neg d, Bool.false_eq_true, if_false]; exact evo rfl
  · simp only [if_neg h]; exact evo rfl

/-! laws_cam -/
theorem e_laws_toCam (l : List Int) (hl : l.length ≤ 1048576) : Ev (fun k => laws_toCam.f k l) l := by
  unfold laws_toCam.f
  simp (disch := omega) only [if_pos]
  have := ev_loop (fun k j => laws_toCam.l0 k l (l.take j ++ List.replicate (l.length - j) 0) (j : Int)) l.length l ?_ ?_
  · simpa using this
  · intro j hj ih
    refine evs ?_
    have e : ((l.take j ++ List.replicate (l.length - j) 0).length : Int) = l.length := by simp; omega
    simp (disch := omega) only [laws_toCam.l0, if_pos, e, w64]
    have e2 : (l.take j ++ List.replicate (l.length - j) 0).set ((j : Int)).toNat (rd l (j : Int)) = l.take (j + 1) ++ List.replicate (l.length - (j + 1)) 0 := by
      have e3 : l.length - j = (l.length - (j + 1)) + 1 := by omega
      rw [e3, List.replicate_succ, Int.toNat_natCast, set_app _ _ _ _ _ (by simp; omega), rd_nat, List.take_succ_eq_append_getElem hj]
      have e4 : l.getD j 0 = l[j] := by simp [List.getD_eq_getElem?_getD, hj]
      rw [e4, List.append_assoc, List.singleton_append]
    rw [e2]
    exact ih
  · refine evs ?_
    simp (disch := omega) only [laws_toCam.l0, if_neg]
    exact evo (by simp)
theorem e_laws_eqCam (l : List Int) (hl : l.length ≤ 1048576) : Ev (fun k => laws_eqCam.f k l l) true := by
  unfold laws_eqCam.f
  simp only [if_true]
  have := ev_loop (fun k j => laws_eqCam.l0 k l l (j : Int)) l.length true ?_ ?_
  · exact this
  · intro j hj ih
    refine evs ?_
    simp (disch := omega) only [laws_eqCam.l0, if_pos, if_true, w64]
    exact ih
  · refine evs ?_
    simp (disch := omega) only [laws_eqCam.l0, if_neg]
    exact evo rfl

/-! laws_toFollower -/
theorem e_laws_toFollower (a b : Int) : laws_toFollower.f a b = some (a, b) := rfl

set_option maxHeartbeats 4000000 in
theorem FnExactSlopeAt : ∀ (l0 : List Int) (a1_0 : Int) (a1_1 : Int) (a2 : Int), (l0.length ≤ maxLen ∧ ∀ x2 ∈ l0, (Lit.int .i16 x2).wf = true) → (Lit.int .i64 a1_0).wf = true → (Lit.int .i64 a1_1).wf = true → (Lit.int .i64 a2).wf = true → ∃ k, laws_FnExactSlopeAt.f k l0 a1_0 a1_1 a2 = some true := by
  rintro l0 a1_0 a1_1 a2 ⟨_, w0⟩ v1 v2 v3
  have h0 := I16.of_wf w0
  have i1 := wf_i64 v1
  have i2 := wf_i64 v2
  have i3 := wf_i64 v3
  refine ev_rounds ?_
  unfold laws_FnExactSlopeAt.f
  by_cases b0 : (l0.length : Int) > 1048576
  · simp only [if_pos b0]; exact evo rfl
  simp only [if_neg b0]
  have b0 : l0.length ≤ 1048576 := by omega
  have T0 := e_laws_toCam l0 b0
  have Q0 := e_laws_eqCam l0 b0
  have A := e_spec_SlopeAt l0 h0 b0 a1_0 a1_1 a2
  have B := e_impl_SlopeAt l0 h0 b0 a1_0 a1_1 a2
  revert A B
  generalize (saR l0 a1_0 a1_1 a2) = RR
  obtain ⟨c0, c1, c2⟩ := RR
  intro A B
  repeat (first | exact evo rfl | (simp only [laws_toFollower.f, laws_eqSlope.f, Option.bind_some, if_true]) | (with_reducible refine Ev.bind T0 ?_) | (with_reducible refine Ev.bind Q0 ?_) | (with_reducible refine Ev.bind A ?_) | (with_reducible refine Ev.bind B ?_) | ((with_reducible refine ev_pos ?s1 ?_); (case s1 => first | rfl | trivial | omega | (dsimp only; omega))) | ((with_reducible refine ev_neg ?s1 ?_); (case s1 => first | omega | (dsimp only; omega) | (simp; done))) | (refine evs ?_; simp only [laws_FnExactSlopeAt.j0]))


end Go.Proofs.Ytmklaccobbkebaa.Pure
