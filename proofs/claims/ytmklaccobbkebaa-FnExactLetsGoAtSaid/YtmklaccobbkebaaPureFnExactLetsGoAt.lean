/- The pure statement of the law FnExactLetsGoAt: the program's function and the reference's tell the same of every input, by plain lemmas on numbers, lists and rounds; no further condition. -/
import Derived.Test.YtmklaccobbkebaaXFnExactLetsGoAtx
import Derived.Test.YtmklaccobbkebaaXLib
namespace Go.Proofs.Ytmklaccobbkebaa.Pure
open Go.RowKit Go.Proofs.Ytmklaccobbkebaa.XFnExactLetsGoAt Go.Proofs.Ytmklaccobbkebaa.XLib Go.Proofs.YtmklaccobbkebaaW.PrintWords Go.Proofs.YtmklaccobbkebaaW.PrintLast Go.Proofs.YtmklaccobbkebaaW.PrintMore
set_option maxRecDepth 100000
set_option linter.unusedVariables false
set_option linter.unusedSimpArgs false
/-! spec_at -/
theorem e_spec_l01At (l : List Int) (h16 : I16 l) (h0 : 0 < l.length) (hl : l.length ≤ 1048576) (a : Int) (ha : -1000000000000 ≤ a) (hb : a ≤ 1000000000000) : spec_l01At.f l a = some (atz l a) := by
  unfold spec_l01At.f atz
  have hn : (0 : Int) < l.length := by omega
  have b := tmod_b a hn
  rw [if_neg (by omega), w64 (by omega) (by omega), two_mods a hn]
  have c := emod_b a hn
  rw [if_pos c.1, if_pos c.2]
  have := h16.rdb (a % (l.length : Int))
  rw [w64 (by omega) (by omega)]

/-! base_impl -/
theorem e_impl_inRange (a b c : Int) : impl_inRange.f a b c = some (decide (b ≤ a ∧ a ≤ c)) := by
  unfold impl_inRange.f
  by_cases h : b ≤ a <;> simp [h]
theorem e_impl_isSteps (a : Int) : impl_isSteps.f a = some (decide (8 ≤ a ∧ a ≤ 360)) := by
  unfold impl_isSteps.f; rw [e_impl_inRange]; rfl
theorem e_impl_isLift (a : Int) : impl_isLift.f a = some (decide (0 ≤ a ∧ a ≤ 10000)) := by
  unfold impl_isLift.f; rw [e_impl_inRange]; rfl
theorem e_impl_Cam_steps (l : List Int) : impl_Cam_steps.f l = some (l.length : Int) := rfl
theorem e_impl_ValidCam (l : List Int) (h16 : I16 l) (hl : l.length ≤ 1048576) : Ev (fun k => impl_ValidCam.f k l) (decide (Valid l)) := by
  unfold impl_ValidCam.f
  simp only [e_impl_Cam_steps, e_impl_isSteps, Option.bind_some]
  by_cases h : 8 ≤ (l.length : Int) ∧ (l.length : Int) ≤ 360
  · simp only [h, and_self, decide_true, if_true]
    unfold slices_ContainsFunc_at_impl_ValidCam_c1.f slices_IndexFunc_at_impl_ValidCam_c1.f
    have := ev_find (fun k j => slices_IndexFunc_at_impl_ValidCam_c1.l0 k l (l.length : Int) (j : Int)) (fun j => decide (0 ≤ rd l (j : Int) ∧ rd l (j : Int) ≤ 10000)) l.length (-1) (fun j => (j : Int)) ?_ ?_ ?_
    · refine Ev.bind (Ev.bind this (evo rfl)) (evo ?_)
      rcases ff_eq (fun j => decide (0 ≤ rd l (j : Int) ∧ rd l (j : Int) ≤ 10000)) (-1 : Int) (fun j => (j : Int)) l.length with ⟨hh, e⟩ | ⟨m, hm, hf, _, e⟩
      · rw [e, decide_eq_true (show Valid l from ⟨by omega, by omega, fun j hj => by simpa using hh j hj⟩)]; rfl
      · rw [e, decide_eq_false (show ¬ Valid l from fun hv => by rw [decide_eq_true (hv.2.2 m hm)] at hf; cases hf)]
        simp
    · intro j r hj hp ih
      refine evs ?_
      have hb := h16.rdb (j : Int)
      simp (disch := omega) only [slices_IndexFunc_at_impl_ValidCam_c1.l0, impl_ValidCam_c1.f, if_pos, e_impl_isLift, Option.bind_some, w64]
      first | exact ih | (rw [hp]; simp only [Bool.not_true, Bool.false_eq_true, if_false]; exact ih)
    · intro j hj hp
      refine evs ?_
      have hb := h16.rdb (j : Int)
      simp (disch := omega) only [slices_IndexFunc_at_impl_ValidCam_c1.l0, impl_ValidCam_c1.f, if_pos, e_impl_isLift, Option.bind_some, w64]
      first | exact evo rfl | (rw [hp]; exact evo rfl)
    · refine evs ?_
      simp (disch := omega) only [slices_IndexFunc_at_impl_ValidCam_c1.l0, if_neg]
      exact evo rfl
  · rw [decide_eq_false h]
    simp only [Bool.false_eq_true, if_false]
    exact evo (decide_eq_false (fun hv => h ⟨by have := hv.1; omega, by have := hv.2.1; omega⟩)).symm

/-! impl_mod -/
theorem e_impl_floorDiv (a n : Int) (h : 0 < n) (ha : -9223372036854775807 ≤ a) (hb : a ≤ 9223372036854775807) : impl_floorDiv.f a n = some (a / n) := by
  unfold impl_floorDiv.f
  have := tdiv_b a h 9223372036854775807 ha hb
  rw [if_neg (by omega), ← floor_tdiv a h]
  by_cases c : Int.tmod a n < 0
  · simp (disch := omega) only [if_pos c, w64]
  · simp (disch := omega) only [if_neg c, w64]
theorem e_impl_mod (a n : Int) (h : 0 < n) (hn : n ≤ 1048576) (ha : -1000000000000 ≤ a) (hb : a ≤ 1000000000000) : impl_mod.f a n = some (a % n) := by
  unfold impl_mod.f
  rw [e_impl_floorDiv a n h (by omega) (by omega)]
  have e := Int.emod_add_mul_ediv a n
  have b := emod_b a h
  simp (disch := omega) only [Option.bind_some, w64, mod_ediv]

/-! impl_at -/
theorem e_impl_Cam_at (l : List Int) (h16 : I16 l) (h0 : 0 < l.length) (hl : l.length ≤ 1048576) (a : Int) (ha : -1000000000000 ≤ a) (hb : a ≤ 1000000000000) : impl_Cam_at.f l a = some (atz l a) := by
  unfold impl_Cam_at.f atz
  have hn : (0 : Int) < l.length := by omega
  have c := emod_b a hn
  rw [e_impl_Cam_steps, Option.bind_some, e_impl_mod a _ hn (by omega) ha hb, Option.bind_some, if_pos c.1, if_pos c.2]
  have := h16.rdb (a % (l.length : Int))
  rw [w64 (by omega) (by omega)]

/-! base_spec -/
theorem e_spec_l00In (a b c : Int) : spec_l00In.f a b c = some (decide (b ≤ a ∧ a ≤ c)) := by
  unfold spec_l00In.f
  by_cases h : b ≤ a <;> simp [h]
theorem e_spec_l01Steps (a : Int) : spec_l01Steps.f a = some (decide (8 ≤ a ∧ a ≤ 360)) := by
  unfold spec_l01Steps.f; rw [e_spec_l00In]; rfl
theorem e_spec_l01Lift (a : Int) : spec_l01Lift.f a = some (decide (0 ≤ a ∧ a ≤ 10000)) := by
  unfold spec_l01Lift.f; rw [e_spec_l00In]; rfl
theorem e_spec_l01Ok (l : List Int) (h16 : I16 l) (hl : l.length ≤ 1048576) : Ev (fun k => spec_l01Ok.f k l) (decide (Valid l)) := by
  unfold spec_l01Ok.f
  simp only [e_spec_l01Steps, Option.bind_some]
  by_cases h : 8 ≤ (l.length : Int) ∧ (l.length : Int) ≤ 360
  · simp only [h, and_self, decide_true, if_true]
    have := ev_find (fun k j => spec_l01Ok.l0 k l (j : Int)) (fun j => decide (0 ≤ rd l (j : Int) ∧ rd l (j : Int) ≤ 10000)) l.length true (fun _ => false) ?_ ?_ ?_
    · rw [ff_all] at this
      refine eve this ?_
      apply decide_eq_decide.mpr
      unfold Valid
      constructor
      · intro hh; exact ⟨by omega, by omega, fun j hj => by simpa using hh j hj⟩
      · intro hh j hj; simpa using hh.2.2 j hj
    · intro j r hj hp ih
      refine evs ?_
      have hb := h16.rdb (j : Int)
      simp (disch := omega) only [spec_l01Ok.l0, if_pos, e_spec_l01Lift, Option.bind_some, w64]
      first | exact ih | (rw [hp]; simp only [if_true]; exact ih)
    · intro j hj hp
      refine evs ?_
      have hb := h16.rdb (j : Int)
      simp (disch := omega) only [spec_l01Ok.l0, if_pos, e_spec_l01Lift, Option.bind_some, w64]
      first | exact evo rfl | (rw [hp]; exact evo rfl)
    · refine evs ?_
      simp (disch := omega) only [spec_l01Ok.l0, if_neg]
      exact evo rfl
  · rw [decide_eq_false h]
    simp only [Bool.false_eq_true, if_false]
    exact evo (decide_eq_false (fun hv => h ⟨by have := hv.1; omega, by have := hv.2.1; omega⟩)).symm

/-! trk -/
def nxt (s : S128) (c g : Int) : S128 := if wrap64 (s.f0 + wrap64 (s.f1 - g)) > c then ⟨wrap64 (s.f0 + wrap64 (s.f1 - g)), wrap64 (s.f1 - g), false⟩ else ⟨c, wrap64 (c - s.f0), true⟩
def trk (l : List Int) (g : Int) : Nat → S128
  | 0 => ⟨atz l 0, wrap64 (atz l 0 - atz l (-1)), true⟩
  | j + 1 => nxt (trk l g j) (atz l ((j + 1 : Nat) : Int)) g
theorem trk_s (l : List Int) (g : Int) (j : Nat) : trk l g (j + 1) = nxt (trk l g j) (atz l ((j + 1 : Nat) : Int)) g := rfl
def trkL (l : List Int) (g : Int) (n : Nat) : List S128 := (List.range (n + 1)).map (trk l g)
theorem trkL_len (l : List Int) (g : Int) (n : Nat) : (trkL l g n).length = n + 1 := by simp [trkL]
theorem rdT_map (f : Nat → S128) (n : Nat) (i : Int) (h0 : 0 ≤ i) (h1 : i < n) : rd_T128 ((List.range n).map f) i = f i.toNat := by
  unfold rd_T128
  have : i.toNat < n := by omega
  simp [List.getD_eq_getElem?_getD, this]
theorem trkL_rd (l : List Int) (g : Int) (n : Nat) (j : Nat) (h : j ≤ n) : rd_T128 (trkL l g n) (j : Int) = trk l g j := by
  unfold trkL; rw [rdT_map _ _ _ (by omega) (by omega)]; simp
theorem trkL_snoc (l : List Int) (g : Int) (n : Nat) : trkL l g (n + 1) = trkL l g n ++ [trk l g (n + 1)] := by unfold trkL; rw [map_snoc]
theorem e_spec_next (s : S128) (c g : Int) : spec_l03Next.f s.f0 s.f1 s.f2 c g = some ((nxt s c g).f0, (nxt s c g).f1, (nxt s c g).f2) := by
  unfold spec_l03Next.f nxt
  by_cases h : wrap64 (s.f0 + wrap64 (s.f1 - g)) > c
  · simp only [if_pos h]
  · simp only [if_neg h]
theorem e_spec_l03Follow (l : List Int) (h16 : I16 l) (h0 : 0 < l.length) (hl : l.length ≤ 1048576) (g : Int) (n : Nat) (hn : n ≤ 100000) : Ev (fun k => spec_l03Follow.f k l g (n : Int)) (trkL l g n) := by
  unfold spec_l03Follow.f spec_l03Begin.f
  simp (disch := omega) only [e_spec_l01At l h16, Option.bind_some]
  have := ev_loop (fun k j => spec_l03Follow.l0 k l g (n : Int) (trkL l g j) ((j : Int) + 1)) n (trkL l g n) ?_ ?_
  · exact this
  · intro j hj ih
    refine evs ?_
    have e := trkL_len l g j
    have e2 : (j : Int) + 1 - 1 = j := by omega
    have e3 := trkL_rd l g j j (Nat.le_refl j)
    simp (disch := omega) only [spec_l03Follow.l0, if_pos, w64, e, e2, e3, e_spec_l01At l h16, Option.bind_some]
    have e4 : spec_l03Next.f (trk l g j).f0 (trk l g j).f1 (trk l g j).f2 (atz l ((j : Int) + 1)) g = some ((trk l g (j + 1)).f0, (trk l g (j + 1)).f1, (trk l g (j + 1)).f2) := by
      rw [trk_s]; exact e_spec_next _ _ _
    rw [e4]
    rw [trkL_snoc] at ih
    simp only [Option.bind_some]
    exact ih
  · refine evs ?_
    simp (disch := omega) only [spec_l03Follow.l0, if_neg]
    exact evo rfl
theorem e_impl_next (s : S128) (c g : Int) : impl_Track_next.f s.f0 s.f1 s.f2 c g = some ((nxt s c g).f0, (nxt s c g).f1, (nxt s c g).f2) := by
  unfold impl_Track_next.f nxt
  by_cases h : wrap64 (s.f0 + wrap64 (s.f1 - g)) > c
  · simp only [if_pos h]
  · simp only [if_neg h]
theorem e_impl_follow (l : List Int) (h16 : I16 l) (h0 : 0 < l.length) (hl : l.length ≤ 1048576) (g : Int) (n : Nat) (hn : n ≤ 100000) : Ev (fun k => impl_Cam_follow.f k l g (n : Int)) (trkL l g n) := by
  unfold impl_Cam_follow.f impl_Cam_change.f
  simp (disch := omega) only [e_impl_Cam_at l h16, w64, Option.bind_some]
  have := ev_loop (fun k j => impl_Cam_follow.l0 k l g (n : Int) (trkL l g j) ((j : Int) + 1) (trk l g j).f0 (trk l g j).f1 (trk l g j).f2) n (trkL l g n) ?_ ?_
  · exact this
  · intro j hj ih
    refine evs ?_
    have e := trkL_len l g j
    simp (disch := omega) only [impl_Cam_follow.l0, if_pos, w64, e, e_impl_Cam_at l h16, Option.bind_some]
    have e4 : impl_Track_next.f (trk l g j).f0 (trk l g j).f1 (trk l g j).f2 (atz l ((j : Int) + 1)) g = some ((trk l g (j + 1)).f0, (trk l g (j + 1)).f1, (trk l g (j + 1)).f2) := by
      rw [trk_s]; exact e_impl_next _ _ _
    rw [e4]
    rw [trkL_snoc] at ih
    simp only [Option.bind_some]
    exact ih
  · refine evs ?_
    simp (disch := omega) only [impl_Cam_follow.l0, if_neg]
    exact evo rfl

/-! asked -/
def FolOK (b g : Int) : Prop := (1 ≤ b ∧ b ≤ 20000) ∧ (1 ≤ g ∧ g ≤ 10000)
instance (b g : Int) : Decidable (FolOK b g) := by unfold FolOK; infer_instance
def askC (l : List Int) (b g : Int) : Int := if Valid l ∧ FolOK b g then 0 else 1
theorem askC_0 {l : List Int} {b g : Int} (h : askC l b g = 0) : Valid l ∧ FolOK b g := by
  unfold askC at h
  by_cases c : Valid l ∧ FolOK b g
  · exact c
  · rw [if_neg c] at h; omega
theorem askC_1 {l : List Int} {b g : Int} (h : ¬ askC l b g = 0) : askC l b g = 1 := by
  unfold askC at h ⊢
  by_cases c : Valid l ∧ FolOK b g
  · rw [if_pos c] at h; omega
  · rw [if_neg c]
theorem e_spec_l03Asked (l : List Int) (h16 : I16 l) (hl : l.length ≤ 1048576) (b g : Int) : Ev (fun k => spec_l03Asked.f k l b g) (askC l b g) := by
  unfold spec_l03Asked.f askC
  refine Ev.bind (e_spec_l01Ok l h16 hl) ?_
  by_cases hv : Valid l
  · simp only [hv, decide_true, if_true, true_and, spec_l03Ok.f, e_spec_l00In, Option.bind_some]
    by_cases h1 : 1 ≤ b ∧ b ≤ 20000
    · simp only [decide_eq_true h1, if_true, Option.bind_some]
      by_cases h2 : 1 ≤ g ∧ g ≤ 10000
      · simp only [decide_eq_true h2, if_true]
        exact evo (by rw [if_pos (show FolOK b g from ⟨h1, h2⟩)])
      · simp only [decide_eq_false h2, Bool.false_eq_true, if_false]
        exact evo (by rw [if_neg (show ¬ FolOK b g from fun h => h2 h.2)])
    · simp only [decide_eq_false h1, Bool.false_eq_true, if_false, Option.bind_some]
      exact evo (by rw [if_neg (show ¬ FolOK b g from fun h => h1 h.1)])
  · simp only [hv, decide_false, Bool.false_eq_true, if_false, false_and]; exact evo rfl
theorem e_impl_camCode (l : List Int) (h16 : I16 l) (hl : l.length ≤ 1048576) (b g : Int) : Ev (fun k => impl_camCode.f k l b g) (askC l b g) := by
  unfold impl_camCode.f askC
  refine Ev.bind (e_impl_ValidCam l h16 hl) ?_
  by_cases hv : Valid l
  · simp only [hv, decide_true, if_true, true_and, impl_ValidFollower.f, impl_isSpring.f, e_impl_inRange, Option.bind_some]
    by_cases h1 : 1 ≤ b ∧ b ≤ 20000
    · simp only [decide_eq_true h1, if_true, Option.bind_some]
      by_cases h2 : 1 ≤ g ∧ g ≤ 10000
      · simp only [decide_eq_true h2, if_true]
        exact evo (by rw [if_pos (show FolOK b g from ⟨h1, h2⟩)])
      · simp only [decide_eq_false h2, Bool.false_eq_true, if_false]
        exact evo (by rw [if_neg (show ¬ FolOK b g from fun h => h2 h.2)])
    · simp only [decide_eq_false h1, Bool.false_eq_true, if_false, Option.bind_some]
      exact evo (by rw [if_neg (show ¬ FolOK b g from fun h => h1 h.1)])
  · simp only [hv, decide_false, Bool.false_eq_true, if_false, false_and]; exact evo rfl

/-! find2 -/
theorem ev_find2 {ρ : Type} (L : Nat → Nat → Option ρ) (p : Nat → Bool) (n : Nat) (r1 : ρ) (r2 : Nat → ρ)
    (ht : ∀ j r, j < n → p j = true → Ev (fun k => L k (j + 1)) r → Ev (fun k => L k j) r) (hf : ∀ j, j < n → p j = false → Ev (fun k => L k j) (r2 j))
    (he : (∀ j, j < n → p j = true) → Ev (fun k => L k n) r1) : Ev (fun k => L k 0) (ff p r1 r2 n 0) := by
  suffices H : ∀ d j, j + d = n → (∀ i, i < j → p i = true) → Ev (fun k => L k j) (ff p r1 r2 d j) from H n 0 (by omega) (fun i hi => by omega)
  intro d
  induction d with
  | zero => intro j hj hp; obtain rfl : j = n := by omega
            exact he hp
  | succ d ih =>
    intro j hj hp
    unfold ff
    by_cases c : p j = true
    · rw [if_pos c]; exact ht j _ (by omega) c (ih (j + 1) (by omega) (fun i hi => by by_cases e : i = j; · rw [e]; exact c
                                                                                      · exact hp i (by omega)))
    · rw [if_neg c]; exact hf j (by omega) (by simpa using c)
theorem ff_map {ρ σ : Type} (f : ρ → σ) (p : Nat → Bool) (r1 : ρ) (r2 : Nat → ρ) (d j : Nat) : f (ff p r1 r2 d j) = ff p (f r1) (fun i => f (r2 i)) d j := by
  induction d generalizing j with
  | zero => rfl
  | succ d ih => unfold ff; split
                 · exact ih _
                 · rfl

/-! LetsGoAt -/
def lgR (l : List Int) (b g : Int) : Int × Int := if askC l b g = 0 then ff (fun j : Nat => (trk l g (j + 1)).f2) ((0 : Int), (6 : Int)) (fun j => ((j : Int) + 1, (0 : Int))) l.length 0 else (0, 1)
theorem e_spec_LetsGoAt (l : List Int) (h16 : I16 l) (hl : l.length ≤ 1048576) (b g : Int) : Ev (fun k => spec_LetsGoAt.f k l b g) (lgR l b g) := by
  unfold spec_LetsGoAt.f lgR
  refine Ev.bind (e_spec_l03Asked l h16 hl b g) ?_
  by_cases h : askC l b g = 0
  · obtain ⟨hv, hf⟩ := askC_0 h
    have h1 := hv.1
    have h2 := hv.2.1
    simp only [if_pos h]
    refine Ev.bind (e_spec_l03Follow l h16 (by omega) hl g l.length (by omega)) ?_
    have e := trkL_len l g l.length
    have := ev_find (fun k j => spec_LetsGoAt.l0 k (trkL l g l.length) ((j : Int) + 1)) (fun j : Nat => (trk l g (j + 1)).f2) l.length ((0 : Int), (6 : Int)) (fun j => ((j : Int) + 1, (0 : Int))) ?_ ?_ ?_
    · exact this
    · intro j r hj hp ih
      refine evs ?_
      have e2 := trkL_rd l g l.length (j + 1) (by omega)
      rw [show ((j + 1 : Nat) : Int) = (j : Int) + 1 from rfl] at e2
      simp (disch := omega) only [spec_LetsGoAt.l0, if_pos, w64, e, e2]
      first | exact ih | (rw [hp]; exact ih)
    · intro j hj hp
      refine evs ?_
      have e2 := trkL_rd l g l.length (j + 1) (by omega)
      rw [show ((j + 1 : Nat) : Int) = (j : Int) + 1 from rfl] at e2
      simp (disch := omega) only [spec_LetsGoAt.l0, if_pos, w64, e, e2]
      first | exact evo rfl | (rw [hp]; exact evo rfl)
    · refine evs ?_
      simp (disch := omega) only [spec_LetsGoAt.l0, if_neg, e]
      exact evo rfl
  · simp only [if_neg h]; exact evo (by rw [askC_1 h])
theorem e_impl_LetsGoAt (l : List Int) (h16 : I16 l) (hl : l.length ≤ 1048576) (b g : Int) : Ev (fun k => impl_LetsGoAt.f k l b g) (lgR l b g) := by
  unfold impl_LetsGoAt.f lgR
  refine Ev.bind (e_impl_camCode l h16 hl b g) ?_
  by_cases h : askC l b g = 0
  · obtain ⟨hv, hf⟩ := askC_0 h
    have h1 := hv.1
    have h2 := hv.2.1
    simp only [if_pos h, e_impl_Cam_steps, Option.bind_some]
    refine Ev.bind (e_impl_follow l h16 (by omega) hl g l.length (by omega)) ?_
    have e := trkL_len l g l.length
    unfold slices_IndexFunc_at_impl_LetsGoAt_c1.f
    refine Ev.bind (a := ff (fun j : Nat => (trk l g (j + 1)).f2) (-1 : Int) (fun j => (j : Int) + 1) l.length 0) ?_ ?_
    · refine evs ?_
      have e0 := trkL_rd l g l.length 0 (by omega)
      rw [show ((0 : Nat) : Int) = 0 from rfl] at e0
      simp (disch := omega) only [slices_IndexFunc_at_impl_LetsGoAt_c1.l0, impl_LetsGoAt_c1.f, if_pos, w64, e, e0, Option.bind_some]
      simp only [show (trk l g 0).f2 = true from rfl, Bool.not_true, Bool.false_eq_true, if_false]
      have := ev_find (fun k j => slices_IndexFunc_at_impl_LetsGoAt_c1.l0 k (trkL l g l.length) ((l.length + 1 : Nat) : Int) ((j : Int) + 1)) (fun j : Nat => (trk l g (j + 1)).f2) l.length (-1 : Int) (fun j => (j : Int) + 1) ?_ ?_ ?_
      · exact this
      · intro j r hj hp ih
        refine evs ?_
        have e2 := trkL_rd l g l.length (j + 1) (by omega)
        rw [show ((j + 1 : Nat) : Int) = (j : Int) + 1 from rfl] at e2
        simp (disch := omega) only [slices_IndexFunc_at_impl_LetsGoAt_c1.l0, impl_LetsGoAt_c1.f, if_pos, w64, e, e2, Option.bind_some]
        first | exact ih | (rw [hp]; exact ih)
      · intro j hj hp
        refine evs ?_
        have e2 := trkL_rd l g l.length (j + 1) (by omega)
        rw [show ((j + 1 : Nat) : Int) = (j : Int) + 1 from rfl] at e2
        simp (disch := omega) only [slices_IndexFunc_at_impl_LetsGoAt_c1.l0, impl_LetsGoAt_c1.f, if_pos, w64, e, e2, Option.bind_some]
        first | exact evo rfl | (rw [hp]; exact evo rfl)
      · refine evs ?_
        simp (disch := omega) only [slices_IndexFunc_at_impl_LetsGoAt_c1.l0, if_neg]
        exact evo rfl
    · have e2 := ff_map (fun x : Int => if x < 0 then some ((0 : Int), (6 : Int)) else some (x, (0 : Int))) (fun j : Nat => (trk l g (j + 1)).f2) (-1 : Int) (fun j => (j : Int) + 1) l.length 0
      have e3 := ff_map (fun x : Int × Int => some x) (fun j : Nat => (trk l g (j + 1)).f2) ((0 : Int), (6 : Int)) (fun j => ((j : Int) + 1, (0 : Int))) l.length 0
      rw [e2]
      have e4 : (fun i : Nat => if (i : Int) + 1 < 0 then some ((0 : Int), (6 : Int)) else some ((i : Int) + 1, (0 : Int))) = fun i : Nat => some ((i : Int) + 1, (0 : Int)) := by
        funext i; rw [if_neg (by omega)]
      rw [e4, if_pos (by omega), ← e3]
      exact Ev.now _
  · simp only [if_neg h]; exact evo rfl

/-! laws_cam -/
theorem e_laws_toCam (l : List Int) (hl : l.length ≤ 1048576) : Ev (fun k => laws_toCam.f k l) l := by
  unfold laws_toCam.f
  simp (disch := omega) only [if_pos]
  have := ev_loop (fun k j => laws_toCam.l0 k l (l.take j ++ List.replicate (l.length - j) 0) (j : Int)) l.length l ?_ ?_
  · simpa using this
  · intro j hj ih
    refine evs ?_
    have e : ((l.take j ++ List.replicate (l.length - j) 0).length : Int) = l.length := by simp; omega
    simp (disch := omega) only [laws_toCam.l0, if_pos, e, w64]
    have e2 : (l.take j ++ List.replicate (l.length - j) 0).set ((j : Int)).toNat (rd l (j : Int)) = l.take (j + 1) ++ List.replicate (l.length - (j + 1)) 0 := by
      have e3 : l.length - j = (l.length - (j + 1)) + 1 := by omega
      rw [e3, List.replicate_succ, Int.toNat_natCast, set_app _ _ _ _ _ (by simp; omega), rd_nat, List.take_succ_eq_append_getElem hj]
      have e4 : l.getD j 0 = l[j] := by simp [List.getD_eq_getElem?_getD, hj]
      rw [e4, List.append_assoc, List.singleton_append]
    rw [e2]
    exact ih
  · refine evs ?_
    simp (disch := omega) only [laws_toCam.l0, if_neg]
    exact evo (by simp)
theorem e_laws_eqCam (l : List Int) (hl : l.length ≤ 1048576) : Ev (fun k => laws_eqCam.f k l l) true := by
  unfold laws_eqCam.f
  simp only [if_true]
  have := ev_loop (fun k j => laws_eqCam.l0 k l l (j : Int)) l.length true ?_ ?_
  · exact this
  · intro j hj ih
    refine evs ?_
    simp (disch := omega) only [laws_eqCam.l0, if_pos, if_true, w64]
    exact ih
  · refine evs ?_
    simp (disch := omega) only [laws_eqCam.l0, if_neg]
    exact evo rfl

/-! laws_toFollower -/
theorem e_laws_toFollower (a b : Int) : laws_toFollower.f a b = some (a, b) := rfl

set_option maxHeartbeats 4000000 in
theorem FnExactLetsGoAt : ∀ (l0 : List Int) (a1_0 : Int) (a1_1 : Int), (l0.length ≤ maxLen ∧ ∀ x2 ∈ l0, (Lit.int .i16 x2).wf = true) → (Lit.int .i64 a1_0).wf = true → (Lit.int .i64 a1_1).wf = true → ∃ k, laws_FnExactLetsGoAt.f k l0 a1_0 a1_1 = some true := by
  rintro l0 a1_0 a1_1 ⟨_, w0⟩ v1 v2
  have h0 := I16.of_wf w0
  have i1 := wf_i64 v1
  have i2 := wf_i64 v2
  refine ev_rounds ?_
  unfold laws_FnExactLetsGoAt.f
  by_cases b0 : (l0.length : Int) > 1048576
  · simp only [if_pos b0]; exact evo rfl
  simp only [if_neg b0]
  have b0 : l0.length ≤ 1048576 := by omega
  have T0 := e_laws_toCam l0 b0
  have Q0 := e_laws_eqCam l0 b0
  have A := e_spec_LetsGoAt l0 h0 b0 a1_0 a1_1
  have B := e_impl_LetsGoAt l0 h0 b0 a1_0 a1_1
  revert A B
  generalize (lgR l0 a1_0 a1_1) = RR
  obtain ⟨c0, c1⟩ := RR
  intro A B
  repeat (first | exact evo rfl | (simp only [laws_toFollower.f, Option.bind_some]) | (with_reducible refine Ev.bind T0 ?_) | (with_reducible refine Ev.bind Q0 ?_) | (with_reducible refine Ev.bind A ?_) | (with_reducible refine Ev.bind B ?_) | ((with_reducible refine ev_pos ?s1 ?_); (case s1 => first | rfl | trivial | omega | (dsimp only; omega))) | ((with_reducible refine ev_neg ?s1 ?_); (case s1 => first | omega | (dsimp only; omega) | (simp; done))) | (refine evs ?_; simp only [laws_FnExactLetsGoAt.j0]))


end Go.Proofs.Ytmklaccobbkebaa.Pure
