/- The pure statement of the law FnExactFollowCam: the program's function and the reference's tell the same of every input, by plain lemmas on numbers, lists and rounds; no further condition. -/
import Derived.Test.YtbobbihbikocbabXFnExactFollowCamx
import Derived.Test.YtbobbihbikocbabXLib
namespace Go.Proofs.Ytbobbihbikocbab.Pure
open Go.RowKit Go.Proofs.Ytbobbihbikocbab.XFnExactFollowCam Go.Proofs.Ytbobbihbikocbab.XLib Go.Proofs.YtbobbihbikocbabW.PrintWords Go.Proofs.YtbobbihbikocbabW.PrintLast Go.Proofs.YtbobbihbikocbabW.PrintMore
set_option maxRecDepth 100000
set_option linter.unusedVariables false
set_option linter.unusedSimpArgs false
/-! spec_at -/
theorem e_spec_l01At (l : List Int) (h16 : I16 l) (h0 : 0 < l.length) (hl : l.length ≤ 1048576) (a : Int) (ha : -1000000000000 ≤ a) (hb : a ≤ 1000000000000) : spec_l01At.f l a = some (atz l a) := by
  unfold spec_l01At.f atz
  have hn : (0 : Int) < l.length := by omega
  have b := tmod_b a hn
  rw [if_neg (by omega), w64 (by omega) (by omega), two_mods a hn]
  have c := emod_b a hn
  rw [if_pos c.1, if_pos c.2]
  have := h16.rdb (a % (l.length : Int))
  rw [w64 (by omega) (by omega)]

/-! base_impl -/
theorem e_impl_inRange (a b c : Int) : impl_inRange.f a b c = some (decide (b ≤ a ∧ a ≤ c)) := by
  unfold impl_inRange.f
  by_cases h : b ≤ a <;> simp [h]
theorem e_impl_isSteps (a : Int) : impl_isSteps.f a = some (decide (8 ≤ a ∧ a ≤ 360)) := by
  unfold impl_isSteps.f; rw [e_impl_inRange]; rfl
theorem e_impl_isLift (a : Int) : impl_isLift.f a = some (decide (0 ≤ a ∧ a ≤ 10000)) := by
  unfold impl_isLift.f; rw [e_impl_inRange]; rfl
theorem e_impl_Cam_steps (l : List Int) : impl_Cam_steps.f l = some (l.length : Int) := rfl
theorem e_impl_ValidCam (l : List Int) (h16 : I16 l) (hl : l.length ≤ 1048576) : Ev (fun k => impl_ValidCam.f k l) (decide (Valid l)) := by
  unfold impl_ValidCam.f
  simp only [e_impl_Cam_steps, e_impl_isSteps, Option.bind_some]
  by_cases h : 8 ≤ (l.length : Int) ∧ (l.length : Int) ≤ 360
  · simp only [h, and_self, decide_true, if_true]
    unfold slices_ContainsFunc_at_impl_ValidCam_c1.f slices_IndexFunc_at_impl_ValidCam_c1.f
    have := ev_find (fun k j => slices_IndexFunc_at_impl_ValidCam_c1.l0 k l (l.length : Int) (j : Int)) (fun j => decide (0 ≤ rd l (j : Int) ∧ rd l (j : Int) ≤ 10000)) l.length (-1) (fun j => (j : Int)) ?_ ?_ ?_
    · refine Ev.bind (Ev.bind this (evo rfl)) (evo ?_)
      rcases ff_eq (fun j => decide (0 ≤ rd l (j : Int) ∧ rd l (j : Int) ≤ 10000)) (-1 : Int) (fun j => (j : Int)) l.length with ⟨hh, e⟩ | ⟨m, hm, hf, _, e⟩
      · rw [e, decide_eq_true (show Valid l from ⟨by omega, by omega, fun j hj => by simpa using hh j hj⟩)]; rfl
      · rw [e, decide_eq_false (show ¬ Valid l from fun hv => by rw [decide_eq_true (hv.2.2 m hm)] at hf; cases hf)]
        simp
    · intro j r hj hp ih
      refine evs ?_
      have hb := h16.rdb (j : Int)
      simp (disch := omega) only [slices_IndexFunc_at_impl_ValidCam_c1.l0, impl_ValidCam_c1.f, if_pos, e_impl_isLift, Option.bind_some, w64]
      first | exact ih | (rw [hp]; simp only [Bool.not_true, Bool.false_eq_true, if_false]; exact ih)
    · intro j hj hp
      refine evs ?_
      have hb := h16.rdb (j : Int)
      simp (disch := omega) only [slices_IndexFunc_at_impl_ValidCam_c1.l0, impl_ValidCam_c1.f, if_pos, e_impl_isLift, Option.bind_some, w64]
      first | exact evo rfl | (rw [hp]; exact evo rfl)
    · refine evs ?_
      simp (disch := omega) only [slices_IndexFunc_at_impl_ValidCam_c1.l0, if_neg]
      exact evo rfl
  · rw [decide_eq_false h]
    simp only [Bool.false_eq_true, if_false]
    exact evo (decide_eq_false (fun hv => h ⟨by have := hv.1; omega, by have := hv.2.1; omega⟩)).symm

/-! impl_mod -/
theorem e_impl_floorDiv (a n : Int) (h : 0 < n) (ha : -9223372036854775807 ≤ a) (hb : a ≤ 9223372036854775807) : impl_floorDiv.f a n = some (a / n) := by
  unfold impl_floorDiv.f
  have := tdiv_b a h 9223372036854775807 ha hb
  rw [if_neg (by omega), ← floor_tdiv a h]
  by_cases c : Int.tmod a n < 0
  · simp (disch := omega) only [if_pos c, w64]
  · simp (disch := omega) only [if_neg c, w64]
theorem e_impl_mod (a n : Int) (h : 0 < n) (hn : n ≤ 1048576) (ha : -1000000000000 ≤ a) (hb : a ≤ 1000000000000) : impl_mod.f a n = some (a % n) := by
  unfold impl_mod.f
  rw [e_impl_floorDiv a n h (by omega) (by omega)]
  have e := Int.emod_add_mul_ediv a n
  have b := emod_b a h
  simp (disch := omega) only [Option.bind_some, w64, mod_ediv]

/-! impl_at -/
theorem e_impl_Cam_at (l : List Int) (h16 : I16 l) (h0 : 0 < l.length) (hl : l.length ≤ 1048576) (a : Int) (ha : -1000000000000 ≤ a) (hb : a ≤ 1000000000000) : impl_Cam_at.f l a = some (atz l a) := by
  unfold impl_Cam_at.f atz
  have hn : (0 : Int) < l.length := by omega
  have c := emod_b a hn
  rw [e_impl_Cam_steps, Option.bind_some, e_impl_mod a _ hn (by omega) ha hb, Option.bind_some, if_pos c.1, if_pos c.2]
  have := h16.rdb (a % (l.length : Int))
  rw [w64 (by omega) (by omega)]

/-! base_spec -/
theorem e_spec_l00In (a b c : Int) : spec_l00In.f a b c = some (decide (b ≤ a ∧ a ≤ c)) := by
  unfold spec_l00In.f
  by_cases h : b ≤ a <;> simp [h]
theorem e_spec_l01Steps (a : Int) : spec_l01Steps.f a = some (decide (8 ≤ a ∧ a ≤ 360)) := by
  unfold spec_l01Steps.f; rw [e_spec_l00In]; rfl
theorem e_spec_l01Lift (a : Int) : spec_l01Lift.f a = some (decide (0 ≤ a ∧ a ≤ 10000)) := by
  unfold spec_l01Lift.f; rw [e_spec_l00In]; rfl
theorem e_spec_l01Ok (l : List Int) (h16 : I16 l) (hl : l.length ≤ 1048576) : Ev (fun k => spec_l01Ok.f k l) (decide (Valid l)) := by
  unfold spec_l01Ok.f
  simp only [e_spec_l01Steps, Option.bind_some]
  by_cases h : 8 ≤ (l.length : Int) ∧ (l.length : Int) ≤ 360
  · simp only [h, and_self, decide_true, if_true]
    have := ev_find (fun k j => spec_l01Ok.l0 k l (j : Int)) (fun j => decide (0 ≤ rd l (j : Int) ∧ rd l (j : Int) ≤ 10000)) l.length true (fun _ => false) ?_ ?_ ?_
    · rw [ff_all] at this
      refine eve this ?_
      apply decide_eq_decide.mpr
      unfold Valid
      constructor
      · intro hh; exact ⟨by omega, by omega, fun j hj => by simpa using hh j hj⟩
      · intro hh j hj; simpa using hh.2.2 j hj
    · intro j r hj hp ih
      refine evs ?_
      have hb := h16.rdb (j : Int)
      simp (disch := omega) only [spec_l01Ok.l0, if_pos, e_spec_l01Lift, Option.bind_some, w64]
      first | exact ih | (rw [hp]; simp only [if_true]; exact ih)
    · intro j hj hp
      refine evs ?_
      have hb := h16.rdb (j : Int)
      simp (disch := omega) only [spec_l01Ok.l0, if_pos, e_spec_l01Lift, Option.bind_some, w64]
      first | exact evo rfl | (rw [hp]; exact evo rfl)
    · refine evs ?_
      simp (disch := omega) only [spec_l01Ok.l0, if_neg]
      exact evo rfl
  · rw [decide_eq_false h]
    simp only [Bool.false_eq_true, if_false]
    exact evo (decide_eq_false (fun hv => h ⟨by have := hv.1; omega, by have := hv.2.1; omega⟩)).symm

/-! trk -/
def nxt (s : S128) (c g : Int) : S128 := if wrap64 (s.f0 + wrap64 (s.f1 - g)) > c then ⟨wrap64 (s.f0 + wrap64 (s.f1 - g)), wrap64 (s.f1 - g), false⟩ else ⟨c, wrap64 (c - s.f0), true⟩
def trk (l : List Int) (g : Int) : Nat → S128
  | 0 => ⟨atz l 0, wrap64 (atz l 0 - atz l (-1)), true⟩
  | j + 1 => nxt (trk l g j) (atz l ((j + 1 : Nat) : Int)) g
theorem trk_s (l : List Int) (g : Int) (j : Nat) : trk l g (j + 1) = nxt (trk l g j) (atz l ((j + 1 : Nat) : Int)) g := rfl
def trkL (l : List Int) (g : Int) (n : Nat) : List S128 := (List.range (n + 1)).map (trk l g)
theorem trkL_len (l : List Int) (g : Int) (n : Nat) : (trkL l g n).length = n + 1 := by simp [trkL]
theorem rdT_map (f : Nat → S128) (n : Nat) (i : Int) (h0 : 0 ≤ i) (h1 : i < n) : rd_T128 ((List.range n).map f) i = f i.toNat := by
  unfold rd_T128
  have : i.toNat < n := by omega
  simp [List.getD_eq_getElem?_getD, this]
theorem trkL_rd (l : List Int) (g : Int) (n : Nat) (j : Nat) (h : j ≤ n) : rd_T128 (trkL l g n) (j : Int) = trk l g j := by
  unfold trkL; rw [rdT_map _ _ _ (by omega) (by omega)]; simp
theorem trkL_snoc (l : List Int) (g : Int) (n : Nat) : trkL l g (n + 1) = trkL l g n ++ [trk l g (n + 1)] := by unfold trkL; rw [map_snoc]
theorem e_spec_next (s : S128) (c g : Int) : spec_l03Next.f s.f0 s.f1 s.f2 c g = some ((nxt s c g).f0, (nxt s c g).f1, (nxt s c g).f2) := by
  unfold spec_l03Next.f nxt
  by_cases h : wrap64 (s.f0 + wrap64 (s.f1 - g)) > c
  · simp only [if_pos h]
  · simp only [if_neg h]
theorem e_spec_l03Follow (l : List Int) (h16 : I16 l) (h0 : 0 < l.length) (hl : l.length ≤ 1048576) (g : Int) (n : Nat) (hn : n ≤ 100000) : Ev (fun k => spec_l03Follow.f k l g (n : Int)) (trkL l g n) := by
  unfold spec_l03Follow.f spec_l03Begin.f
  simp (disch := omega) only [e_spec_l01At l h16, Option.bind_some]
  have := ev_loop (fun k j => spec_l03Follow.l0 k l g (n : Int) (trkL l g j) ((j : Int) + 1)) n (trkL l g n) ?_ ?_
  · exact this
  · intro j hj ih
    refine evs ?_
    have e := trkL_len l g j
    have e2 : (j : Int) + 1 - 1 = j := by omega
    have e3 := trkL_rd l g j j (Nat.le_refl j)
    simp (disch := omega) only [spec_l03Follow.l0, if_pos, w64, e, e2, e3, e_spec_l01At l h16, Option.bind_some]
    have e4 : spec_l03Next.f (trk l g j).f0 (trk l g j).f1 (trk l g j).f2 (atz l ((j : Int) + 1)) g = some ((trk l g (j + 1)).f0, (trk l g (j + 1)).f1, (trk l g (j + 1)).f2) := by
      rw [trk_s]; exact e_spec_next _ _ _
    rw [e4]
    rw [trkL_snoc] at ih
    simp only [Option.bind_some]
    exact ih
  · refine evs ?_
    simp (disch := omega) only [spec_l03Follow.l0, if_neg]
    exact evo rfl
theorem e_impl_next (s : S128) (c g : Int) : impl_Track_next.f s.f0 s.f1 s.f2 c g = some ((nxt s c g).f0, (nxt s c g).f1, (nxt s c g).f2) := by
  unfold impl_Track_next.f nxt
  by_cases h : wrap64 (s.f0 + wrap64 (s.f1 - g)) > c
  · simp only [if_pos h]
  · simp only [if_neg h]
theorem e_impl_follow (l : List Int) (h16 : I16 l) (h0 : 0 < l.length) (hl : l.length ≤ 1048576) (g : Int) (n : Nat) (hn : n ≤ 100000) : Ev (fun k => impl_Cam_follow.f k l g (n : Int)) (trkL l g n) := by
  unfold impl_Cam_follow.f impl_Cam_change.f
  simp (disch := omega) only [e_impl_Cam_at l h16, w64, Option.bind_some]
  have := ev_loop (fun k j => impl_Cam_follow.l0 k l g (n : Int) (trkL l g j) ((j : Int) + 1) (trk l g j).f0 (trk l g j).f1 (trk l g j).f2) n (trkL l g n) ?_ ?_
  · exact this
  · intro j hj ih
    refine evs ?_
    have e := trkL_len l g j
    simp (disch := omega) only [impl_Cam_follow.l0, if_pos, w64, e, e_impl_Cam_at l h16, Option.bind_some]
    have e4 : impl_Track_next.f (trk l g j).f0 (trk l g j).f1 (trk l g j).f2 (atz l ((j : Int) + 1)) g = some ((trk l g (j + 1)).f0, (trk l g (j + 1)).f1, (trk l g (j + 1)).f2) := by
      rw [trk_s]; exact e_impl_next _ _ _
    rw [e4]
    rw [trkL_snoc] at ih
    simp only [Option.bind_some]
    exact ih
  · refine evs ?_
    simp (disch := omega) only [impl_Cam_follow.l0, if_neg]
    exact evo rfl

/-! asked -/
def FolOK (b g : Int) : Prop := (1 ≤ b ∧ b ≤ 20000) ∧ (1 ≤ g ∧ g ≤ 10000)
instance (b g : Int) : Decidable (FolOK b g) := by unfold FolOK; infer_instance
def askC (l : List Int) (b g : Int) : Int := if Valid l ∧ FolOK b g then 0 else 1
theorem askC_0 {l : List Int} {b g : Int} (h : askC l b g = 0) : Valid l ∧ FolOK b g := by
  unfold askC at h
  by_cases c : Valid l ∧ FolOK b g
  · exact c
  · rw [if_neg c] at h; omega
theorem askC_1 {l : List Int} {b g : Int} (h : ¬ askC l b g = 0) : askC l b g = 1 := by
  unfold askC at h ⊢
  by_cases c : Valid l ∧ FolOK b g
  · rw [if_pos c] at h; omega
  · rw [if_neg c]
theorem e_spec_l03Asked (l : List Int) (h16 : I16 l) (hl : l.length ≤ 1048576) (b g : Int) : Ev (fun k => spec_l03Asked.f k l b g) (askC l b g) := by
  unfold spec_l03Asked.f askC
  refine Ev.bind (e_spec_l01Ok l h16 hl) ?_
  by_cases hv : Valid l
  · simp only [hv, decide_true, if_true, true_and, spec_l03Ok.f, e_spec_l00In, Option.bind_some]
    by_cases h1 : 1 ≤ b ∧ b ≤ 20000
    · simp only [decide_eq_true h1, if_true, Option.bind_some]
      by_cases h2 : 1 ≤ g ∧ g ≤ 10000
      · simp only [decide_eq_true h2, if_true]
        exact evo (by rw [if_pos (show FolOK b g from ⟨h1, h2⟩)])
      · simp only [decide_eq_false h2, Bool.false_eq_true, if_false]
        exact evo (by rw [if_neg (show ¬ FolOK b g from fun h => h2 h.2)])
    · simp only [decide_eq_false h1, Bool.false_eq_true, if_false, Option.bind_some]
      exact evo (by rw [if_neg (show ¬ FolOK b g from fun h => h1 h.1)])
  · simp only [hv, decide_false, Bool.false_eq_true, if_false, false_and]; exact evo rfl
theorem e_impl_camCode (l : List Int) (h16 : I16 l) (hl : l.length ≤ 1048576) (b g : Int) : Ev (fun k => impl_camCode.f k l b g) (askC l b g) := by
  unfold impl_camCode.f askC
  refine Ev.bind (e_impl_ValidCam l h16 hl) ?_
  by_cases hv : Valid l
  · simp only [hv, decide_true, if_true, true_and, impl_ValidFollower.f, impl_isSpring.f, e_impl_inRange, Option.bind_some]
    by_cases h1 : 1 ≤ b ∧ b ≤ 20000
    · simp only [decide_eq_true h1, if_true, Option.bind_some]
      by_cases h2 : 1 ≤ g ∧ g ≤ 10000
      · simp only [decide_eq_true h2, if_true]
        exact evo (by rw [if_pos (show FolOK b g from ⟨h1, h2⟩)])
      · simp only [decide_eq_false h2, Bool.false_eq_true, if_false]
        exact evo (by rw [if_neg (show ¬ FolOK b g from fun h => h2 h.2)])
    · simp only [decide_eq_false h1, Bool.false_eq_true, if_false, Option.bind_some]
      exact evo (by rw [if_neg (show ¬ FolOK b g from fun h => h1 h.1)])
  · simp only [hv, decide_false, Bool.false_eq_true, if_false, false_and]; exact evo rfl

/-! many -/
def manyC (l : List Int) (b g n : Int) : Int := if askC l b g = 0 then (if 0 ≤ n ∧ n ≤ 4000 then 0 else 2) else 1
theorem manyC_0 {l : List Int} {b g n : Int} (h : manyC l b g n = 0) : Valid l ∧ FolOK b g ∧ 0 ≤ n ∧ n ≤ 4000 := by
  unfold manyC at h
  by_cases c : askC l b g = 0
  · rw [if_pos c] at h
    by_cases d : 0 ≤ n ∧ n ≤ 4000
    · exact ⟨(askC_0 c).1, (askC_0 c).2, d⟩
    · rw [if_neg d] at h; omega
  · rw [if_neg c] at h; omega
theorem e_spec_l03Many (l : List Int) (h16 : I16 l) (hl : l.length ≤ 1048576) (b g n : Int) : Ev (fun k => spec_l03Many.f k l b g n) (manyC l b g n) := by
  unfold spec_l03Many.f manyC
  refine Ev.bind (e_spec_l03Asked l h16 hl b g) ?_
  by_cases h : askC l b g = 0
  · simp only [if_pos h, e_spec_l00In, Option.bind_some]
    by_cases d : 0 ≤ n ∧ n ≤ 4000
    · simp only [decide_eq_true d, if_pos d, if_true]; exact evo h
    · simp only [decide_eq_false d, if_neg d, Bool.false_eq_true, if_false]; exact evo rfl
  · simp only [if_neg h]; exact evo (askC_1 h)
theorem e_impl_followCode (l : List Int) (h16 : I16 l) (hl : l.length ≤ 1048576) (b g n : Int) : Ev (fun k => impl_followCode.f k l b g n) (manyC l b g n) := by
  unfold impl_followCode.f manyC
  refine Ev.bind (e_impl_camCode l h16 hl b g) ?_
  by_cases h : askC l b g = 0
  · simp only [if_pos h, e_impl_inRange, Option.bind_some]
    by_cases d : 0 ≤ n ∧ n ≤ 4000
    · simp only [decide_eq_true d, if_pos d, if_true]; exact evo rfl
    · simp only [decide_eq_false d, if_neg d, Bool.false_eq_true, if_false]; exact evo rfl
  · simp only [if_neg h]; exact evo rfl

/-! FollowCam -/
def fcR (l : List Int) (b g n : Int) : List S128 × Int := if manyC l b g n = 0 then ((trkL l g n.toNat).drop 1, 0) else ([], manyC l b g n)
theorem fcR_len (l : List Int) (b g n : Int) : (fcR l b g n).1.length ≤ 1048576 := by
  unfold fcR
  by_cases h : manyC l b g n = 0
  · obtain ⟨_, _, h0, h1⟩ := manyC_0 h
    rw [if_pos h]
    simp only [List.length_drop, trkL_len]; omega
  · rw [if_neg h]; exact Nat.zero_le _
theorem e_spec_FollowCam (l : List Int) (h16 : I16 l) (hl : l.length ≤ 1048576) (b g n : Int) : Ev (fun k => spec_FollowCam.f k l b g n) (fcR l b g n) := by
  unfold spec_FollowCam.f fcR
  refine Ev.bind (e_spec_l03Many l h16 hl b g n) ?_
  by_cases h : manyC l b g n = 0
  · obtain ⟨hv, hf, h0, h1⟩ := manyC_0 h
    have hv1 := hv.1
    simp only [if_pos h, Option.bind_some]
    obtain ⟨m, rfl⟩ := Int.eq_ofNat_of_zero_le h0
    rw [Int.toNat_natCast]
    refine Ev.bind (e_spec_l03Follow l h16 (by omega) hl g m (by omega)) ?_
    have e := trkL_len l g m
    have e2 : ((trkL l g m).drop 1).length = m := by rw [List.length_drop, e]; omega
    simp (disch := first | omega | (simp only [List.length_nil]; omega)) only [if_pos, List.nil_append]
    exact evo rfl
  · simp only [if_neg h]; exact evo rfl
theorem e_impl_FollowCam (l : List Int) (h16 : I16 l) (hl : l.length ≤ 1048576) (b g n : Int) : Ev (fun k => impl_FollowCam.f k l b g n) (fcR l b g n) := by
  unfold impl_FollowCam.f fcR
  refine Ev.bind (e_impl_followCode l h16 hl b g n) ?_
  by_cases h : manyC l b g n = 0
  · obtain ⟨hv, hf, h0, h1⟩ := manyC_0 h
    have hv1 := hv.1
    simp only [if_pos h]
    obtain ⟨m, rfl⟩ := Int.eq_ofNat_of_zero_le h0
    rw [Int.toNat_natCast]
    refine Ev.bind (e_impl_follow l h16 (by omega) hl g m (by omega)) ?_
    have e := trkL_len l g m
    have e2 : ((trkL l g m).drop 1).length = m := by rw [List.length_drop, e]; omega
    unfold impl_Track.f
    simp (disch := first | omega | (simp only [List.length_nil]; omega)) only [Option.bind_some, if_pos, List.nil_append]
    exact evo rfl
  · simp only [if_neg h]; exact evo rfl

/-! laws_cam -/
theorem e_laws_toCam (l : List Int) (hl : l.length ≤ 1048576) : Ev (fun k => laws_toCam.f k l) l := by
  unfold laws_toCam.f
  simp (disch := omega) only [if_pos]
  have := ev_loop (fun k j => laws_toCam.l0 k l (l.take j ++ List.replicate (l.length - j) 0) (j : Int)) l.length l ?_ ?_
  · simpa using this
  · intro j hj ih
    refine evs ?_
    have e : ((l.take j ++ List.replicate (l.length - j) 0).length : Int) = l.length := by simp; omega
    simp (disch := omega) only [laws_toCam.l0, if_pos, e, w64]
    have e2 : (l.take j ++ List.replicate (l.length - j) 0).set ((j : Int)).toNat (rd l (j : Int)) = l.take (j + 1) ++ List.replicate (l.length - (j + 1)) 0 := by
      have e3 : l.length - j = (l.length - (j + 1)) + 1 := by omega
      rw [e3, List.replicate_succ, Int.toNat_natCast, set_app _ _ _ _ _ (by simp; omega), rd_nat, List.take_succ_eq_append_getElem hj]
      have e4 : l.getD j 0 = l[j] := by simp [List.getD_eq_getElem?_getD, hj]
      rw [e4, List.append_assoc, List.singleton_append]
    rw [e2]
    exact ih
  · refine evs ?_
    simp (disch := omega) only [laws_toCam.l0, if_neg]
    exact evo (by simp)
theorem e_laws_eqCam (l : List Int) (hl : l.length ≤ 1048576) : Ev (fun k => laws_eqCam.f k l l) true := by
  unfold laws_eqCam.f
  simp only [if_true]
  have := ev_loop (fun k j => laws_eqCam.l0 k l l (j : Int)) l.length true ?_ ?_
  · exact this
  · intro j hj ih
    refine evs ?_
    simp (disch := omega) only [laws_eqCam.l0, if_pos, if_true, w64]
    exact ih
  · refine evs ?_
    simp (disch := omega) only [laws_eqCam.l0, if_neg]
    exact evo rfl

/-! marked -/
def marked (m : Int) (n : Nat) : List Int := (List.range n).map fun j : Nat => IntKind.i16.wrap (m + j)
theorem marked_len (m : Int) (n : Nat) : (marked m n).length = n := by simp [marked]

/-! laws_markonly -/
theorem e_laws_markCam (l : List Int) (hl : l.length ≤ 1048576) (m : Int) (h0 : 0 ≤ m) (h1 : m ≤ 1000000000) : Ev (fun k => laws_markCam.f k l m) (m + l.length, marked m l.length) := by
  unfold laws_markCam.f
  have := ev_loop (fun k j => laws_markCam.l0 k (marked m j ++ l.drop j) (m + j) (j : Int)) l.length (m + l.length, marked m l.length) ?_ ?_
  · simpa [marked] using this
  · intro j hj ih
    refine evs ?_
    have e : ((marked m j ++ l.drop j).length : Int) = l.length := by simp [marked_len]; omega
    have e2 : (marked m j ++ l.drop j).set ((j : Int)).toNat (IntKind.i16.wrap (m + j)) = marked m (j + 1) ++ l.drop (j + 1) := by
      rw [Int.toNat_natCast, List.drop_eq_getElem_cons hj, set_app _ _ _ _ _ (marked_len _ _)]
      unfold marked; rw [map_snoc]; simp
    simp (disch := omega) only [laws_markCam.l0, if_pos, e, w64]
    rw [e2, show m + (j : Int) + 1 = m + ((j + 1 : Nat) : Int) by omega]
    exact ih
  · refine evs ?_
    have e : ((marked m l.length ++ l.drop l.length).length : Int) = l.length := by simp [marked_len]
    simp (disch := omega) only [laws_markCam.l0, if_neg, e]
    exact evo (by simp)

/-! laws_track -/
theorem rdTK (l : List S128) (j : Nat) (h : j < l.length) : rd_T128 l (j : Int) = l[j] := by
  unfold rd_T128; rw [Int.toNat_natCast, List.getD_eq_getElem?_getD, List.getElem?_eq_getElem h]; rfl
theorem e_laws_eqTrackS (l : List S128) (hl : l.length ≤ 1048576) : Ev (fun k => laws_eqTrackS.f k l l) true := by
  unfold laws_eqTrackS.f
  simp only [if_true]
  have := ev_loop (fun k j => laws_eqTrackS.l0 k l l (j : Int)) l.length true ?_ ?_
  · exact this
  · intro j hj ih
    refine evs ?_
    simp (disch := omega) only [laws_eqTrackS.l0, laws_eqTrack.f, if_pos, w64, if_true, bne_self_eq_false, Bool.false_eq_true, if_false, Option.bind_some]
    exact ih
  · refine evs ?_
    simp (disch := omega) only [laws_eqTrackS.l0, if_neg]
    exact evo rfl
def mkT (m : Int) : S128 := ⟨m, m + 1, (Int.tmod (m + 1 + 1) 3 == 0)⟩
def markT (m : Int) (n : Nat) : List S128 := (List.range n).map fun j : Nat => mkT (m + 3 * (j : Int))
theorem markT_len (m : Int) (n : Nat) : (markT m n).length = n := by simp [markT]
theorem e_laws_markTrackS (l : List S128) (hl : l.length ≤ 1048576) (m : Int) (h0 : 0 ≤ m) (h1 : m ≤ 1000000000) : Ev (fun k => laws_markTrackS.f k l m) (m + 3 * (l.length : Int), markT m l.length) := by
  unfold laws_markTrackS.f
  have := ev_loop (fun k j => laws_markTrackS.l0 k (markT m j ++ l.drop j) (m + 3 * (j : Int)) (j : Int)) l.length (m + 3 * (l.length : Int), markT m l.length) ?_ ?_
  · simpa [markT] using this
  · intro j hj ih
    refine evs ?_
    have e : ((markT m j ++ l.drop j).length : Int) = l.length := by simp [markT_len]; omega
    have ej : ∀ x : S128, (markT m j ++ l.drop j).set j x = markT m j ++ x :: l.drop (j + 1) := by
      intro x; rw [List.drop_eq_getElem_cons hj, set_app _ _ _ _ _ (markT_len _ _)]
    have ej2 : ∀ x y : S128, (markT m j ++ x :: l.drop (j + 1)).set j y = markT m j ++ y :: l.drop (j + 1) := by
      intro x y; rw [set_app _ _ _ _ _ (markT_len _ _)]
    have er : ∀ x : S128, rd_T128 (markT m j ++ x :: l.drop (j + 1)) (j : Int) = x := by
      intro x; rw [rdTK _ _ (by simp [markT_len]), List.getElem_append_right (by rw [markT_len]; omega)]; simp [markT_len]
    simp (disch := omega) only [laws_markTrackS.l0, if_pos, e, Int.toNat_natCast, ej, er, ej2, Option.bind_some, w64]
    have e5 : markT m j ++ mkT (m + 3 * (j : Int)) :: l.drop (j + 1) = markT m (j + 1) ++ l.drop (j + 1) := by
      unfold markT; rw [map_snoc]; simp
    rw [show (⟨m + 3 * (j : Int), m + 3 * (j : Int) + 1, (Int.tmod (m + 3 * (j : Int) + 1 + 1) 3 == 0)⟩ : S128) = mkT (m + 3 * (j : Int)) from rfl, e5, show m + 3 * (j : Int) + 1 + 1 + 1 = m + 3 * ((j + 1 : Nat) : Int) by omega]
    exact ih
  · refine evs ?_
    have e : ((markT m l.length ++ l.drop l.length).length : Int) = l.length := by simp [markT_len]
    simp (disch := omega) only [laws_markTrackS.l0, if_neg, e]
    exact evo (by simp)
theorem e_laws_heldTrackS (n : Nat) (hl : n ≤ 1048576) (m : Int) (h0 : 0 ≤ m) (h1 : m ≤ 1000000000) : Ev (fun k => laws_heldTrackS.f k (markT m n) m) (m + 3 * (n : Int)) := by
  unfold laws_heldTrackS.f
  have e : ((markT m n).length : Int) = n := by rw [markT_len]
  have := ev_loop (fun k j => laws_heldTrackS.l0 k (markT m n) (m + 3 * (j : Int)) (j : Int)) n (m + 3 * (n : Int)) ?_ ?_
  · simpa using this
  · intro j hj ih
    refine evs ?_
    have e2 : rd_T128 (markT m n) (j : Int) = ⟨m + 3 * (j : Int), m + 3 * (j : Int) + 1, (Int.tmod (m + 3 * (j : Int) + 1 + 1) 3 == 0)⟩ := by
      unfold markT; rw [rdT_map _ _ _ (by omega) (by omega)]; simp [mkT]
    simp (disch := omega) only [laws_heldTrackS.l0, if_pos, e, e2, if_true, w64, bne_self_eq_false, Bool.false_eq_true, if_false]
    rw [show m + 3 * (j : Int) + 1 + 1 + 1 = m + 3 * ((j + 1 : Nat) : Int) by omega]
    exact ih
  · refine evs ?_
    simp (disch := omega) only [laws_heldTrackS.l0, if_neg, e]
    exact evo rfl

/-! laws_toFollower -/
theorem e_laws_toFollower (a b : Int) : laws_toFollower.f a b = some (a, b) := rfl

set_option maxHeartbeats 4000000 in
theorem FnExactFollowCam : ∀ (l0 : List Int) (a1_0 : Int) (a1_1 : Int) (a2 : Int), (l0.length ≤ maxLen ∧ ∀ x2 ∈ l0, (Lit.int .i16 x2).wf = true) → (Lit.int .i64 a1_0).wf = true → (Lit.int .i64 a1_1).wf = true → (Lit.int .i64 a2).wf = true → ∃ k, laws_FnExactFollowCam.f k l0 a1_0 a1_1 a2 = some true := by
  rintro l0 a1_0 a1_1 a2 ⟨_, w0⟩ v1 v2 v3
  have h0 := I16.of_wf w0
  have i1 := wf_i64 v1
  have i2 := wf_i64 v2
  have i3 := wf_i64 v3
  refine ev_rounds ?_
  unfold laws_FnExactFollowCam.f
  by_cases b0 : (l0.length : Int) > 1048576
  · simp only [if_pos b0]; exact evo rfl
  simp only [if_neg b0]
  have b0 : l0.length ≤ 1048576 := by omega
  have T0 := e_laws_toCam l0 b0
  have Q0 := e_laws_eqCam l0 b0
  have M0 := e_laws_markCam l0 b0
  have A := e_spec_FollowCam l0 h0 b0 a1_0 a1_1 a2
  have B := e_impl_FollowCam l0 h0 b0 a1_0 a1_1 a2
  have hr : (fcR l0 a1_0 a1_1 a2).1.length ≤ 1048576 := fcR_len l0 a1_0 a1_1 a2
  revert A B hr
  generalize (fcR l0 a1_0 a1_1 a2) = RR
  obtain ⟨r, c1⟩ := RR
  intro A B hr
  have QR := e_laws_eqTrackS r hr
  have MR := e_laws_markTrackS r hr
  have HR := e_laws_heldTrackS r.length hr
  repeat (first | exact evo rfl | (simp only [laws_toFollower.f, Option.bind_some]) | (with_reducible refine Ev.bind T0 ?_) | (with_reducible refine Ev.bind Q0 ?_) | ((with_reducible refine Ev.bind (M0 _ ?s1 ?s2) ?_); (case s1 => first | omega | (dsimp only; omega)); (case s2 => first | omega | (dsimp only; omega))) | (with_reducible refine Ev.bind A ?_) | (with_reducible refine Ev.bind B ?_) | (with_reducible refine Ev.bind QR ?_) | ((with_reducible refine Ev.bind (MR 1 ?s1 ?s2) ?_); (case s1 => first | omega | (dsimp only; omega)); (case s2 => first | omega | (dsimp only; omega))) | ((with_reducible refine Ev.bind (HR 1 ?s1 ?s2) ?_); (case s1 => first | omega | (dsimp only; omega)); (case s2 => first | omega | (dsimp only; omega))) | ((with_reducible refine ev_pos ?s1 ?_); (case s1 => first | rfl | trivial | omega | (dsimp only; omega))) | ((with_reducible refine ev_neg ?s1 ?_); (case s1 => first | omega | (dsimp only; omega) | (simp; done))) | (refine evs ?_; simp only [laws_FnExactFollowCam.j0, laws_FnExactFollowCam.j1, laws_FnExactFollowCam.j2]))


end Go.Proofs.Ytbobbihbikocbab.Pure
