/- The pure statement of the law FnExactWearCam: the program's function and the reference's tell the same of every input, by plain lemmas on numbers, lists and rounds; no further condition. -/
import Derived.Test.YtbobbihbikocbabXFnExactWearCamx
import Derived.Test.YtbobbihbikocbabXLib
namespace Go.Proofs.Ytbobbihbikocbab.Pure
open Go.RowKit Go.Proofs.Ytbobbihbikocbab.XFnExactWearCam Go.Proofs.Ytbobbihbikocbab.XLib Go.Proofs.YtbobbihbikocbabW.PrintWords Go.Proofs.YtbobbihbikocbabW.PrintLast Go.Proofs.YtbobbihbikocbabW.PrintMore
set_option maxRecDepth 100000
set_option linter.unusedVariables false
set_option linter.unusedSimpArgs false
/-! spec_at -/
theorem e_spec_l01At (l : List Int) (h16 : I16 l) (h0 : 0 < l.length) (hl : l.length ≤ 1048576) (a : Int) (ha : -1000000000000 ≤ a) (hb : a ≤ 1000000000000) : spec_l01At.f l a = some (atz l a) := by
  unfold spec_l01At.f atz
  have hn : (0 : Int) < l.length := by omega
  have b := tmod_b a hn
  rw [if_neg (by omega), w64 (by omega) (by omega), two_mods a hn]
  have c := emod_b a hn
  rw [if_pos c.1, if_pos c.2]
  have := h16.rdb (a % (l.length : Int))
  rw [w64 (by omega) (by omega)]

/-! base_impl -/
theorem e_impl_inRange (a b c : Int) : impl_inRange.f a b c = some (decide (b ≤ a ∧ a ≤ c)) := by
  unfold impl_inRange.f
  by_cases h : b ≤ a <;> simp [h]
theorem e_impl_isSteps (a : Int) : impl_isSteps.f a = some (decide (8 ≤ a ∧ a ≤ 360)) := by
  unfold impl_isSteps.f; rw [e_impl_inRange]; rfl
theorem e_impl_isLift (a : Int) : impl_isLift.f a = some (decide (0 ≤ a ∧ a ≤ 10000)) := by
  unfold impl_isLift.f; rw [e_impl_inRange]; rfl
theorem e_impl_Cam_steps (l : List Int) : impl_Cam_steps.f l = some (l.length : Int) := rfl
theorem e_impl_ValidCam (l : List Int) (h16 : I16 l) (hl : l.length ≤ 1048576) : Ev (fun k => impl_ValidCam.f k l) (decide (Valid l)) := by
  unfold impl_ValidCam.f
  simp only [e_impl_Cam_steps, e_impl_isSteps, Option.bind_some]
  by_cases h : 8 ≤ (l.length : Int) ∧ (l.length : Int) ≤ 360
  · simp only [h, and_self, decide_true, if_true]
    unfold slices_ContainsFunc_at_impl_ValidCam_c1.f slices_IndexFunc_at_impl_ValidCam_c1.f
    have := ev_find (fun k j => slices_IndexFunc_at_impl_ValidCam_c1.l0 k l (l.length : Int) (j : Int)) (fun j => decide (0 ≤ rd l (j : Int) ∧ rd l (j : Int) ≤ 10000)) l.length (-1) (fun j => (j : Int)) ?_ ?_ ?_
    · refine Ev.bind (Ev.bind this (evo rfl)) (evo ?_)
      rcases ff_eq (fun j => decide (0 ≤ rd l (j : Int) ∧ rd l (j : Int) ≤ 10000)) (-1 : Int) (fun j => (j : Int)) l.length with ⟨hh, e⟩ | ⟨m, hm, hf, _, e⟩
      · rw [e, decide_eq_true (show Valid l from ⟨by omega, by omega, fun j hj => by simpa using hh j hj⟩)]; rfl
      · rw [e, decide_eq_false (show ¬ Valid l from fun hv => by rw [decide_eq_true (hv.2.2 m hm)] at hf; cases hf)]
        simp
    · intro j r hj hp ih
      refine evs ?_
      have hb := h16.rdb (j : Int)
      simp (disch := omega) only [slices_IndexFunc_at_impl_ValidCam_c1.l0, impl_ValidCam_c1.f, if_pos, e_impl_isLift, Option.bind_some, w64]
      first | exact ih | (rw [hp]; simp only [Bool.not_true, Bool.false_eq_true, if_false]; exact ih)
    · intro j hj hp
      refine evs ?_
      have hb := h16.rdb (j : Int)
      simp (disch := omega) only [slices_IndexFunc_at_impl_ValidCam_c1.l0, impl_ValidCam_c1.f, if_pos, e_impl_isLift, Option.bind_some, w64]
      first | exact evo rfl | (rw [hp]; exact evo rfl)
    · refine evs ?_
      simp (disch := omega) only [slices_IndexFunc_at_impl_ValidCam_c1.l0, if_neg]
      exact evo rfl
  · rw [decide_eq_false h]
    simp only [Bool.false_eq_true, if_false]
    exact evo (decide_eq_false (fun hv => h ⟨by have := hv.1; omega, by have := hv.2.1; omega⟩)).symm

/-! impl_mod -/
theorem e_impl_floorDiv (a n : Int) (h : 0 < n) (ha : -9223372036854775807 ≤ a) (hb : a ≤ 9223372036854775807) : impl_floorDiv.f a n = some (a / n) := by
  unfold impl_floorDiv.f
  have := tdiv_b a h 9223372036854775807 ha hb
  rw [if_neg (by omega), ← floor_tdiv a h]
  by_cases c : Int.tmod a n < 0
  · simp (disch := omega) only [if_pos c, w64]
  · simp (disch := omega) only [if_neg c, w64]
theorem e_impl_mod (a n : Int) (h : 0 < n) (hn : n ≤ 1048576) (ha : -1000000000000 ≤ a) (hb : a ≤ 1000000000000) : impl_mod.f a n = some (a % n) := by
  unfold impl_mod.f
  rw [e_impl_floorDiv a n h (by omega) (by omega)]
  have e := Int.emod_add_mul_ediv a n
  have b := emod_b a h
  simp (disch := omega) only [Option.bind_some, w64, mod_ediv]

/-! impl_at -/
theorem e_impl_Cam_at (l : List Int) (h16 : I16 l) (h0 : 0 < l.length) (hl : l.length ≤ 1048576) (a : Int) (ha : -1000000000000 ≤ a) (hb : a ≤ 1000000000000) : impl_Cam_at.f l a = some (atz l a) := by
  unfold impl_Cam_at.f atz
  have hn : (0 : Int) < l.length := by omega
  have c := emod_b a hn
  rw [e_impl_Cam_steps, Option.bind_some, e_impl_mod a _ hn (by omega) ha hb, Option.bind_some, if_pos c.1, if_pos c.2]
  have := h16.rdb (a % (l.length : Int))
  rw [w64 (by omega) (by omega)]

/-! base_spec -/
theorem e_spec_l00In (a b c : Int) : spec_l00In.f a b c = some (decide (b ≤ a ∧ a ≤ c)) := by
  unfold spec_l00In.f
  by_cases h : b ≤ a <;> simp [h]
theorem e_spec_l01Steps (a : Int) : spec_l01Steps.f a = some (decide (8 ≤ a ∧ a ≤ 360)) := by
  unfold spec_l01Steps.f; rw [e_spec_l00In]; rfl
theorem e_spec_l01Lift (a : Int) : spec_l01Lift.f a = some (decide (0 ≤ a ∧ a ≤ 10000)) := by
  unfold spec_l01Lift.f; rw [e_spec_l00In]; rfl
theorem e_spec_l01Ok (l : List Int) (h16 : I16 l) (hl : l.length ≤ 1048576) : Ev (fun k => spec_l01Ok.f k l) (decide (Valid l)) := by
  unfold spec_l01Ok.f
  simp only [e_spec_l01Steps, Option.bind_some]
  by_cases h : 8 ≤ (l.length : Int) ∧ (l.length : Int) ≤ 360
  · simp only [h, and_self, decide_true, if_true]
    have := ev_find (fun k j => spec_l01Ok.l0 k l (j : Int)) (fun j => decide (0 ≤ rd l (j : Int) ∧ rd l (j : Int) ≤ 10000)) l.length true (fun _ => false) ?_ ?_ ?_
    · rw [ff_all] at this
      refine eve this ?_
      apply decide_eq_decide.mpr
      unfold Valid
      constructor
      · intro hh; exact ⟨by omega, by omega, fun j hj => by simpa using hh j hj⟩
      · intro hh j hj; simpa using hh.2.2 j hj
    · intro j r hj hp ih
      refine evs ?_
      have hb := h16.rdb (j : Int)
      simp (disch := omega) only [spec_l01Ok.l0, if_pos, e_spec_l01Lift, Option.bind_some, w64]
      first | exact ih | (rw [hp]; simp only [if_true]; exact ih)
    · intro j hj hp
      refine evs ?_
      have hb := h16.rdb (j : Int)
      simp (disch := omega) only [spec_l01Ok.l0, if_pos, e_spec_l01Lift, Option.bind_some, w64]
      first | exact evo rfl | (rw [hp]; exact evo rfl)
    · refine evs ?_
      simp (disch := omega) only [spec_l01Ok.l0, if_neg]
      exact evo rfl
  · rw [decide_eq_false h]
    simp only [Bool.false_eq_true, if_false]
    exact evo (decide_eq_false (fun hv => h ⟨by have := hv.1; omega, by have := hv.2.1; omega⟩)).symm

/-! trk -/
def nxt (s : S128) (c g : Int) : S128 := if wrap64 (s.f0 + wrap64 (s.f1 - g)) > c then ⟨wrap64 (s.f0 + wrap64 (s.f1 - g)), wrap64 (s.f1 - g), false⟩ else ⟨c, wrap64 (c - s.f0), true⟩
def trk (l : List Int) (g : Int) : Nat → S128
  | 0 => ⟨atz l 0, wrap64 (atz l 0 - atz l (-1)), true⟩
  | j + 1 => nxt (trk l g j) (atz l ((j + 1 : Nat) : Int)) g
theorem trk_s (l : List Int) (g : Int) (j : Nat) : trk l g (j + 1) = nxt (trk l g j) (atz l ((j + 1 : Nat) : Int)) g := rfl
def trkL (l : List Int) (g : Int) (n : Nat) : List S128 := (List.range (n + 1)).map (trk l g)
theorem trkL_len (l : List Int) (g : Int) (n : Nat) : (trkL l g n).length = n + 1 := by simp [trkL]
theorem rdT_map (f : Nat → S128) (n : Nat) (i : Int) (h0 : 0 ≤ i) (h1 : i < n) : rd_T128 ((List.range n).map f) i = f i.toNat := by
  unfold rd_T128
  have : i.toNat < n := by omega
  simp [List.getD_eq_getElem?_getD, this]
theorem trkL_rd (l : List Int) (g : Int) (n : Nat) (j : Nat) (h : j ≤ n) : rd_T128 (trkL l g n) (j : Int) = trk l g j := by
  unfold trkL; rw [rdT_map _ _ _ (by omega) (by omega)]; simp
theorem trkL_snoc (l : List Int) (g : Int) (n : Nat) : trkL l g (n + 1) = trkL l g n ++ [trk l g (n + 1)] := by unfold trkL; rw [map_snoc]
theorem e_spec_next (s : S128) (c g : Int) : spec_l03Next.f s.f0 s.f1 s.f2 c g = some ((nxt s c g).f0, (nxt s c g).f1, (nxt s c g).f2) := by
  unfold spec_l03Next.f nxt
  by_cases h : wrap64 (s.f0 + wrap64 (s.f1 - g)) > c
  · simp only [if_pos h]
  · simp only [if_neg h]
theorem e_spec_l03Follow (l : List Int) (h16 : I16 l) (h0 : 0 < l.length) (hl : l.length ≤ 1048576) (g : Int) (n : Nat) (hn : n ≤ 100000) : Ev (fun k => spec_l03Follow.f k l g (n : Int)) (trkL l g n) := by
  unfold spec_l03Follow.f spec_l03Begin.f
  simp (disch := omega) only [e_spec_l01At l h16, Option.bind_some]
  have := ev_loop (fun k j => spec_l03Follow.l0 k l g (n : Int) (trkL l g j) ((j : Int) + 1)) n (trkL l g n) ?_ ?_
  · exact this
  · intro j hj ih
    refine evs ?_
    have e := trkL_len l g j
    have e2 : (j : Int) + 1 - 1 = j := by omega
    have e3 := trkL_rd l g j j (Nat.le_refl j)
    simp (disch := omega) only [spec_l03Follow.l0, if_pos, w64, e, e2, e3, e_spec_l01At l h16, Option.bind_some]
    have e4 : spec_l03Next.f (trk l g j).f0 (trk l g j).f1 (trk l g j).f2 (atz l ((j : Int) + 1)) g = some ((trk l g (j + 1)).f0, (trk l g (j + 1)).f1, (trk l g (j + 1)).f2) := by
      rw [trk_s]; exact e_spec_next _ _ _
    rw [e4]
    rw [trkL_snoc] at ih
    simp only [Option.bind_some]
    exact ih
  · refine evs ?_
    simp (disch := omega) only [spec_l03Follow.l0, if_neg]
    exact evo rfl
theorem e_impl_next (s : S128) (c g : Int) : impl_Track_next.f s.f0 s.f1 s.f2 c g = some ((nxt s c g).f0, (nxt s c g).f1, (nxt s c g).f2) := by
  unfold impl_Track_next.f nxt
  by_cases h : wrap64 (s.f0 + wrap64 (s.f1 - g)) > c
  · simp only [if_pos h]
  · simp only [if_neg h]
theorem e_impl_follow (l : List Int) (h16 : I16 l) (h0 : 0 < l.length) (hl : l.length ≤ 1048576) (g : Int) (n : Nat) (hn : n ≤ 100000) : Ev (fun k => impl_Cam_follow.f k l g (n : Int)) (trkL l g n) := by
  unfold impl_Cam_follow.f impl_Cam_change.f
  simp (disch := omega) only [e_impl_Cam_at l h16, w64, Option.bind_some]
  have := ev_loop (fun k j => impl_Cam_follow.l0 k l g (n : Int) (trkL l g j) ((j : Int) + 1) (trk l g j).f0 (trk l g j).f1 (trk l g j).f2) n (trkL l g n) ?_ ?_
  · exact this
  · intro j hj ih
    refine evs ?_
    have e := trkL_len l g j
    simp (disch := omega) only [impl_Cam_follow.l0, if_pos, w64, e, e_impl_Cam_at l h16, Option.bind_some]
    have e4 : impl_Track_next.f (trk l g j).f0 (trk l g j).f1 (trk l g j).f2 (atz l ((j : Int) + 1)) g = some ((trk l g (j + 1)).f0, (trk l g (j + 1)).f1, (trk l g (j + 1)).f2) := by
      rw [trk_s]; exact e_impl_next _ _ _
    rw [e4]
    rw [trkL_snoc] at ih
    simp only [Option.bind_some]
    exact ih
  · refine evs ?_
    simp (disch := omega) only [impl_Cam_follow.l0, if_neg]
    exact evo rfl

/-! land -/
def landB (l : List Int) (g : Int) (j : Nat) : Bool := (trk l g (j + 1)).f2 && !(trk l g j).f2
def blow (l : List Int) (g : Int) (j : Nat) : Int := wrap64 ((trk l g (j + 1)).f1 - wrap64 ((trk l g j).f1 - g))
def landL (l : List Int) (g : Int) : Nat → List S208
  | 0 => []
  | j + 1 => if landB l g j = true then landL l g j ++ [⟨(j : Int) + 1, blow l g j⟩] else landL l g j
theorem landL_s (l : List Int) (g : Int) (j : Nat) : landL l g (j + 1) = if landB l g j = true then landL l g j ++ [⟨(j : Int) + 1, blow l g j⟩] else landL l g j := rfl
theorem landL_len (l : List Int) (g : Int) (j : Nat) : (landL l g j).length ≤ j := by
  induction j with
  | zero => simp [landL]
  | succ j ih => rw [landL_s]; split
                 · simp; omega
                 · omega
theorem landL_f0 (l : List Int) (g : Int) (j : Nat) : ∀ x ∈ landL l g j, 1 ≤ x.f0 ∧ x.f0 ≤ j := by
  induction j with
  | zero => intro x hx; cases hx
  | succ j ih =>
    intro x hx
    rw [landL_s] at hx
    split at hx
    · rcases List.mem_append.1 hx with h | h
      · have := ih x h; omega
      · rw [List.mem_singleton.1 h]; dsimp only; omega
    · have := ih x hx; omega
theorem e_impl_landings (l : List Int) (g : Int) (n : Nat) (hn : n ≤ 100000) : Ev (fun k => impl_landings.f k (trkL l g n) g) (landL l g n) := by
  unfold impl_landings.f
  have e := trkL_len l g n
  have := ev_loop (fun k j => impl_landings.l0 k (trkL l g n) g (landL l g j) ((j : Int) + 1)) n (landL l g n) ?_ ?_
  · exact this
  · intro j hj ih
    refine evs ?_
    have e1 := trkL_rd l g n j (by omega)
    have e2 := trkL_rd l g n (j + 1) (by omega)
    rw [show ((j + 1 : Nat) : Int) = (j : Int) + 1 from rfl] at e2
    have e3 : (j : Int) + 1 - 1 = j := by omega
    have hl := landL_len l g j
    simp (disch := omega) only [impl_landings.l0, if_pos, w64, e, e3, e1, e2]
    rw [landL_s] at ih
    by_cases a : (trk l g (j + 1)).f2 = true
    · simp only [if_pos a]
      by_cases b : (trk l g j).f2 = true
      · rw [show landB l g j = false from by unfold landB; rw [a, b]; rfl] at ih
        simp only [if_pos b]; exact ih
      · rw [show landB l g j = true from by unfold landB; rw [a, Bool.eq_false_iff.mpr b]; rfl] at ih
        simp only [if_neg b]; exact ih
    · rw [show landB l g j = false from by unfold landB; rw [Bool.eq_false_iff.mpr a]; rfl] at ih
      simp only [if_neg a]; exact ih
  · refine evs ?_
    simp (disch := omega) only [impl_landings.l0, if_neg, e]
    exact evo rfl
theorem e_spec_l03Lands (l : List Int) (g : Int) (n j : Nat) (hn : n ≤ 100000) (hj : j < n) : spec_l03Lands.f (trkL l g n) ((j : Int) + 1) = some (landB l g j) := by
  have e := trkL_len l g n
  have e1 := trkL_rd l g n j (by omega)
  have e2 := trkL_rd l g n (j + 1) (by omega)
  rw [show ((j + 1 : Nat) : Int) = (j : Int) + 1 from rfl] at e2
  have e3 : (j : Int) + 1 - 1 = j := by omega
  unfold spec_l03Lands.f landB
  simp (disch := omega) only [if_pos, w64, e, e3, e1, e2]
  by_cases a : (trk l g (j + 1)).f2 = true
  · simp only [a, if_true, Bool.true_and]
  · simp only [Bool.eq_false_iff.mpr a, Bool.false_eq_true, if_false, Bool.false_and]
theorem e_spec_l03Blow (l : List Int) (g : Int) (n j : Nat) (hn : n ≤ 100000) (hj : j < n) (h : landB l g j = true) : spec_l03Blow.f (trkL l g n) ((j : Int) + 1) g = some (blow l g j) := by
  have e := trkL_len l g n
  have e1 := trkL_rd l g n j (by omega)
  have e2 := trkL_rd l g n (j + 1) (by omega)
  rw [show ((j + 1 : Nat) : Int) = (j : Int) + 1 from rfl] at e2
  have e3 : (j : Int) + 1 - 1 = j := by omega
  unfold landB at h
  have h1 := (Bool.and_eq_true _ _).mp h
  have h2 : (trk l g j).f2 = false := by simpa using h1.2
  unfold spec_l03Blow.f blow
  simp (disch := omega) only [if_pos, w64, e, e3, e1, e2]
  simp only [if_pos h1.1, h2, Bool.false_eq_true, if_false]

/-! clone -/
theorem e_clone (l : List Int) (hl : l.length ≤ 1048576) : impl_Cam_int16_93.f l = some l := by
  unfold impl_Cam_int16_93.f
  simp only [Option.bind_some, List.nil_append]
  rw [if_pos (by simp; omega)]

/-! asked -/
def FolOK (b g : Int) : Prop := (1 ≤ b ∧ b ≤ 20000) ∧ (1 ≤ g ∧ g ≤ 10000)
instance (b g : Int) : Decidable (FolOK b g) := by unfold FolOK; infer_instance
def askC (l : List Int) (b g : Int) : Int := if Valid l ∧ FolOK b g then 0 else 1
theorem askC_0 {l : List Int} {b g : Int} (h : askC l b g = 0) : Valid l ∧ FolOK b g := by
  unfold askC at h
  by_cases c : Valid l ∧ FolOK b g
  · exact c
  · rw [if_neg c] at h; omega
theorem askC_1 {l : List Int} {b g : Int} (h : ¬ askC l b g = 0) : askC l b g = 1 := by
  unfold askC at h ⊢
  by_cases c : Valid l ∧ FolOK b g
  · rw [if_pos c] at h; omega
  · rw [if_neg c]
theorem e_spec_l03Asked (l : List Int) (h16 : I16 l) (hl : l.length ≤ 1048576) (b g : Int) : Ev (fun k => spec_l03Asked.f k l b g) (askC l b g) := by
  unfold spec_l03Asked.f askC
  refine Ev.bind (e_spec_l01Ok l h16 hl) ?_
  by_cases hv : Valid l
  · simp only [hv, decide_true, if_true, true_and, spec_l03Ok.f, e_spec_l00In, Option.bind_some]
    by_cases h1 : 1 ≤ b ∧ b ≤ 20000
    · simp only [decide_eq_true h1, if_true, Option.bind_some]
      by_cases h2 : 1 ≤ g ∧ g ≤ 10000
      · simp only [decide_eq_true h2, if_true]
        exact evo (by rw [if_pos (show FolOK b g from ⟨h1, h2⟩)])
      · simp only [decide_eq_false h2, Bool.false_eq_true, if_false]
        exact evo (by rw [if_neg (show ¬ FolOK b g from fun h => h2 h.2)])
    · simp only [decide_eq_false h1, Bool.false_eq_true, if_false, Option.bind_some]
      exact evo (by rw [if_neg (show ¬ FolOK b g from fun h => h1 h.1)])
  · simp only [hv, decide_false, Bool.false_eq_true, if_false, false_and]; exact evo rfl
theorem e_impl_camCode (l : List Int) (h16 : I16 l) (hl : l.length ≤ 1048576) (b g : Int) : Ev (fun k => impl_camCode.f k l b g) (askC l b g) := by
  unfold impl_camCode.f askC
  refine Ev.bind (e_impl_ValidCam l h16 hl) ?_
  by_cases hv : Valid l
  · simp only [hv, decide_true, if_true, true_and, impl_ValidFollower.f, impl_isSpring.f, e_impl_inRange, Option.bind_some]
    by_cases h1 : 1 ≤ b ∧ b ≤ 20000
    · simp only [decide_eq_true h1, if_true, Option.bind_some]
      by_cases h2 : 1 ≤ g ∧ g ≤ 10000
      · simp only [decide_eq_true h2, if_true]
        exact evo (by rw [if_pos (show FolOK b g from ⟨h1, h2⟩)])
      · simp only [decide_eq_false h2, Bool.false_eq_true, if_false]
        exact evo (by rw [if_neg (show ¬ FolOK b g from fun h => h2 h.2)])
    · simp only [decide_eq_false h1, Bool.false_eq_true, if_false, Option.bind_some]
      exact evo (by rw [if_neg (show ¬ FolOK b g from fun h => h1 h.1)])
  · simp only [hv, decide_false, Bool.false_eq_true, if_false, false_and]; exact evo rfl

/-! i16valid -/
theorem I16.valid {l : List Int} (h : Valid l) : I16 l := by
  intro x hx
  obtain ⟨i, hi, rfl⟩ := List.getElem_of_mem hx
  have := h.2.2 i hi
  rw [rd_nat] at this
  simp [List.getD_eq_getElem?_getD, hi] at this
  exact ⟨by omega, by omega⟩

/-! wear -/
theorem wrap16_b (x : Int) : -32768 ≤ IntKind.i16.wrap x ∧ IntKind.i16.wrap x ≤ 32767 := by
  unfold IntKind.wrap IntKind.bits IntKind.signed; simp; omega
theorem I16.set {l : List Int} (h : I16 l) (i : Nat) (x : Int) (hx : -32768 ≤ x ∧ x ≤ 32767) : I16 (l.set i x) := by
  intro y hy
  rcases List.mem_or_eq_of_mem_set hy with h1 | h1
  · exact h y h1
  · rw [h1]; exact hx
/-- What a landing at a step leaves of the lift there. -/
def wv (l : List Int) (c t q : Int) : Int := IntKind.i16.wrap (mx 0 (wrap64 (atz l t - wrap64 (Int.tdiv q c))))
def wn (l : List Int) (g c : Int) : Nat → List Int
  | 0 => l
  | j + 1 => if landB l g (l.length + j) = true then (wn l g c j).set (((l.length + j + 1 : Nat) : Int) % (l.length : Int)).toNat (wv l c ((l.length + j + 1 : Nat) : Int) (blow l g (l.length + j))) else wn l g c j
theorem wn_s (l : List Int) (g c : Int) (j : Nat) : wn l g c (j + 1) = if landB l g (l.length + j) = true then (wn l g c j).set (((l.length + j + 1 : Nat) : Int) % (l.length : Int)).toNat (wv l c ((l.length + j + 1 : Nat) : Int) (blow l g (l.length + j))) else wn l g c j := rfl
theorem wn_len (l : List Int) (g c : Int) (j : Nat) : (wn l g c j).length = l.length := by
  induction j with
  | zero => rfl
  | succ j ih => rw [wn_s]; split
                 · rw [List.length_set, ih]
                 · exact ih
theorem wn_16 (l : List Int) (h : I16 l) (g c : Int) (j : Nat) : I16 (wn l g c j) := by
  induction j with
  | zero => exact h
  | succ j ih => rw [wn_s]; split
                 · exact I16.set ih _ _ (wrap16_b _)
                 · exact ih
def wornL (l : List Int) (g c : Int) : List Int := wn l g c l.length
theorem wornL_len (l : List Int) (g c : Int) : (wornL l g c).length = l.length := wn_len l g c _
theorem e_spec_l03Worn (l : List Int) (h16 : I16 l) (h0 : 0 < l.length) (hl : l.length ≤ 10000) (g c : Int) (hc : c ≠ 0) : Ev (fun k => spec_l03Worn.f k l g c) (wornL l g c) := by
  unfold spec_l03Worn.f
  rw [w64 (by omega) (by omega), show 2 * (l.length : Int) = ((2 * l.length : Nat) : Int) by omega]
  refine Ev.bind (e_spec_l03Follow l h16 h0 (by omega) g (2 * l.length) (by omega)) ?_
  simp (disch := first | omega | (simp; omega)) only [Option.bind_some, List.nil_append, if_pos, w64]
  have := ev_loop (fun k j => spec_l03Worn.l0 k l g c (l.length : Int) (trkL l g (2 * l.length)) (wn l g c j) ((l.length : Int) + 1 + (j : Int))) l.length (wornL l g c) ?_ ?_
  · rw [show (l.length : Int) + 1 + ((0 : Nat) : Int) = l.length + 1 by omega] at this; exact this
  · intro j hj ih
    refine evs ?_
    have e1 : (l.length : Int) + 1 + (j : Int) = ((l.length + j : Nat) : Int) + 1 := by omega
    have m := emod_b (((l.length + j : Nat) : Int) + 1) (show (0 : Int) < l.length by omega)
    have e2 := wn_len l g c j
    simp (disch := omega) only [spec_l03Worn.l0, if_pos, w64, e1, e_spec_l03Lands l g (2 * l.length) (l.length + j) (by omega) (by omega), Option.bind_some]
    rw [show (l.length : Int) + 1 + ((j + 1 : Nat) : Int) = ((l.length + j : Nat) : Int) + 1 + 1 by omega, wn_s] at ih
    by_cases q : landB l g (l.length + j) = true
    · rw [if_pos q] at ih
      simp only [if_pos q, e_spec_l03Blow l g (2 * l.length) (l.length + j) (by omega) (by omega) q, Option.bind_some]
      have em : ∀ x : Int, spec_l00Max.f 0 x = some (mx 0 x) := by
        intro x; unfold spec_l00Max.f mx
        by_cases h : (0 : Int) > x
        · rw [if_pos h, if_neg (by omega)]
        · rw [if_neg h]; by_cases h2 : 0 < x
          · rw [if_pos h2]
          · rw [if_neg h2, show (0 : Int) = x by omega]
      simp (disch := omega) only [e_spec_l01At l h16, Option.bind_some, if_neg hc, if_neg, em, tmod_pos, if_pos, e2]
      exact ih
    · rw [if_neg q] at ih
      simp only [if_neg q]
      exact ih
  · refine evs ?_
    simp (disch := omega) only [spec_l03Worn.l0, w64, if_neg]
    exact evo rfl
/-- The program's way: over the list of landings. -/
def wst (n c : Int) (w : List Int) (x : S208) : List Int := if x.f0 > n then w.set (x.f0 % n).toNat (IntKind.i16.wrap (mx 0 (wrap64 (wrap64 (rd w (x.f0 % n)) - wrap64 (Int.tdiv x.f1 c))))) else w
theorem wst_pos (n c : Int) (w : List Int) (x : S208) (h : x.f0 > n) : wst n c w x = w.set (x.f0 % n).toNat (IntKind.i16.wrap (mx 0 (wrap64 (wrap64 (rd w (x.f0 % n)) - wrap64 (Int.tdiv x.f1 c))))) := by unfold wst; rw [if_pos h]
theorem wst_neg (n c : Int) (w : List Int) (x : S208) (h : ¬ x.f0 > n) : wst n c w x = w := by unfold wst; rw [if_neg h]
theorem wst_len (n c : Int) (xs : List S208) (w : List Int) : (xs.foldl (wst n c) w).length = w.length := by
  induction xs generalizing w with
  | nil => rfl
  | cons x xs ih => rw [List.foldl_cons, ih]; unfold wst; split
                    · rw [List.length_set]
                    · rfl
theorem fold_low (l : List Int) (g c : Int) (m : Nat) (hm : m ≤ l.length) : (landL l g m).foldl (wst (l.length : Int) c) l = l := by
  induction m with
  | zero => rfl
  | succ m ih =>
    rw [landL_s]
    split
    · rw [List.foldl_append, ih (by omega), List.foldl_cons, List.foldl_nil]
      unfold wst; rw [if_neg (by dsimp only; omega)]
    · exact ih (by omega)
theorem rd_set_ne (w : List Int) (i : Nat) (x : Int) (j : Nat) (h : i ≠ j) : rd (w.set i x) (j : Int) = rd w (j : Int) := by
  rw [rd_nat, rd_nat, List.getD_eq_getElem?_getD, List.getD_eq_getElem?_getD, List.getElem?_set_ne h]
theorem idx_e (n j : Nat) (hn : 0 < n) (hj : j < n) : (((n + j + 1 : Nat) : Int) % (n : Int)) = ((if j + 1 = n then 0 else j + 1 : Nat) : Int) := by
  have e : ((n + j + 1 : Nat) : Int) = ((j + 1 : Nat) : Int) + (n : Int) := by omega
  rw [e, Int.add_emod_right]
  by_cases c : j + 1 = n
  · rw [if_pos c, c, Int.emod_self]; rfl
  · rw [if_neg c, Int.emod_eq_of_lt (by omega) (by omega)]
theorem wn_rd (l : List Int) (g c : Int) (h0 : 0 < l.length) (j q : Nat) (hj : j ≤ q) (hq : q < l.length) : rd (wn l g c j) (((l.length + q + 1 : Nat) : Int) % (l.length : Int)) = atz l ((l.length + q + 1 : Nat) : Int) := by
  induction j with
  | zero => rfl
  | succ j ih =>
    rw [wn_s]
    split
    · rw [idx_e _ _ h0 (show j < l.length by omega), idx_e _ _ h0 hq, Int.toNat_natCast, rd_set_ne _ _ _ _ (by split <;> split <;> omega), ← idx_e _ _ h0 hq]
      exact ih (by omega)
    · exact ih (by omega)
theorem fold_high (l : List Int) (h16 : I16 l) (g c : Int) (h0 : 0 < l.length) (j : Nat) (hj : j ≤ l.length) : (landL l g (l.length + j)).foldl (wst (l.length : Int) c) l = wn l g c j := by
  induction j with
  | zero => exact fold_low l g c l.length (Nat.le_refl _)
  | succ j ih =>
    rw [← Nat.add_assoc, landL_s, wn_s]
    split
    · rw [List.foldl_append, ih (by omega), List.foldl_cons, List.foldl_nil]
      unfold wst
      have e1 : ((l.length + j : Nat) : Int) + 1 = ((l.length + j + 1 : Nat) : Int) := by omega
      rw [if_pos (show ((l.length + j : Nat) : Int) + 1 > (l.length : Int) by omega)]
      dsimp only
      have b : -32768 ≤ atz l ((l.length + j + 1 : Nat) : Int) ∧ atz l ((l.length + j + 1 : Nat) : Int) ≤ 32767 := h16.rdb _
      rw [e1, wn_rd l g c h0 j j (Nat.le_refl _) (by omega), w64 (show -9223372036854775808 ≤ atz l ((l.length + j + 1 : Nat) : Int) by omega) (by omega)]
      rfl
    · exact ih (by omega)
theorem e_impl_worn (l : List Int) (h16 : I16 l) (h0 : 0 < l.length) (hl : l.length ≤ 10000) (g c : Int) (hc : c ≠ 0) : Ev (fun k => impl_Cam_worn.f k l g c) (wornL l g c) := by
  unfold impl_Cam_worn.f
  simp only [e_impl_Cam_steps, e_clone l (by omega), Option.bind_some]
  rw [w64 (by omega) (by omega), show 2 * (l.length : Int) = ((2 * l.length : Nat) : Int) by omega]
  refine Ev.bind (e_impl_follow l h16 h0 (by omega) g (2 * l.length) (by omega)) (Ev.bind (e_impl_landings l g (2 * l.length) (by omega)) ?_)
  have hlen := landL_len l g (2 * l.length)
  have hf0 := landL_f0 l g (2 * l.length)
  have hr : wornL l g c = (landL l g (2 * l.length)).foldl (wst (l.length : Int) c) l := by
    have := fold_high l h16 g c h0 l.length (Nat.le_refl _)
    rw [show 2 * l.length = l.length + l.length by omega, this]; rfl
  rw [hr]
  revert hlen hf0
  generalize landL l g (2 * l.length) = ys
  intro hlen hf0
  have := ev_loop (fun k j => impl_Cam_worn.l0 k c (l.length : Int) ((ys.take j).foldl (wst (l.length : Int) c) l) ys (ys.length : Int) (j : Int)) ys.length (ys.foldl (wst (l.length : Int) c) l) ?_ ?_
  · exact this
  · intro j hj ih
    refine evs ?_
    have er : rd_T208 ys (j : Int) = ys[j] := by unfold rd_T208; rw [Int.toNat_natCast, List.getD_eq_getElem?_getD, List.getElem?_eq_getElem hj]; rfl
    have hx := hf0 ys[j] (List.getElem_mem hj)
    have m := emod_b ys[j].f0 (show (0 : Int) < l.length by omega)
    have el := wst_len (l.length : Int) c (ys.take j) l
    rw [List.take_succ_eq_append_getElem hj, List.foldl_append, List.foldl_cons, List.foldl_nil] at ih
    simp (disch := omega) only [impl_Cam_worn.l0, if_pos, w64, er]
    by_cases q : ys[j].f0 > (l.length : Int)
    · rw [wst_pos _ _ _ _ q] at ih
      simp (disch := omega) only [if_pos q, if_neg hc, if_neg, tmod_pos, if_pos, el]
      exact ih
    · rw [wst_neg _ _ _ _ q] at ih
      simp only [if_neg q]
      exact ih
  · refine evs ?_
    simp (disch := omega) only [impl_Cam_worn.l0, if_neg, List.take_length]
    exact evo rfl
def wearC (l : List Int) (b g t c : Int) : Int := if askC l b g = 0 then (if 0 ≤ t ∧ t ≤ 100 then (if 1 ≤ c ∧ c ≤ 10000 then 0 else 2) else 2) else 1
theorem wearC_0 {l : List Int} {b g t c : Int} (h : wearC l b g t c = 0) : Valid l ∧ (0 ≤ t ∧ t ≤ 100) ∧ (1 ≤ c ∧ c ≤ 10000) := by
  unfold wearC at h
  by_cases a : askC l b g = 0
  · rw [if_pos a] at h
    by_cases d : 0 ≤ t ∧ t ≤ 100
    · rw [if_pos d] at h
      by_cases e : 1 ≤ c ∧ c ≤ 10000
      · exact ⟨(askC_0 a).1, d, e⟩
      · rw [if_neg e] at h; omega
    · rw [if_neg d] at h; omega
  · rw [if_neg a] at h; omega
theorem e_spec_l03Wearing (l : List Int) (h16 : I16 l) (hl : l.length ≤ 1048576) (b g t c : Int) : Ev (fun k => spec_l03Wearing.f k l b g t c) (wearC l b g t c) := by
  unfold spec_l03Wearing.f wearC
  refine Ev.bind (e_spec_l03Asked l h16 hl b g) ?_
  by_cases h : askC l b g = 0
  · simp only [if_pos h, e_spec_l00In, Option.bind_some]
    by_cases d : 0 ≤ t ∧ t ≤ 100
    · simp only [decide_eq_true d, if_pos d, if_true]
      by_cases e : 1 ≤ c ∧ c ≤ 10000
      · simp only [decide_eq_true e, if_pos e, if_true]; exact evo h
      · simp only [decide_eq_false e, if_neg e, Bool.false_eq_true, if_false]; exact evo rfl
    · simp only [decide_eq_false d, if_neg d, Bool.false_eq_true, if_false]; exact evo rfl
  · simp only [if_neg h]; exact evo (askC_1 h)
theorem e_impl_wearCode (l : List Int) (h16 : I16 l) (hl : l.length ≤ 1048576) (b g t c : Int) : Ev (fun k => impl_wearCode.f k l b g t c) (wearC l b g t c) := by
  unfold impl_wearCode.f wearC
  refine Ev.bind (e_impl_camCode l h16 hl b g) ?_
  by_cases h : askC l b g = 0
  · simp only [if_pos h, e_impl_inRange, Option.bind_some]
    by_cases d : 0 ≤ t ∧ t ≤ 100
    · simp only [decide_eq_true d, if_pos d, if_true]
      by_cases e : 1 ≤ c ∧ c ≤ 10000
      · simp only [decide_eq_true e, if_pos e, if_true]; exact evo rfl
      · simp only [decide_eq_false e, if_neg e, Bool.false_eq_true, if_false]; exact evo rfl
    · simp only [decide_eq_false d, if_neg d, Bool.false_eq_true, if_false]; exact evo rfl
  · simp only [if_neg h]; exact evo rfl

/-! WearCam -/
def wcN (l : List Int) (g c : Int) : Nat → List Int
  | 0 => l
  | j + 1 => wornL (wcN l g c j) g c
theorem wcN_s (l : List Int) (g c : Int) (j : Nat) : wcN l g c (j + 1) = wornL (wcN l g c j) g c := rfl
theorem wcN_len (l : List Int) (g c : Int) (j : Nat) : (wcN l g c j).length = l.length := by
  induction j with
  | zero => rfl
  | succ j ih => rw [wcN_s, wornL_len, ih]
theorem wcN_16 (l : List Int) (h : I16 l) (g c : Int) (j : Nat) : I16 (wcN l g c j) := by
  induction j with
  | zero => exact h
  | succ j ih => rw [wcN_s]; exact wn_16 _ ih _ _ _
def wcR (l : List Int) (b g t c : Int) : List Int × Int := if wearC l b g t c = 0 then (wcN l g c t.toNat, 0) else ([], wearC l b g t c)
theorem wcR_len (l : List Int) (b g t c : Int) (hl : l.length ≤ 1048576) : (wcR l b g t c).1.length ≤ 1048576 := by
  unfold wcR
  split
  · simp only [wcN_len]; exact hl
  · exact Nat.zero_le _
theorem e_spec_WearCam (l : List Int) (h16 : I16 l) (hl : l.length ≤ 1048576) (b g t c : Int) : Ev (fun k => spec_WearCam.f k l b g t c) (wcR l b g t c) := by
  unfold spec_WearCam.f wcR
  refine Ev.bind (e_spec_l03Wearing l h16 hl b g t c) ?_
  by_cases h : wearC l b g t c = 0
  · obtain ⟨hv, ht, hc⟩ := wearC_0 h
    have h1 := hv.1
    have h2 := hv.2.1
    simp only [if_pos h]
    simp (disch := first | omega | (simp; omega)) only [Option.bind_some, List.nil_append, if_pos]
    have := ev_loop (fun k j => spec_WearCam.l0 k t c (wcN l g c j) (j : Int) b g) t.toNat (wcN l g c t.toNat, (0 : Int)) ?_ ?_
    · exact this
    · intro j hj ih
      refine evs ?_
      have e := wcN_len l g c j
      simp (disch := omega) only [spec_WearCam.l0, if_pos, w64]
      exact Ev.bind (e_spec_l03Worn _ (wcN_16 l h16 g c j) (by omega) (by omega) g c (by omega)) ih
    · refine evs ?_
      simp (disch := omega) only [spec_WearCam.l0, if_neg]
      exact evo rfl
  · simp only [if_neg h]; exact evo rfl
theorem e_impl_WearCam (l : List Int) (h16 : I16 l) (hl : l.length ≤ 1048576) (b g t c : Int) : Ev (fun k => impl_WearCam.f k l b g t c) (wcR l b g t c) := by
  unfold impl_WearCam.f wcR
  refine Ev.bind (e_impl_wearCode l h16 hl b g t c) ?_
  by_cases h : wearC l b g t c = 0
  · obtain ⟨hv, ht, hc⟩ := wearC_0 h
    have h1 := hv.1
    have h2 := hv.2.1
    simp only [if_pos h, e_clone l hl, Option.bind_some]
    have := ev_loop (fun k j => impl_WearCam.l0 k c (wcN l g c j) t (j : Int) b g) t.toNat (wcN l g c t.toNat, (0 : Int)) ?_ ?_
    · exact this
    · intro j hj ih
      refine evs ?_
      have e := wcN_len l g c j
      simp (disch := omega) only [impl_WearCam.l0, if_pos, w64]
      exact Ev.bind (e_impl_worn _ (wcN_16 l h16 g c j) (by omega) (by omega) g c (by omega)) ih
    · refine evs ?_
      simp (disch := omega) only [impl_WearCam.l0, if_neg]
      exact evo rfl
  · simp only [if_neg h]; exact evo rfl

/-! laws_cam -/
theorem e_laws_toCam (l : List Int) (hl : l.length ≤ 1048576) : Ev (fun k => laws_toCam.f k l) l := by
  unfold laws_toCam.f
  simp (disch := omega) only [if_pos]
  have := ev_loop (fun k j => laws_toCam.l0 k l (l.take j ++ List.replicate (l.length - j) 0) (j : Int)) l.length l ?_ ?_
  · simpa using this
  · intro j hj ih
    refine evs ?_
    have e : ((l.take j ++ List.replicate (l.length - j) 0).length : Int) = l.length := by simp; omega
    simp (disch := omega) only [laws_toCam.l0, if_pos, e, w64]
    have e2 : (l.take j ++ List.replicate (l.length - j) 0).set ((j : Int)).toNat (rd l (j : Int)) = l.take (j + 1) ++ List.replicate (l.length - (j + 1)) 0 := by
      have e3 : l.length - j = (l.length - (j + 1)) + 1 := by omega
      rw [e3, List.replicate_succ, Int.toNat_natCast, set_app _ _ _ _ _ (by simp; omega), rd_nat, List.take_succ_eq_append_getElem hj]
      have e4 : l.getD j 0 = l[j] := by simp [List.getD_eq_getElem?_getD, hj]
      rw [e4, List.append_assoc, List.singleton_append]
    rw [e2]
    exact ih
  · refine evs ?_
    simp (disch := omega) only [laws_toCam.l0, if_neg]
    exact evo (by simp)
theorem e_laws_eqCam (l : List Int) (hl : l.length ≤ 1048576) : Ev (fun k => laws_eqCam.f k l l) true := by
  unfold laws_eqCam.f
  simp only [if_true]
  have := ev_loop (fun k j => laws_eqCam.l0 k l l (j : Int)) l.length true ?_ ?_
  · exact this
  · intro j hj ih
    refine evs ?_
    simp (disch := omega) only [laws_eqCam.l0, if_pos, if_true, w64]
    exact ih
  · refine evs ?_
    simp (disch := omega) only [laws_eqCam.l0, if_neg]
    exact evo rfl

/-! marked -/
def marked (m : Int) (n : Nat) : List Int := (List.range n).map fun j : Nat => IntKind.i16.wrap (m + j)
theorem marked_len (m : Int) (n : Nat) : (marked m n).length = n := by simp [marked]

/-! laws_markonly -/
theorem e_laws_markCam (l : List Int) (hl : l.length ≤ 1048576) (m : Int) (h0 : 0 ≤ m) (h1 : m ≤ 1000000000) : Ev (fun k => laws_markCam.f k l m) (m + l.length, marked m l.length) := by
  unfold laws_markCam.f
  have := ev_loop (fun k j => laws_markCam.l0 k (marked m j ++ l.drop j) (m + j) (j : Int)) l.length (m + l.length, marked m l.length) ?_ ?_
  · simpa [marked] using this
  · intro j hj ih
    refine evs ?_
    have e : ((marked m j ++ l.drop j).length : Int) = l.length := by simp [marked_len]; omega
    have e2 : (marked m j ++ l.drop j).set ((j : Int)).toNat (IntKind.i16.wrap (m + j)) = marked m (j + 1) ++ l.drop (j + 1) := by
      rw [Int.toNat_natCast, List.drop_eq_getElem_cons hj, set_app _ _ _ _ _ (marked_len _ _)]
      unfold marked; rw [map_snoc]; simp
    simp (disch := omega) only [laws_markCam.l0, if_pos, e, w64]
    rw [e2, show m + (j : Int) + 1 = m + ((j + 1 : Nat) : Int) by omega]
    exact ih
  · refine evs ?_
    have e : ((marked m l.length ++ l.drop l.length).length : Int) = l.length := by simp [marked_len]
    simp (disch := omega) only [laws_markCam.l0, if_neg, e]
    exact evo (by simp)

/-! laws_held -/
theorem e_laws_heldCam (n : Nat) (hl : n ≤ 1048576) (m : Int) (h0 : 0 ≤ m) (h1 : m ≤ 1000000000) : Ev (fun k => laws_heldCam.f k (marked m n) m) (m + n) := by
  unfold laws_heldCam.f
  have e : ((marked m n).length : Int) = n := by rw [marked_len]
  have := ev_loop (fun k j => laws_heldCam.l0 k (marked m n) (m + j) (j : Int)) n (m + n) ?_ ?_
  · simpa using this
  · intro j hj ih
    refine evs ?_
    have e2 : rd (marked m n) (j : Int) = IntKind.i16.wrap (m + j) := by unfold marked; rw [rd_map _ _ _ (by omega) (by omega)]; simp
    simp (disch := omega) only [laws_heldCam.l0, if_pos, e, e2, if_true, w64]
    rw [show m + (j : Int) + 1 = m + ((j + 1 : Nat) : Int) by omega]
    exact ih
  · refine evs ?_
    simp (disch := omega) only [laws_heldCam.l0, if_neg, e]
    exact evo rfl

/-! laws_mark -/

/-! laws_toFollower -/
theorem e_laws_toFollower (a b : Int) : laws_toFollower.f a b = some (a, b) := rfl

set_option maxHeartbeats 4000000 in
theorem FnExactWearCam : ∀ (l0 : List Int) (a1_0 : Int) (a1_1 : Int) (a2 : Int) (a3 : Int), (l0.length ≤ maxLen ∧ ∀ x2 ∈ l0, (Lit.int .i16 x2).wf = true) → (Lit.int .i64 a1_0).wf = true → (Lit.int .i64 a1_1).wf = true → (Lit.int .i64 a2).wf = true → (Lit.int .i64 a3).wf = true → ∃ k, laws_FnExactWearCam.f k l0 a1_0 a1_1 a2 a3 = some true := by
  rintro l0 a1_0 a1_1 a2 a3 ⟨_, w0⟩ v1 v2 v3 v4
  have h0 := I16.of_wf w0
  have i1 := wf_i64 v1
  have i2 := wf_i64 v2
  have i3 := wf_i64 v3
  have i4 := wf_i64 v4
  refine ev_rounds ?_
  unfold laws_FnExactWearCam.f
  by_cases b0 : (l0.length : Int) > 1048576
  · simp only [if_pos b0]; exact evo rfl
  simp only [if_neg b0]
  have b0 : l0.length ≤ 1048576 := by omega
  have T0 := e_laws_toCam l0 b0
  have Q0 := e_laws_eqCam l0 b0
  have M0 := e_laws_markCam l0 b0
  have A := e_spec_WearCam l0 h0 b0 a1_0 a1_1 a2 a3
  have B := e_impl_WearCam l0 h0 b0 a1_0 a1_1 a2 a3
  have hr : (wcR l0 a1_0 a1_1 a2 a3).1.length ≤ 1048576 := wcR_len l0 a1_0 a1_1 a2 a3 b0
  revert A B hr
  generalize (wcR l0 a1_0 a1_1 a2 a3) = RR
  obtain ⟨r, c1⟩ := RR
  intro A B hr
  have QR := e_laws_eqCam r hr
  have MR := e_laws_markCam r hr
  have HR := e_laws_heldCam r.length hr
  repeat (first | exact evo rfl | (simp only [laws_toFollower.f, Option.bind_some]) | (with_reducible refine Ev.bind T0 ?_) | (with_reducible refine Ev.bind Q0 ?_) | ((with_reducible refine Ev.bind (M0 _ ?s1 ?s2) ?_); (case s1 => first | omega | (dsimp only; omega)); (case s2 => first | omega | (dsimp only; omega))) | (with_reducible refine Ev.bind A ?_) | (with_reducible refine Ev.bind B ?_) | (with_reducible refine Ev.bind QR ?_) | ((with_reducible refine Ev.bind (MR 1 ?s1 ?s2) ?_); (case s1 => first | omega | (dsimp only; omega)); (case s2 => first | omega | (dsimp only; omega))) | ((with_reducible refine Ev.bind (HR 1 ?s1 ?s2) ?_); (case s1 => first | omega | (dsimp only; omega)); (case s2 => first | omega | (dsimp only; omega))) | ((with_reducible refine ev_pos ?s1 ?_); (case s1 => first | rfl | trivial | omega | (dsimp only; omega))) | ((with_reducible refine ev_neg ?s1 ?_); (case s1 => first | omega | (dsimp only; omega) | (simp; done))) | (refine evs ?_; simp only [laws_FnExactWearCam.j0, laws_FnExactWearCam.j1, laws_FnExactWearCam.j2]))


end Go.Proofs.Ytbobbihbikocbab.Pure
