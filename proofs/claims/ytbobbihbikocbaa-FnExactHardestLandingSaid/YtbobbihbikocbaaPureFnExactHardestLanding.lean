/- The pure statement of the law FnExactHardestLanding: the program's function and the reference's tell the same of every input, by plain lemmas on numbers, lists and rounds; no further condition. -/
import Derived.Test.YtbobbihbikocbaaXFnExactHardestLandingx
import Derived.Test.YtbobbihbikocbaaXLib
namespace Go.Proofs.Ytbobbihbikocbaa.Pure
open Go.RowKit Go.Proofs.Ytbobbihbikocbaa.XFnExactHardestLanding Go.Proofs.Ytbobbihbikocbaa.XLib Go.Proofs.YtbobbihbikocbaaW.PrintWords Go.Proofs.YtbobbihbikocbaaW.PrintLast Go.Proofs.YtbobbihbikocbaaW.PrintMore
set_option maxRecDepth 100000
set_option linter.unusedVariables false
set_option linter.unusedSimpArgs false
/-! spec_at -/
theorem e_spec_l01At (l : List Int) (h16 : I16 l) (h0 : 0 < l.length) (hl : l.length ≤ 1048576) (a : Int) (ha : -1000000000000 ≤ a) (hb : a ≤ 1000000000000) : spec_l01At.f l a = some (atz l a) := by
  unfold spec_l01At.f atz
  have hn : (0 : Int) < l.length := by omega
  have b := tmod_b a hn
  rw [if_neg (by omega), w64 (by omega) (by omega), two_mods a hn]
  have c := emod_b a hn
  rw [if_pos c.1, if_pos c.2]
  have := h16.rdb (a % (l.length : Int))
  rw [w64 (by omega) (by omega)]

/-! base_impl -/
theorem e_impl_inRange (a b c : Int) : impl_inRange.f a b c = some (decide (b ≤ a ∧ a ≤ c)) := by
  unfold impl_inRange.f
  by_cases h : b ≤ a <;> simp [h]
theorem e_impl_isSteps (a : Int) : impl_isSteps.f a = some (decide (8 ≤ a ∧ a ≤ 360)) := by
  unfold impl_isSteps.f; rw [e_impl_inRange]; rfl
theorem e_impl_isLift (a : Int) : impl_isLift.f a = some (decide (0 ≤ a ∧ a ≤ 10000)) := by
  unfold impl_isLift.f; rw [e_impl_inRange]; rfl
theorem e_impl_Cam_steps (l : List Int) : impl_Cam_steps.f l = some (l.length : Int) := rfl
theorem e_impl_ValidCam (l : List Int) (h16 : I16 l) (hl : l.length ≤ 1048576) : Ev (fun k => impl_ValidCam.f k l) (decide (Valid l)) := by
  unfold impl_ValidCam.f
  simp only [e_impl_Cam_steps, e_impl_isSteps, Option.bind_some]
  by_cases h : 8 ≤ (l.length : Int) ∧ (l.length : Int) ≤ 360
  · simp only [h, and_self, decide_true, if_true]
    unfold slices_ContainsFunc_at_impl_ValidCam_c1.f slices_IndexFunc_at_impl_ValidCam_c1.f
    have := ev_find (fun k j => slices_IndexFunc_at_impl_ValidCam_c1.l0 k l (l.length : Int) (j : Int)) (fun j => decide (0 ≤ rd l (j : Int) ∧ rd l (j : Int) ≤ 10000)) l.length (-1) (fun j => (j : Int)) ?_ ?_ ?_
    · refine Ev.bind (Ev.bind this (evo rfl)) (evo ?_)
      rcases ff_eq (fun j => decide (0 ≤ rd l (j : Int) ∧ rd l (j : Int) ≤ 10000)) (-1 : Int) (fun j => (j : Int)) l.length with ⟨hh, e⟩ | ⟨m, hm, hf, _, e⟩
      · rw [e, decide_eq_true (show Valid l from ⟨by omega, by omega, fun j hj => by simpa using hh j hj⟩)]; rfl
      · rw [e, decide_eq_false (show ¬ Valid l from fun hv => by rw [decide_eq_true (hv.2.2 m hm)] at hf; cases hf)]
        simp
    · intro j r hj hp ih
      refine evs ?_
      have hb := h16.rdb (j : Int)
      simp (disch := omega) only [slices_IndexFunc_at_impl_ValidCam_c1.l0, impl_ValidCam_c1.f, if_pos, e_impl_isLift, Option.bind_some, w64]
      first | exact ih | (rw [hp]; simp only [Bool.not_true, Bool.false_eq_true, if_false]; exact ih)
    · intro j hj hp
      refine evs ?_
      have hb := h16.rdb (j : Int)
      simp (disch := omega) only [slices_IndexFunc_at_impl_ValidCam_c1.l0, impl_ValidCam_c1.f, if_pos, e_impl_isLift, Option.bind_some, w64]
      first | exact evo rfl | (rw [hp]; exact evo rfl)
    · refine evs ?_
      simp (disch := omega) only [slices_IndexFunc_at_impl_ValidCam_c1.l0, if_neg]
      exact evo rfl
  · rw [decide_eq_false h]
    simp only [Bool.false_eq_true, if_false]
    exact evo (decide_eq_false (fun hv => h ⟨by have := hv.1; omega, by have := hv.2.1; omega⟩)).symm

/-! impl_mod -/
theorem e_impl_floorDiv (a n : Int) (h : 0 < n) (ha : -9223372036854775807 ≤ a) (hb : a ≤ 9223372036854775807) : impl_floorDiv.f a n = some (a / n) := by
  unfold impl_floorDiv.f
  have := tdiv_b a h 9223372036854775807 ha hb
  rw [if_neg (by omega), ← floor_tdiv a h]
  by_cases c : Int.tmod a n < 0
  · simp (disch := omega) only [if_pos c, w64]
  · simp (disch := omega) only [if_neg c, w64]
theorem e_impl_mod (a n : Int) (h : 0 < n) (hn : n ≤ 1048576) (ha : -1000000000000 ≤ a) (hb : a ≤ 1000000000000) : impl_mod.f a n = some (a % n) := by
  unfold impl_mod.f
  rw [e_impl_floorDiv a n h (by omega) (by omega)]
  have e := Int.emod_add_mul_ediv a n
  have b := emod_b a h
  simp (disch := omega) only [Option.bind_some, w64, mod_ediv]

/-! impl_at -/
theorem e_impl_Cam_at (l : List Int) (h16 : I16 l) (h0 : 0 < l.length) (hl : l.length ≤ 1048576) (a : Int) (ha : -1000000000000 ≤ a) (hb : a ≤ 1000000000000) : impl_Cam_at.f l a = some (atz l a) := by
  unfold impl_Cam_at.f atz
  have hn : (0 : Int) < l.length := by omega
  have c := emod_b a hn
  rw [e_impl_Cam_steps, Option.bind_some, e_impl_mod a _ hn (by omega) ha hb, Option.bind_some, if_pos c.1, if_pos c.2]
  have := h16.rdb (a % (l.length : Int))
  rw [w64 (by omega) (by omega)]

/-! base_spec -/
theorem e_spec_l00In (a b c : Int) : spec_l00In.f a b c = some (decide (b ≤ a ∧ a ≤ c)) := by
  unfold spec_l00In.f
  by_cases h : b ≤ a <;> simp [h]
theorem e_spec_l01Steps (a : Int) : spec_l01Steps.f a = some (decide (8 ≤ a ∧ a ≤ 360)) := by
  unfold spec_l01Steps.f; rw [e_spec_l00In]; rfl
theorem e_spec_l01Lift (a : Int) : spec_l01Lift.f a = some (decide (0 ≤ a ∧ a ≤ 10000)) := by
  unfold spec_l01Lift.f; rw [e_spec_l00In]; rfl
theorem e_spec_l01Ok (l : List Int) (h16 : I16 l) (hl : l.length ≤ 1048576) : Ev (fun k => spec_l01Ok.f k l) (decide (Valid l)) := by
  unfold spec_l01Ok.f
  simp only [e_spec_l01Steps, Option.bind_some]
  by_cases h : 8 ≤ (l.length : Int) ∧ (l.length : Int) ≤ 360
  · simp only [h, and_self, decide_true, if_true]
    have := ev_find (fun k j => spec_l01Ok.l0 k l (j : Int)) (fun j => decide (0 ≤ rd l (j : Int) ∧ rd l (j : Int) ≤ 10000)) l.length true (fun _ => false) ?_ ?_ ?_
    · rw [ff_all] at this
      refine eve this ?_
      apply decide_eq_decide.mpr
      unfold Valid
      constructor
      · intro hh; exact ⟨by omega, by omega, fun j hj => by simpa using hh j hj⟩
      · intro hh j hj; simpa using hh.2.2 j hj
    · intro j r hj hp ih
      refine evs ?_
      have hb := h16.rdb (j : Int)
      simp (disch := omega) only [spec_l01Ok.l0, if_pos, e_spec_l01Lift, Option.bind_some, w64]
      first | exact ih | (rw [hp]; simp only [if_true]; exact ih)
    · intro j hj hp
      refine evs ?_
      have hb := h16.rdb (j : Int)
      simp (disch := omega) only [spec_l01Ok.l0, if_pos, e_spec_l01Lift, Option.bind_some, w64]
      first | exact evo rfl | (rw [hp]; exact evo rfl)
    · refine evs ?_
      simp (disch := omega) only [spec_l01Ok.l0, if_neg]
      exact evo rfl
  · rw [decide_eq_false h]
    simp only [Bool.false_eq_true, if_false]
    exact evo (decide_eq_false (fun hv => h ⟨by have := hv.1; omega, by have := hv.2.1; omega⟩)).symm

/-! trk -/
def nxt (s : S178) (c g : Int) : S178 := if wrap64 (s.f0 + wrap64 (s.f1 - g)) > c then ⟨wrap64 (s.f0 + wrap64 (s.f1 - g)), wrap64 (s.f1 - g), false⟩ else ⟨c, wrap64 (c - s.f0), true⟩
def trk (l : List Int) (g : Int) : Nat → S178
  | 0 => ⟨atz l 0, wrap64 (atz l 0 - atz l (-1)), true⟩
  | j + 1 => nxt (trk l g j) (atz l ((j + 1 : Nat) : Int)) g
theorem trk_s (l : List Int) (g : Int) (j : Nat) : trk l g (j + 1) = nxt (trk l g j) (atz l ((j + 1 : Nat) : Int)) g := rfl
def trkL (l : List Int) (g : Int) (n : Nat) : List S178 := (List.range (n + 1)).map (trk l g)
theorem trkL_len (l : List Int) (g : Int) (n : Nat) : (trkL l g n).length = n + 1 := by simp [trkL]
theorem rdT_map (f : Nat → S178) (n : Nat) (i : Int) (h0 : 0 ≤ i) (h1 : i < n) : rd_T178 ((List.range n).map f) i = f i.toNat := by
  unfold rd_T178
  have : i.toNat < n := by omega
  simp [List.getD_eq_getElem?_getD, this]
theorem trkL_rd (l : List Int) (g : Int) (n : Nat) (j : Nat) (h : j ≤ n) : rd_T178 (trkL l g n) (j : Int) = trk l g j := by
  unfold trkL; rw [rdT_map _ _ _ (by omega) (by omega)]; simp
theorem trkL_snoc (l : List Int) (g : Int) (n : Nat) : trkL l g (n + 1) = trkL l g n ++ [trk l g (n + 1)] := by unfold trkL; rw [map_snoc]
theorem e_spec_next (s : S178) (c g : Int) : spec_l03Next.f s.f0 s.f1 s.f2 c g = some ((nxt s c g).f0, (nxt s c g).f1, (nxt s c g).f2) := by
  unfold spec_l03Next.f nxt
  by_cases h : wrap64 (s.f0 + wrap64 (s.f1 - g)) > c
  · simp only [if_pos h]
  · simp only [if_neg h]
theorem e_spec_l03Follow (l : List Int) (h16 : I16 l) (h0 : 0 < l.length) (hl : l.length ≤ 1048576) (g : Int) (n : Nat) (hn : n ≤ 100000) : Ev (fun k => spec_l03Follow.f k l g (n : Int)) (trkL l g n) := by
  unfold spec_l03Follow.f spec_l03Begin.f
  simp (disch := omega) only [e_spec_l01At l h16, Option.bind_some]
  have := ev_loop (fun k j => spec_l03Follow.l0 k l g (n : Int) (trkL l g j) ((j : Int) + 1)) n (trkL l g n) ?_ ?_
  · exact this
  · intro j hj ih
    refine evs ?_
    have e := trkL_len l g j
    have e2 : (j : Int) + 1 - 1 = j := by omega
    have e3 := trkL_rd l g j j (Nat.le_refl j)
    simp (disch := omega) only [spec_l03Follow.l0, if_pos, w64, e, e2, e3, e_spec_l01At l h16, Option.bind_some]
    have e4 : spec_l03Next.f (trk l g j).f0 (trk l g j).f1 (trk l g j).f2 (atz l ((j : Int) + 1)) g = some ((trk l g (j + 1)).f0, (trk l g (j + 1)).f1, (trk l g (j + 1)).f2) := by
      rw [trk_s]; exact e_spec_next _ _ _
    rw [e4]
    rw [trkL_snoc] at ih
    simp only [Option.bind_some]
    exact ih
  · refine evs ?_
    simp (disch := omega) only [spec_l03Follow.l0, if_neg]
    exact evo rfl
theorem e_impl_next (s : S178) (c g : Int) : impl_Track_next.f s.f0 s.f1 s.f2 c g = some ((nxt s c g).f0, (nxt s c g).f1, (nxt s c g).f2) := by
  unfold impl_Track_next.f nxt
  by_cases h : wrap64 (s.f0 + wrap64 (s.f1 - g)) > c
  · simp only [if_pos h]
  · simp only [if_neg h]
theorem e_impl_follow (l : List Int) (h16 : I16 l) (h0 : 0 < l.length) (hl : l.length ≤ 1048576) (g : Int) (n : Nat) (hn : n ≤ 100000) : Ev (fun k => impl_Cam_follow.f k l g (n : Int)) (trkL l g n) := by
  unfold impl_Cam_follow.f impl_Cam_change.f
  simp (disch := omega) only [e_impl_Cam_at l h16, w64, Option.bind_some]
  have := ev_loop (fun k j => impl_Cam_follow.l0 k l g (n : Int) (trkL l g j) ((j : Int) + 1) (trk l g j).f0 (trk l g j).f1 (trk l g j).f2) n (trkL l g n) ?_ ?_
  · exact this
  · intro j hj ih
    refine evs ?_
    have e := trkL_len l g j
    simp (disch := omega) only [impl_Cam_follow.l0, if_pos, w64, e, e_impl_Cam_at l h16, Option.bind_some]
    have e4 : impl_Track_next.f (trk l g j).f0 (trk l g j).f1 (trk l g j).f2 (atz l ((j : Int) + 1)) g = some ((trk l g (j + 1)).f0, (trk l g (j + 1)).f1, (trk l g (j + 1)).f2) := by
      rw [trk_s]; exact e_impl_next _ _ _
    rw [e4]
    rw [trkL_snoc] at ih
    simp only [Option.bind_some]
    exact ih
  · refine evs ?_
    simp (disch := omega) only [impl_Cam_follow.l0, if_neg]
    exact evo rfl

/-! land -/
def landB (l : List Int) (g : Int) (j : Nat) : Bool := (trk l g (j + 1)).f2 && !(trk l g j).f2
def blow (l : List Int) (g : Int) (j : Nat) : Int := wrap64 ((trk l g (j + 1)).f1 - wrap64 ((trk l g j).f1 - g))
def landL (l : List Int) (g : Int) : Nat → List S110
  | 0 => []
  | j + 1 => if landB l g j = true then landL l g j ++ [⟨(j : Int) + 1, blow l g j⟩] else landL l g j
theorem landL_s (l : List Int) (g : Int) (j : Nat) : landL l g (j + 1) = if landB l g j = true then landL l g j ++ [⟨(j : Int) + 1, blow l g j⟩] else landL l g j := rfl
theorem landL_len (l : List Int) (g : Int) (j : Nat) : (landL l g j).length ≤ j := by
  induction j with
  | zero => simp [landL]
  | succ j ih => rw [landL_s]; split
                 · simp; omega
                 · omega
theorem landL_f0 (l : List Int) (g : Int) (j : Nat) : ∀ x ∈ landL l g j, 1 ≤ x.f0 ∧ x.f0 ≤ j := by
  induction j with
  | zero => intro x hx; cases hx
  | succ j ih =>
    intro x hx
    rw [landL_s] at hx
    split at hx
    · rcases List.mem_append.1 hx with h | h
      · have := ih x h; omega
      · rw [List.mem_singleton.1 h]; dsimp only; omega
    · have := ih x hx; omega
theorem e_impl_landings (l : List Int) (g : Int) (n : Nat) (hn : n ≤ 100000) : Ev (fun k => impl_landings.f k (trkL l g n) g) (landL l g n) := by
  unfold impl_landings.f
  have e := trkL_len l g n
  have := ev_loop (fun k j => impl_landings.l0 k (trkL l g n) g (landL l g j) ((j : Int) + 1)) n (landL l g n) ?_ ?_
  · exact this
  · intro j hj ih
    refine evs ?_
    have e1 := trkL_rd l g n j (by omega)
    have e2 := trkL_rd l g n (j + 1) (by omega)
    rw [show ((j + 1 : Nat) : Int) = (j : Int) + 1 from rfl] at e2
    have e3 : (j : Int) + 1 - 1 = j := by omega
    have hl := landL_len l g j
    simp (disch := omega) only [impl_landings.l0, if_pos, w64, e, e3, e1, e2]
    rw [landL_s] at ih
    by_cases a : (trk l g (j + 1)).f2 = true
    · simp only [if_pos a]
      by_cases b : (trk l g j).f2 = true
      · rw [show landB l g j = false from by unfold landB; rw [a, b]; rfl] at ih
        simp only [if_pos b]; exact ih
      · rw [show landB l g j = true from by unfold landB; rw [a, Bool.eq_false_iff.mpr b]; rfl] at ih
        simp only [if_neg b]; exact ih
    · rw [show landB l g j = false from by unfold landB; rw [Bool.eq_false_iff.mpr a]; rfl] at ih
      simp only [if_neg a]; exact ih
  · refine evs ?_
    simp (disch := omega) only [impl_landings.l0, if_neg, e]
    exact evo rfl
theorem e_spec_l03Lands (l : List Int) (g : Int) (n j : Nat) (hn : n ≤ 100000) (hj : j < n) : spec_l03Lands.f (trkL l g n) ((j : Int) + 1) = some (landB l g j) := by
  have e := trkL_len l g n
  have e1 := trkL_rd l g n j (by omega)
  have e2 := trkL_rd l g n (j + 1) (by omega)
  rw [show ((j + 1 : Nat) : Int) = (j : Int) + 1 from rfl] at e2
  have e3 : (j : Int) + 1 - 1 = j := by omega
  unfold spec_l03Lands.f landB
  simp (disch := omega) only [if_pos, w64, e, e3, e1, e2]
  by_cases a : (trk l g (j + 1)).f2 = true
  · simp only [a, if_true, Bool.true_and]
  · simp only [Bool.eq_false_iff.mpr a, Bool.false_eq_true, if_false, Bool.false_and]
theorem e_spec_l03Blow (l : List Int) (g : Int) (n j : Nat) (hn : n ≤ 100000) (hj : j < n) (h : landB l g j = true) : spec_l03Blow.f (trkL l g n) ((j : Int) + 1) g = some (blow l g j) := by
  have e := trkL_len l g n
  have e1 := trkL_rd l g n j (by omega)
  have e2 := trkL_rd l g n (j + 1) (by omega)
  rw [show ((j + 1 : Nat) : Int) = (j : Int) + 1 from rfl] at e2
  have e3 : (j : Int) + 1 - 1 = j := by omega
  unfold landB at h
  have h1 := (Bool.and_eq_true _ _).mp h
  have h2 : (trk l g j).f2 = false := by simpa using h1.2
  unfold spec_l03Blow.f blow
  simp (disch := omega) only [if_pos, w64, e, e3, e1, e2]
  simp only [if_pos h1.1, h2, Bool.false_eq_true, if_false]

/-! asked -/
def FolOK (b g : Int) : Prop := (1 ≤ b ∧ b ≤ 20000) ∧ (1 ≤ g ∧ g ≤ 10000)
instance (b g : Int) : Decidable (FolOK b g) := by unfold FolOK; infer_instance
def askC (l : List Int) (b g : Int) : Int := if Valid l ∧ FolOK b g then 0 else 1
theorem askC_0 {l : List Int} {b g : Int} (h : askC l b g = 0) : Valid l ∧ FolOK b g := by
  unfold askC at h
  by_cases c : Valid l ∧ FolOK b g
  · exact c
  · rw [if_neg c] at h; omega
theorem askC_1 {l : List Int} {b g : Int} (h : ¬ askC l b g = 0) : askC l b g = 1 := by
  unfold askC at h ⊢
  by_cases c : Valid l ∧ FolOK b g
  · rw [if_pos c] at h; omega
  · rw [if_neg c]
theorem e_spec_l03Asked (l : List Int) (h16 : I16 l) (hl : l.length ≤ 1048576) (b g : Int) : Ev (fun k => spec_l03Asked.f k l b g) (askC l b g) := by
  unfold spec_l03Asked.f askC
  refine Ev.bind (e_spec_l01Ok l h16 hl) ?_
  by_cases hv : Valid l
  · simp only [hv, decide_true, if_true, true_and, spec_l03Ok.f, e_spec_l00In, Option.bind_some]
    by_cases h1 : 1 ≤ b ∧ b ≤ 20000
    · simp only [decide_eq_true h1, if_true, Option.bind_some]
      by_cases h2 : 1 ≤ g ∧ g ≤ 10000
      · simp only [decide_eq_true h2, if_true]
        exact evo (by rw [if_pos (show FolOK b g from ⟨h1, h2⟩)])
      · simp only [decide_eq_false h2, Bool.false_eq_true, if_false]
        exact evo (by rw [if_neg (show ¬ FolOK b g from fun h => h2 h.2)])
    · simp only [decide_eq_false h1, Bool.false_eq_true, if_false, Option.bind_some]
      exact evo (by rw [if_neg (show ¬ FolOK b g from fun h => h1 h.1)])
  · simp only [hv, decide_false, Bool.false_eq_true, if_false, false_and]; exact evo rfl
theorem e_impl_camCode (l : List Int) (h16 : I16 l) (hl : l.length ≤ 1048576) (b g : Int) : Ev (fun k => impl_camCode.f k l b g) (askC l b g) := by
  unfold impl_camCode.f askC
  refine Ev.bind (e_impl_ValidCam l h16 hl) ?_
  by_cases hv : Valid l
  · simp only [hv, decide_true, if_true, true_and, impl_ValidFollower.f, impl_isSpring.f, e_impl_inRange, Option.bind_some]
    by_cases h1 : 1 ≤ b ∧ b ≤ 20000
    · simp only [decide_eq_true h1, if_true, Option.bind_some]
      by_cases h2 : 1 ≤ g ∧ g ≤ 10000
      · simp only [decide_eq_true h2, if_true]
        exact evo (by rw [if_pos (show FolOK b g from ⟨h1, h2⟩)])
      · simp only [decide_eq_false h2, Bool.false_eq_true, if_false]
        exact evo (by rw [if_neg (show ¬ FolOK b g from fun h => h2 h.2)])
    · simp only [decide_eq_false h1, Bool.false_eq_true, if_false, Option.bind_some]
      exact evo (by rw [if_neg (show ¬ FolOK b g from fun h => h1 h.1)])
  · simp only [hv, decide_false, Bool.false_eq_true, if_false, false_and]; exact evo rfl

/-! many -/
def manyC (l : List Int) (b g n : Int) : Int := if askC l b g = 0 then (if 0 ≤ n ∧ n ≤ 4000 then 0 else 2) else 1
theorem manyC_0 {l : List Int} {b g n : Int} (h : manyC l b g n = 0) : Valid l ∧ FolOK b g ∧ 0 ≤ n ∧ n ≤ 4000 := by
  unfold manyC at h
  by_cases c : askC l b g = 0
  · rw [if_pos c] at h
    by_cases d : 0 ≤ n ∧ n ≤ 4000
    · exact ⟨(askC_0 c).1, (askC_0 c).2, d⟩
    · rw [if_neg d] at h; omega
  · rw [if_neg c] at h; omega
theorem e_spec_l03Many (l : List Int) (h16 : I16 l) (hl : l.length ≤ 1048576) (b g n : Int) : Ev (fun k => spec_l03Many.f k l b g n) (manyC l b g n) := by
  unfold spec_l03Many.f manyC
  refine Ev.bind (e_spec_l03Asked l h16 hl b g) ?_
  by_cases h : askC l b g = 0
  · simp only [if_pos h, e_spec_l00In, Option.bind_some]
    by_cases d : 0 ≤ n ∧ n ≤ 4000
    · simp only [decide_eq_true d, if_pos d, if_true]; exact evo h
    · simp only [decide_eq_false d, if_neg d, Bool.false_eq_true, if_false]; exact evo rfl
  · simp only [if_neg h]; exact evo (askC_1 h)
theorem e_impl_followCode (l : List Int) (h16 : I16 l) (hl : l.length ≤ 1048576) (b g n : Int) : Ev (fun k => impl_followCode.f k l b g n) (manyC l b g n) := by
  unfold impl_followCode.f manyC
  refine Ev.bind (e_impl_camCode l h16 hl b g) ?_
  by_cases h : askC l b g = 0
  · simp only [if_pos h, e_impl_inRange, Option.bind_some]
    by_cases d : 0 ≤ n ∧ n ≤ 4000
    · simp only [decide_eq_true d, if_pos d, if_true]; exact evo rfl
    · simp only [decide_eq_false d, if_neg d, Bool.false_eq_true, if_false]; exact evo rfl
  · simp only [if_neg h]; exact evo rfl

/-! HardestLanding -/
def hst (s : Int × Int) (x : S110) : Int × Int := if s.1 = 0 then (x.f0, x.f1) else if x.f1 > s.2 then (x.f0, x.f1) else s
def hst' (s : Int × Int) (x : S110) : Int × Int := if x.f1 > s.2 then (x.f0, x.f1) else s
def hard (l : List Int) (g : Int) (j : Nat) : Int × Int := (landL l g j).foldl hst (0, 0)
theorem hard_s (l : List Int) (g : Int) (j : Nat) : hard l g (j + 1) = if landB l g j = true then hst (hard l g j) ⟨(j : Int) + 1, blow l g j⟩ else hard l g j := by
  unfold hard
  rw [landL_s]
  split
  · rw [List.foldl_append]; rfl
  · rfl
theorem fold_same (xs : List S110) (s : Int × Int) (hs : s.1 ≠ 0) (hx : ∀ x ∈ xs, 1 ≤ x.f0) : xs.foldl hst s = xs.foldl hst' s ∧ (xs.foldl hst' s).1 ≠ 0 := by
  induction xs generalizing s with
  | nil => exact ⟨rfl, hs⟩
  | cons x xs ih =>
    have h1 := hx x List.mem_cons_self
    have e : hst s x = hst' s x := by unfold hst hst'; rw [if_neg hs]
    have hn : (hst' s x).1 ≠ 0 := by
      unfold hst'; split
      · dsimp only; omega
      · exact hs
    rw [List.foldl_cons, List.foldl_cons, e]
    exact ih _ hn (fun y hy => hx y (List.mem_cons_of_mem _ hy))
def hlR (l : List Int) (b g n : Int) : Int × Int × Int := if manyC l b g n = 0 then (if (hard l g n.toNat).1 = 0 then (0, 0, 6) else ((hard l g n.toNat).1, (hard l g n.toNat).2, 0)) else (0, 0, manyC l b g n)
theorem e_spec_HardestLanding (l : List Int) (h16 : I16 l) (hl : l.length ≤ 1048576) (b g n : Int) : Ev (fun k => spec_HardestLanding.f k l b g n) (hlR l b g n) := by
  unfold spec_HardestLanding.f hlR
  refine Ev.bind (e_spec_l03Many l h16 hl b g n) ?_
  by_cases h : manyC l b g n = 0
  · obtain ⟨hv, hf, h0, h1⟩ := manyC_0 h
    have hv1 := hv.1
    simp only [if_pos h]
    obtain ⟨m, rfl⟩ := Int.eq_ofNat_of_zero_le h0
    rw [Int.toNat_natCast]
    refine Ev.bind (e_spec_l03Follow l h16 (by omega) hl g m (by omega)) ?_
    have := ev_loop (fun k j => spec_HardestLanding.l0 k (m : Int) (trkL l g m) (hard l g j).1 (hard l g j).2 ((j : Int) + 1) b g) m (if (hard l g m).1 = 0 then ((0 : Int), (0 : Int), (6 : Int)) else ((hard l g m).1, (hard l g m).2, (0 : Int))) ?_ ?_
    · exact this
    · intro j hj ih
      refine evs ?_
      simp (disch := omega) only [spec_HardestLanding.l0, if_pos, w64, e_spec_l03Lands l g m j (by omega) hj, Option.bind_some]
      rw [hard_s] at ih
      by_cases c : landB l g j = true
      · simp only [if_pos c, e_spec_l03Blow l g m j (by omega) hj c, Option.bind_some] at ih ⊢
        unfold hst at ih
        by_cases d : (hard l g j).1 = 0
        · simp only [if_pos d] at ih ⊢; exact ih
        · simp only [if_neg d] at ih ⊢
          by_cases q : blow l g j > (hard l g j).2
          · simp only [if_pos q] at ih ⊢; exact ih
          · simp only [if_neg q] at ih ⊢; exact ih
      · simp only [if_neg c] at ih ⊢; exact ih
    · refine evs ?_
      simp (disch := omega) only [spec_HardestLanding.l0, if_neg]
      by_cases d : (hard l g m).1 = 0
      · simp only [if_pos d]; exact evo rfl
      · simp only [if_neg d]; exact evo rfl
  · simp only [if_neg h]; exact evo rfl
theorem e_impl_HardestLanding (l : List Int) (h16 : I16 l) (hl : l.length ≤ 1048576) (b g n : Int) : Ev (fun k => impl_HardestLanding.f k l b g n) (hlR l b g n) := by
  unfold impl_HardestLanding.f hlR
  refine Ev.bind (e_impl_followCode l h16 hl b g n) ?_
  by_cases h : manyC l b g n = 0
  · obtain ⟨hv, hf, h0, h1⟩ := manyC_0 h
    have hv1 := hv.1
    simp only [if_pos h]
    obtain ⟨m, rfl⟩ := Int.eq_ofNat_of_zero_le h0
    rw [Int.toNat_natCast]
    refine Ev.bind (e_impl_follow l h16 (by omega) hl g m (by omega)) (Ev.bind (e_impl_landings l g m (by omega)) ?_)
    have hlen := landL_len l g m
    have hf0 := landL_f0 l g m
    unfold hard
    revert hlen hf0
    generalize landL l g m = xs
    intro hlen hf0
    cases xs with
    | nil => simp only [List.length_nil, Int.natCast_zero, if_true, List.foldl_nil]; exact evo rfl
    | cons x xs =>
      have hx0 := (hf0 x List.mem_cons_self).1
      have e0 : rd_T110 (x :: xs) 0 = x := rfl
      have hne : ¬ (((x :: xs).length : Int) = 0) := by simp only [List.length_cons]; omega
      have hp : 0 < ((x :: xs).length : Int) := by simp only [List.length_cons]; omega
      refine ev_neg hne (ev_pos hp ?_)
      rw [e0]
      have ef : (x :: xs).foldl hst (0, 0) = (x :: xs).foldl hst' (x.f0, x.f1) ∧ ((x :: xs).foldl hst' (x.f0, x.f1)).1 ≠ 0 := by
        have e1 : hst (0, 0) x = (x.f0, x.f1) := by unfold hst; rw [if_pos rfl]
        have e2 : hst' (x.f0, x.f1) x = (x.f0, x.f1) := by unfold hst'; split <;> rfl
        rw [List.foldl_cons, List.foldl_cons, e1, e2]
        exact fold_same xs (x.f0, x.f1) (by dsimp only; omega) (fun y hy => (hf0 y (List.mem_cons_of_mem _ hy)).1)
      rw [ef.1]
      have := ev_loop (fun k j => impl_HardestLanding.l0 k (x :: xs) ((x :: xs).length : Int) (j : Int) (((x :: xs).take j).foldl hst' (x.f0, x.f1)).1 (((x :: xs).take j).foldl hst' (x.f0, x.f1)).2) (x :: xs).length (if ((x :: xs).foldl hst' (x.f0, x.f1)).1 = 0 then ((0 : Int), (0 : Int), (6 : Int)) else (((x :: xs).foldl hst' (x.f0, x.f1)).1, ((x :: xs).foldl hst' (x.f0, x.f1)).2, (0 : Int))) ?_ ?_
      · exact this
      · generalize hys : x :: xs = ys at *
        intro j hj ih
        refine evs ?_
        have er : rd_T110 ys (j : Int) = ys[j] := by unfold rd_T110; rw [Int.toNat_natCast, List.getD_eq_getElem?_getD, List.getElem?_eq_getElem hj]; rfl
        simp (disch := omega) only [impl_HardestLanding.l0, if_pos, w64, er]
        rw [List.take_succ_eq_append_getElem hj, List.foldl_append, List.foldl_cons, List.foldl_nil] at ih
        unfold hst' at ih
        by_cases c : ys[j].f1 > ((ys.take j).foldl hst' (x.f0, x.f1)).2
        · rw [show (fun (s : Int × Int) (x : S110) => if x.f1 > s.2 then (x.f0, x.f1) else s) = hst' from rfl] at ih
          simp only [if_pos c] at ih ⊢; exact ih
        · rw [show (fun (s : Int × Int) (x : S110) => if x.f1 > s.2 then (x.f0, x.f1) else s) = hst' from rfl] at ih
          simp only [if_neg c] at ih ⊢; exact ih
      · refine evs ?_
        simp (disch := omega) only [impl_HardestLanding.l0, if_neg, List.take_length, ef.2]
        exact evo rfl
  · simp only [if_neg h]; exact evo rfl

/-! laws_cam -/
theorem e_laws_toCam (l : List Int) (hl : l.length ≤ 1048576) : Ev (fun k => laws_toCam.f k l) l := by
  unfold laws_toCam.f
  simp (disch := omega) only [if_pos]
  have := ev_loop (fun k j => laws_toCam.l0 k l (l.take j ++ List.replicate (l.length - j) 0) (j : Int)) l.length l ?_ ?_
  · simpa using this
  · intro j hj ih
    refine evs ?_
    have e : ((l.take j ++ List.replicate (l.length - j) 0).length : Int) = l.length := by simp; omega
    simp (disch := omega) only [laws_toCam.l0, if_pos, e, w64]
    have e2 : (l.take j ++ List.replicate (l.length - j) 0).set ((j : Int)).toNat (rd l (j : Int)) = l.take (j + 1) ++ List.replicate (l.length - (j + 1)) 0 := by
      have e3 : l.length - j = (l.length - (j + 1)) + 1 := by omega
      rw [e3, List.replicate_succ, Int.toNat_natCast, set_app _ _ _ _ _ (by simp; omega), rd_nat, List.take_succ_eq_append_getElem hj]
      have e4 : l.getD j 0 = l[j] := by simp [List.getD_eq_getElem?_getD, hj]
      rw [e4, List.append_assoc, List.singleton_append]
    rw [e2]
    exact ih
  · refine evs ?_
    simp (disch := omega) only [laws_toCam.l0, if_neg]
    exact evo (by simp)
theorem e_laws_eqCam (l : List Int) (hl : l.length ≤ 1048576) : Ev (fun k => laws_eqCam.f k l l) true := by
  unfold laws_eqCam.f
  simp only [if_true]
  have := ev_loop (fun k j => laws_eqCam.l0 k l l (j : Int)) l.length true ?_ ?_
  · exact this
  · intro j hj ih
    refine evs ?_
    simp (disch := omega) only [laws_eqCam.l0, if_pos, if_true, w64]
    exact ih
  · refine evs ?_
    simp (disch := omega) only [laws_eqCam.l0, if_neg]
    exact evo rfl

/-! laws_toFollower -/
theorem e_laws_toFollower (a b : Int) : laws_toFollower.f a b = some (a, b) := rfl

set_option maxHeartbeats 4000000 in
theorem FnExactHardestLanding : ∀ (l0 : List Int) (a1_0 : Int) (a1_1 : Int) (a2 : Int), (l0.length ≤ maxLen ∧ ∀ x2 ∈ l0, (Lit.int .i16 x2).wf = true) → (Lit.int .i64 a1_0).wf = true → (Lit.int .i64 a1_1).wf = true → (Lit.int .i64 a2).wf = true → ∃ k, laws_FnExactHardestLanding.f k l0 a1_0 a1_1 a2 = some true := by
  rintro l0 a1_0 a1_1 a2 ⟨_, w0⟩ v1 v2 v3
  have h0 := I16.of_wf w0
  have i1 := wf_i64 v1
  have i2 := wf_i64 v2
  have i3 := wf_i64 v3
  refine ev_rounds ?_
  unfold laws_FnExactHardestLanding.f
  by_cases b0 : (l0.length : Int) > 1048576
  · simp only [if_pos b0]; exact evo rfl
  simp only [if_neg b0]
  have b0 : l0.length ≤ 1048576 := by omega
  have T0 := e_laws_toCam l0 b0
  have Q0 := e_laws_eqCam l0 b0
  have A := e_spec_HardestLanding l0 h0 b0 a1_0 a1_1 a2
  have B := e_impl_HardestLanding l0 h0 b0 a1_0 a1_1 a2
  revert A B
  generalize (hlR l0 a1_0 a1_1 a2) = RR
  obtain ⟨c0, c1, c2⟩ := RR
  intro A B
  repeat (first | exact evo rfl | (simp only [laws_toFollower.f, Option.bind_some]) | (with_reducible refine Ev.bind T0 ?_) | (with_reducible refine Ev.bind Q0 ?_) | (with_reducible refine Ev.bind A ?_) | (with_reducible refine Ev.bind B ?_) | ((with_reducible refine ev_pos ?s1 ?_); (case s1 => first | rfl | trivial | omega | (dsimp only; omega))) | ((with_reducible refine ev_neg ?s1 ?_); (case s1 => first | omega | (dsimp only; omega) | (simp; done))) | (refine evs ?_; simp only [laws_FnExactHardestLanding.j0]))


end Go.Proofs.Ytbobbihbikocbaa.Pure
