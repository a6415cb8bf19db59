/- The pure statement of the law FnExactLiftsOn: the program's function and the reference's tell the same of every input, by plain lemmas on numbers, lists and rounds; no further condition. -/
import Derived.Test.YtnjcmalmnofbmaaXFnExactLiftsOnx
import Derived.Test.YtnjcmalmnofbmaaXLib
namespace Go.Proofs.Ytnjcmalmnofbmaa.Pure
open Go.RowKit Go.Proofs.Ytnjcmalmnofbmaa.XFnExactLiftsOn Go.Proofs.Ytnjcmalmnofbmaa.XLib Go.Proofs.YtnjcmalmnofbmaaW.PrintWords Go.Proofs.YtnjcmalmnofbmaaW.PrintLast Go.Proofs.YtnjcmalmnofbmaaW.PrintMore
set_option maxRecDepth 100000
set_option linter.unusedVariables false
set_option linter.unusedSimpArgs false
/-! base_spec -/
theorem e_spec_l00In (a b c : Int) : spec_l00In.f a b c = some (decide (b ≤ a ∧ a ≤ c)) := by
  unfold spec_l00In.f
  by_cases h : b ≤ a <;> simp [h]
theorem e_spec_l01Steps (a : Int) : spec_l01Steps.f a = some (decide (8 ≤ a ∧ a ≤ 360)) := by
  unfold spec_l01Steps.f; rw [e_spec_l00In]; rfl
theorem e_spec_l01Lift (a : Int) : spec_l01Lift.f a = some (decide (0 ≤ a ∧ a ≤ 10000)) := by
  unfold spec_l01Lift.f; rw [e_spec_l00In]; rfl
theorem e_spec_l01Ok (l : List Int) (h16 : I16 l) (hl : l.length ≤ 1048576) : Ev (fun k => spec_l01Ok.f k l) (decide (Valid l)) := by
  unfold spec_l01Ok.f
  simp only [e_spec_l01Steps, Option.bind_some]
  by_cases h : 8 ≤ (l.length : Int) ∧ (l.length : Int) ≤ 360
  · simp only [h, and_self, decide_true, if_true]
    have := ev_find (fun k j => spec_l01Ok.l0 k l (j : Int)) (fun j => decide (0 ≤ rd l (j : Int) ∧ rd l (j : Int) ≤ 10000)) l.length true (fun _ => false) ?_ ?_ ?_
    · rw [ff_all] at this
      refine eve this ?_
      apply decide_eq_decide.mpr
      unfold Valid
      constructor
      · intro hh; exact ⟨by omega, by omega, fun j hj => by simpa using hh j hj⟩
      · intro hh j hj; simpa using hh.2.2 j hj
    · intro j r hj hp ih
      refine evs ?_
      have hb := h16.rdb (j : Int)
      simp (disch := omega) only [spec_l01Ok.l0, if_pos, e_spec_l01Lift, Option.bind_some, w64]
      first | exact ih | (rw [hp]; simp only [if_true]; exact ih)
    · intro j hj hp
      refine evs ?_
      have hb := h16.rdb (j : Int)
      simp (disch := omega) only [spec_l01Ok.l0, if_pos, e_spec_l01Lift, Option.bind_some, w64]
      first | exact evo rfl | (rw [hp]; exact evo rfl)
    · refine evs ?_
      simp (disch := omega) only [spec_l01Ok.l0, if_neg]
      exact evo rfl
  · rw [decide_eq_false h]
    simp only [Bool.false_eq_true, if_false]
    exact evo (decide_eq_false (fun hv => h ⟨by have := hv.1; omega, by have := hv.2.1; omega⟩)).symm

/-! base_impl -/
theorem e_impl_inRange (a b c : Int) : impl_inRange.f a b c = some (decide (b ≤ a ∧ a ≤ c)) := by
  unfold impl_inRange.f
  by_cases h : b ≤ a <;> simp [h]
theorem e_impl_isSteps (a : Int) : impl_isSteps.f a = some (decide (8 ≤ a ∧ a ≤ 360)) := by
  unfold impl_isSteps.f; rw [e_impl_inRange]; rfl
theorem e_impl_isLift (a : Int) : impl_isLift.f a = some (decide (0 ≤ a ∧ a ≤ 10000)) := by
  unfold impl_isLift.f; rw [e_impl_inRange]; rfl
theorem e_impl_Cam_steps (l : List Int) : impl_Cam_steps.f l = some (l.length : Int) := rfl
theorem e_impl_ValidCam (l : List Int) (h16 : I16 l) (hl : l.length ≤ 1048576) : Ev (fun k => impl_ValidCam.f k l) (decide (Valid l)) := by
  unfold impl_ValidCam.f
  simp only [e_impl_Cam_steps, e_impl_isSteps, Option.bind_some]
  by_cases h : 8 ≤ (l.length : Int) ∧ (l.length : Int) ≤ 360
  · simp only [h, and_self, decide_true, if_true]
    unfold slices_ContainsFunc_at_impl_ValidCam_c1.f slices_IndexFunc_at_impl_ValidCam_c1.f
    have := ev_find (fun k j => slices_IndexFunc_at_impl_ValidCam_c1.l0 k l (l.length : Int) (j : Int)) (fun j => decide (0 ≤ rd l (j : Int) ∧ rd l (j : Int) ≤ 10000)) l.length (-1) (fun j => (j : Int)) ?_ ?_ ?_
    · refine Ev.bind (Ev.bind this (evo rfl)) (evo ?_)
      rcases ff_eq (fun j => decide (0 ≤ rd l (j : Int) ∧ rd l (j : Int) ≤ 10000)) (-1 : Int) (fun j => (j : Int)) l.length with ⟨hh, e⟩ | ⟨m, hm, hf, _, e⟩
      · rw [e, decide_eq_true (show Valid l from ⟨by omega, by omega, fun j hj => by simpa using hh j hj⟩)]; rfl
      · rw [e, decide_eq_false (show ¬ Valid l from fun hv => by rw [decide_eq_true (hv.2.2 m hm)] at hf; cases hf)]
        simp
    · intro j r hj hp ih
      refine evs ?_
      have hb := h16.rdb (j : Int)
      simp (disch := omega) only [slices_IndexFunc_at_impl_ValidCam_c1.l0, impl_ValidCam_c1.f, if_pos, e_impl_isLift, Option.bind_some, w64]
      first | exact ih | (rw [hp]; simp only [Bool.not_true, Bool.false_eq_true, if_false]; exact ih)
    · intro j hj hp
      refine evs ?_
      have hb := h16.rdb (j : Int)
      simp (disch := omega) only [slices_IndexFunc_at_impl_ValidCam_c1.l0, impl_ValidCam_c1.f, if_pos, e_impl_isLift, Option.bind_some, w64]
      first | exact evo rfl | (rw [hp]; exact evo rfl)
    · refine evs ?_
      simp (disch := omega) only [slices_IndexFunc_at_impl_ValidCam_c1.l0, if_neg]
      exact evo rfl
  · rw [decide_eq_false h]
    simp only [Bool.false_eq_true, if_false]
    exact evo (decide_eq_false (fun hv => h ⟨by have := hv.1; omega, by have := hv.2.1; omega⟩)).symm

/-! find2 -/
theorem ev_find2 {ρ : Type} (L : Nat → Nat → Option ρ) (p : Nat → Bool) (n : Nat) (r1 : ρ) (r2 : Nat → ρ)
    (ht : ∀ j r, j < n → p j = true → Ev (fun k => L k (j + 1)) r → Ev (fun k => L k j) r) (hf : ∀ j, j < n → p j = false → Ev (fun k => L k j) (r2 j))
    (he : (∀ j, j < n → p j = true) → Ev (fun k => L k n) r1) : Ev (fun k => L k 0) (ff p r1 r2 n 0) := by
  suffices H : ∀ d j, j + d = n → (∀ i, i < j → p i = true) → Ev (fun k => L k j) (ff p r1 r2 d j) from H n 0 (by omega) (fun i hi => by omega)
  intro d
  induction d with
  | zero => intro j hj hp; obtain rfl : j = n := by omega
            exact he hp
  | succ d ih =>
    intro j hj hp
    unfold ff
    by_cases c : p j = true
    · rw [if_pos c]; exact ht j _ (by omega) c (ih (j + 1) (by omega) (fun i hi => by by_cases e : i = j; · rw [e]; exact c
                                                                                      · exact hp i (by omega)))
    · rw [if_neg c]; exact hf j (by omega) (by simpa using c)
theorem ff_map {ρ σ : Type} (f : ρ → σ) (p : Nat → Bool) (r1 : ρ) (r2 : Nat → ρ) (d j : Nat) : f (ff p r1 r2 d j) = ff p (f r1) (fun i => f (r2 i)) d j := by
  induction d generalizing j with
  | zero => rfl
  | succ d ih => unfold ff; split
                 · exact ih _
                 · rfl

/-! shaft -/
def ShOK (x : S144) : Prop := (1 ≤ x.f0 ∧ x.f0 ≤ 60) ∧ (1 ≤ x.f1 ∧ x.f1 ≤ 60) ∧ Valid x.f3 ∧ (0 ≤ x.f2 ∧ x.f2 ≤ (x.f3.length : Int) - 1)
instance (x : S144) : Decidable (ShOK x) := by unfold ShOK; infer_instance
/-- What is known of every shaft that comes in. -/
def ShW (x : S144) : Prop := (-32768 ≤ x.f0 ∧ x.f0 ≤ 32767) ∧ (-32768 ≤ x.f1 ∧ x.f1 ≤ 32767) ∧ (-32768 ≤ x.f2 ∧ x.f2 ≤ 32767) ∧ I16 x.f3 ∧ x.f3.length ≤ 1048576
def ShsB (l : List S144) : Bool := decide (1 ≤ (l.length : Int) ∧ (l.length : Int) ≤ 6) && ff (fun j : Nat => decide (ShOK (rd_T144 l (j : Int)))) true (fun _ => false) l.length 0
theorem rdSH (l : List S144) (j : Nat) (h : j < l.length) : rd_T144 l (j : Int) = l[j] := by
  unfold rd_T144; rw [Int.toNat_natCast, List.getD_eq_getElem?_getD, List.getElem?_eq_getElem h]; rfl
theorem ShsB_e {l : List S144} (h : ShsB l = true) : 1 ≤ l.length ∧ l.length ≤ 6 ∧ ∀ j, j < l.length → ShOK (rd_T144 l (j : Int)) := by
  unfold ShsB at h
  have h1 := (Bool.and_eq_true _ _).mp h
  have h2 := of_decide_eq_true h1.1
  have h3 := h1.2
  rw [ff_all] at h3
  exact ⟨by omega, by omega, fun j hj => of_decide_eq_true (of_decide_eq_true h3 j hj)⟩
theorem e_spec_l04Ok (l : List S144) (hw : ∀ x ∈ l, ShW x) (hl : l.length ≤ 1048576) : Ev (fun k => spec_l04Ok.f k l) (ShsB l) := by
  unfold spec_l04Ok.f ShsB
  simp only [e_spec_l00In, Option.bind_some]
  by_cases c : 1 ≤ (l.length : Int) ∧ (l.length : Int) ≤ 6
  · simp only [decide_eq_true c, if_true, Bool.true_and]
    have step : ∀ (j : Nat) (r : Bool), j < l.length → (Ev (fun k => if ShOK (rd_T144 l (j : Int)) then spec_l04Ok.l0 k l ((j : Int) + 1) else some false) r) → Ev (fun k => spec_l04Ok.l0 k l (j : Int)) r := by
      intro j r hj hk
      refine evs ?_
      have er := rdSH l j hj
      obtain ⟨a1, a2, a3, a4, a5⟩ := hw l[j] (List.getElem_mem hj)
      rw [← er] at a1 a2 a3 a4 a5
      clear er
      generalize hx : rd_T144 l (j : Int) = x at *
      simp (disch := omega) only [spec_l04Ok.l0, if_pos, w64, e_spec_l00In, Option.bind_some, hx]
      by_cases q0 : 1 ≤ x.f0 ∧ x.f0 ≤ 60
      · simp only [decide_eq_true q0, if_true]
        by_cases q1 : 1 ≤ x.f1 ∧ x.f1 ≤ 60
        · simp only [decide_eq_true q1, if_true]
          refine Ev.bind (e_spec_l01Ok x.f3 a4 a5) ?_
          by_cases q3 : Valid x.f3
          · simp only [q3, decide_true, if_true]
            by_cases q2 : 0 ≤ x.f2 ∧ x.f2 ≤ (x.f3.length : Int) - 1
            · simp only [decide_eq_true q2, if_true]
              simp only [if_pos (show ShOK x from ⟨q0, q1, q3, q2⟩)] at hk
              exact hk
            · simp only [decide_eq_false q2, Bool.false_eq_true, if_false]
              simp only [if_neg (show ¬ ShOK x from fun h => q2 h.2.2.2)] at hk
              exact hk
          · simp only [q3, decide_false, Bool.false_eq_true, if_false]
            simp only [if_neg (show ¬ ShOK x from fun h => q3 h.2.2.1)] at hk
            exact hk
        · simp only [decide_eq_false q1, Bool.false_eq_true, if_false]
          simp only [if_neg (show ¬ ShOK x from fun h => q1 h.2.1)] at hk
          exact hk
      · simp only [decide_eq_false q0, Bool.false_eq_true, if_false]
        simp only [if_neg (show ¬ ShOK x from fun h => q0 h.1)] at hk
        exact hk
    refine ev_find (fun k j => spec_l04Ok.l0 k l (j : Int)) (fun j : Nat => decide (ShOK (rd_T144 l (j : Int)))) l.length true (fun _ => false) ?_ ?_ ?_
    · intro j r hj hp ih
      refine step j r hj ?_
      simp only [if_pos (of_decide_eq_true hp)]; exact ih
    · intro j hj hp
      refine step j _ hj ?_
      simp only [if_neg (of_decide_eq_false hp)]; exact evo rfl
    · refine evs ?_
      simp (disch := omega) only [spec_l04Ok.l0, if_neg]
      exact evo rfl
  · simp only [decide_eq_false c, Bool.false_eq_true, if_false, Bool.false_and]; exact evo rfl
theorem e_impl_ValidShafts_c1 (x : S144) (hw : ShW x) : Ev (fun k => impl_ValidShafts_c1.f k x.f0 x.f1 x.f2 x.f3) (!decide (ShOK x)) := by
  obtain ⟨a1, a2, a3, a4, a5⟩ := hw
  unfold impl_ValidShafts_c1.f
  simp (disch := omega) only [w64, e_impl_inRange, Option.bind_some, impl_isPlace.f]
  by_cases q0 : 1 ≤ x.f0 ∧ x.f0 ≤ 60
  · simp only [decide_eq_true q0, if_true]
    by_cases q1 : 1 ≤ x.f1 ∧ x.f1 ≤ 60
    · simp only [decide_eq_true q1, if_true]
      refine Ev.bind (e_impl_ValidCam x.f3 a4 a5) ?_
      by_cases q3 : Valid x.f3
      · simp only [q3, decide_true, if_true]
        by_cases q2 : 0 ≤ x.f2 ∧ x.f2 ≤ (x.f3.length : Int) - 1
        · rw [decide_eq_true (show ShOK x from ⟨q0, q1, q3, q2⟩)]
          exact evo (by rw [decide_eq_true q2])
        · rw [decide_eq_false (show ¬ ShOK x from fun h => q2 h.2.2.2)]
          exact evo (by rw [decide_eq_false q2])
      · rw [decide_eq_false (show ¬ ShOK x from fun h => q3 h.2.2.1)]
        simp only [q3, decide_false, Bool.false_eq_true, if_false]; exact evo rfl
    · rw [decide_eq_false (show ¬ ShOK x from fun h => q1 h.2.1)]
      simp only [decide_eq_false q1, Bool.false_eq_true, if_false]; exact evo rfl
  · rw [decide_eq_false (show ¬ ShOK x from fun h => q0 h.1)]
    simp only [decide_eq_false q0, Bool.false_eq_true, if_false]; exact evo rfl
theorem e_impl_ValidShafts (l : List S144) (hw : ∀ x ∈ l, ShW x) (hl : l.length ≤ 1048576) : Ev (fun k => impl_ValidShafts.f k l) (ShsB l) := by
  unfold impl_ValidShafts.f ShsB
  simp only [e_impl_inRange, Option.bind_some]
  by_cases c : 1 ≤ (l.length : Int) ∧ (l.length : Int) ≤ 6
  · simp only [decide_eq_true c, if_true, Bool.true_and]
    unfold slices_ContainsFunc_at_impl_ValidShafts_c1.f slices_IndexFunc_at_impl_ValidShafts_c1.f
    have := ev_find (fun k j => slices_IndexFunc_at_impl_ValidShafts_c1.l0 k l (l.length : Int) (j : Int)) (fun j : Nat => decide (ShOK (rd_T144 l (j : Int)))) l.length (-1 : Int) (fun j => (j : Int)) ?_ ?_ ?_
    · refine Ev.bind (Ev.bind this (evo rfl)) (evo ?_)
      have e := ff_map (fun x : Int => !decide (x ≥ 0)) (fun j : Nat => decide (ShOK (rd_T144 l (j : Int)))) (-1 : Int) (fun j => (j : Int)) l.length 0
      rw [e]
      have e3 : (fun i : Nat => !decide ((i : Int) ≥ 0)) = fun _ : Nat => false := by
        funext i; rw [decide_eq_true (show (i : Int) ≥ 0 by omega)]; rfl
      rw [e3]; rfl
    · intro j r hj hp ih
      refine evs ?_
      have er := rdSH l j hj
      simp (disch := omega) only [slices_IndexFunc_at_impl_ValidShafts_c1.l0, if_pos, w64]
      refine Ev.bind (e_impl_ValidShafts_c1 (rd_T144 l (j : Int)) (by rw [er]; exact hw _ (List.getElem_mem hj))) ?_
      rw [hp]
      exact ih
    · intro j hj hp
      refine evs ?_
      have er := rdSH l j hj
      simp (disch := omega) only [slices_IndexFunc_at_impl_ValidShafts_c1.l0, if_pos, w64]
      refine Ev.bind (e_impl_ValidShafts_c1 (rd_T144 l (j : Int)) (by rw [er]; exact hw _ (List.getElem_mem hj))) ?_
      rw [hp]
      exact evo rfl
    · refine evs ?_
      simp (disch := omega) only [slices_IndexFunc_at_impl_ValidShafts_c1.l0, if_neg]
      exact evo rfl
  · simp only [decide_eq_false c, Bool.false_eq_true, if_false, Bool.false_and]; exact evo rfl

/-! shi -/
theorem rdSHi (l : List S144) (i : Int) (h0 : 0 ≤ i) (h1 : i < l.length) (p : S144 → Prop) (hp : ∀ x ∈ l, p x) : p (rd_T144 l i) := by
  obtain ⟨j, rfl⟩ := Int.eq_ofNat_of_zero_le h0
  rw [rdSH l j (by omega)]
  exact hp _ (List.getElem_mem _)
theorem ShsB_i {l : List S144} (h : ShsB l = true) (i : Int) (h0 : 0 ≤ i) (h1 : i < l.length) : ShOK (rd_T144 l i) := by
  obtain ⟨j, rfl⟩ := Int.eq_ofNat_of_zero_le h0
  exact (ShsB_e h).2.2 j (by omega)

/-! impl_first -/
theorem e_impl_firstCode (l : List Int) (hl : l.length ≤ 10000000) : Ev (fun k => impl_firstCode.f k l) (fnz l) := by
  unfold impl_firstCode.f
  suffices H : ∀ d j, j + d = l.length → Ev (fun k => impl_firstCode.l0 k l (l.length : Int) (j : Int)) (fnz (l.drop j)) from by
    have := H l.length 0 (by omega); simpa using this
  intro d
  induction d with
  | zero =>
    intro j hj
    refine evs ?_
    simp (disch := omega) only [impl_firstCode.l0, if_neg]
    exact evo (by rw [List.drop_of_length_le (by omega)]; rfl)
  | succ d ih =>
    intro j hj
    refine evs ?_
    have hj2 : j < l.length := by omega
    simp (disch := omega) only [impl_firstCode.l0, if_pos, w64]
    have e : l.drop j = rd l (j : Int) :: l.drop (j + 1) := by
      rw [List.drop_eq_getElem_cons hj2, rd_nat]; simp [List.getD_eq_getElem?_getD, hj2]
    rw [e]; unfold fnz
    by_cases c : rd l (j : Int) = 0
    · simp only [if_pos c]; exact ih (j + 1) (by omega)
    · simp only [if_neg c]; exact evo rfl
theorem e_impl_codeIf (b : Bool) (c : Int) : impl_codeIf.f b c = some (if b = true then c else 0) := by
  unfold impl_codeIf.f; split <;> rfl

/-! StepOn -/
def soV (x : S144) (t : Int) : Int := Int.tmod (wrap64 (x.f2 + wrap64 (Int.tdiv (wrap64 (t * x.f0)) x.f1))) (x.f3.length : Int)
def soR (l : List S144) (i t : Int) : Int × Int := if ShsB l = true then (if (0 ≤ i ∧ i ≤ (l.length : Int) - 1) ∧ (0 ≤ t ∧ t ≤ 1000000) then (soV (rd_T144 l i) t, 0) else (0, 2)) else (0, 1)

/-! lifts -/
def loV (x : S144) (t : Int) : Int := rd x.f3 (soV x t)
def loL (l : List S144) (t : Int) : List Int := (List.range l.length).map fun j : Nat => loV (rd_T144 l (j : Int)) t
theorem soV_b (x : S144) (w : ShW x) (ok : ShOK x) (t : Int) (ht : 0 ≤ t ∧ t ≤ 1000000) : 0 ≤ soV x t ∧ soV x t < (x.f3.length : Int) := by
  have n1 : 1 ≤ (x.f3.length : Int) := by have := ok.2.2.1.1; omega
  have a1 : 0 ≤ t * x.f0 := Int.mul_nonneg ht.1 (by have := ok.1.1; omega)
  have a2 : t * x.f0 ≤ 1000000 * 60 := by
    have h1 : t * x.f0 ≤ 1000000 * x.f0 := Int.mul_le_mul_of_nonneg_right ht.2 (by have := ok.1.1; omega)
    have := ok.1.2
    omega
  have b1 : 0 ≤ Int.tdiv (t * x.f0) x.f1 := Int.tdiv_nonneg a1 (by have := ok.2.1.1; omega)
  have b2 : Int.tdiv (t * x.f0) x.f1 ≤ t * x.f0 := Int.tdiv_le_self _ a1
  have c := ok.2.2.2
  have d := w.2.2.1
  unfold soV
  rw [w64 (x := t * x.f0) (by omega) (by omega), w64 (x := Int.tdiv (t * x.f0) x.f1) (by omega) (by omega), w64 (by omega) (by omega)]
  exact ⟨Int.tmod_nonneg _ (by omega), Int.tmod_lt_of_pos _ (by omega)⟩
theorem e_impl_now (x : S144) (w : ShW x) (ok : ShOK x) (t : Int) (ht : 0 ≤ t ∧ t ≤ 1000000) : impl_Shaft_now.f x.f0 x.f1 x.f2 x.f3 t = some (loV x t) := by
  have b := soV_b x w ok t ht
  have r := I16.rdb w.2.2.2.1 (soV x t)
  have b1 := ok.2.1
  have b2 := ok.2.2.1.1
  have w' := w
  obtain ⟨a1, a2, a3, a4, a5⟩ := w'
  have e1 : wrap64 x.f0 = x.f0 := w64 (by omega) (by omega)
  have e2 : wrap64 x.f1 = x.f1 := w64 (by omega) (by omega)
  have e3 : wrap64 x.f2 = x.f2 := w64 (by omega) (by omega)
  unfold impl_Shaft_now.f impl_Shaft_lift.f impl_Shaft_step.f
  unfold loV soV at *
  simp (disch := omega) only [e1, e2, e3, if_neg, e_impl_Cam_steps, Option.bind_some, if_pos]
  rw [w64 (by omega) (by omega)]
theorem e_spec_l04Lift (x : S144) (w : ShW x) (ok : ShOK x) (t : Int) (ht : 0 ≤ t ∧ t ≤ 1000000) : spec_l04Lift.f x.f0 x.f1 x.f2 x.f3 t = some (loV x t) := by
  have b := soV_b x w ok t ht
  have r := I16.rdb w.2.2.2.1 (soV x t)
  have b1 := ok.2.1
  have b2 := ok.2.2.1.1
  have w' := w
  obtain ⟨a1, a2, a3, a4, a5⟩ := w'
  have e1 : wrap64 x.f0 = x.f0 := w64 (by omega) (by omega)
  have e2 : wrap64 x.f1 = x.f1 := w64 (by omega) (by omega)
  have e3 : wrap64 x.f2 = x.f2 := w64 (by omega) (by omega)
  unfold spec_l04Lift.f spec_l04Step.f
  unfold loV soV at *
  simp (disch := omega) only [e1, e2, e3, if_neg, Option.bind_some, if_pos]
  rw [w64 (by omega) (by omega)]
theorem loL_snoc (f : Nat → Int) (j : Nat) : (List.range j).map f ++ [f j] = (List.range (j + 1)).map f := by rw [List.range_succ, List.map_append]; rfl
theorem e_impl_liftsOn (l : List S144) (hw : ∀ x ∈ l, ShW x) (v : ShsB l = true) (t : Int) (ht : 0 ≤ t ∧ t ≤ 1000000) : Ev (fun k => impl_liftsOn.f k l t) (loL l t) := by
  obtain ⟨n1, n2, _⟩ := ShsB_e v
  unfold impl_liftsOn.f
  have := ev_loop (fun k j => impl_liftsOn.l0 k t ((List.range j).map fun j : Nat => loV (rd_T144 l (j : Int)) t) l (l.length : Int) (j : Int)) l.length (loL l t) ?_ ?_
  · exact this
  · intro j hj ih
    refine evs ?_
    have ok := ShsB_i v (j : Int) (by omega) (by omega)
    have w := rdSHi l (j : Int) (by omega) (by omega) ShW hw
    have el : ((List.range j).map fun j : Nat => loV (rd_T144 l (j : Int)) t).length = j := by simp
    simp (disch := omega) only [impl_liftsOn.l0, if_pos, w64, e_impl_now _ w ok t ht, Option.bind_some, el]
    rw [loL_snoc (fun j : Nat => loV (rd_T144 l (j : Int)) t) j]
    exact ih
  · refine evs ?_
    simp (disch := omega) only [impl_liftsOn.l0, if_neg]
    exact evo rfl
theorem e_spec_lifts (l : List S144) (hw : ∀ x ∈ l, ShW x) (v : ShsB l = true) (t : Int) (ht : 0 ≤ t ∧ t ≤ 1000000) : Ev (fun k => spec_LiftsOn.l0 k l t [] 0) (loL l t, 0) := by
  obtain ⟨n1, n2, _⟩ := ShsB_e v
  have := ev_loop (fun k j => spec_LiftsOn.l0 k l t ((List.range j).map fun j : Nat => loV (rd_T144 l (j : Int)) t) (j : Int)) l.length (loL l t, 0) ?_ ?_
  · exact this
  · intro j hj ih
    refine evs ?_
    have ok := ShsB_i v (j : Int) (by omega) (by omega)
    have w := rdSHi l (j : Int) (by omega) (by omega) ShW hw
    have el : ((List.range j).map fun j : Nat => loV (rd_T144 l (j : Int)) t).length = j := by simp
    simp (disch := omega) only [spec_LiftsOn.l0, if_pos, w64, e_spec_l04Lift _ w ok t ht, Option.bind_some, el]
    rw [loL_snoc (fun j : Nat => loV (rd_T144 l (j : Int)) t) j]
    exact ih
  · refine evs ?_
    simp (disch := omega) only [spec_LiftsOn.l0, if_neg]
    exact evo rfl

/-! marked -/
def marked (m : Int) (n : Nat) : List Int := (List.range n).map fun j : Nat => IntKind.i16.wrap (m + j)
theorem marked_len (m : Int) (n : Nat) : (marked m n).length = n := by simp [marked]

/-! laws_markonlyB -/
theorem e_laws_markCamB (l : List Int) (hl : l.length ≤ 1048576) (m : Int) (h0 : 0 ≤ m) (h1 : m ≤ 4611686018427387904) : Ev (fun k => laws_markCam.f k l m) (m + l.length, marked m l.length) := by
  unfold laws_markCam.f
  have := ev_loop (fun k j => laws_markCam.l0 k (marked m j ++ l.drop j) (m + j) (j : Int)) l.length (m + l.length, marked m l.length) ?_ ?_
  · simpa [marked] using this
  · intro j hj ih
    refine evs ?_
    have e : ((marked m j ++ l.drop j).length : Int) = l.length := by simp [marked_len]; omega
    have e2 : (marked m j ++ l.drop j).set ((j : Int)).toNat (IntKind.i16.wrap (m + j)) = marked m (j + 1) ++ l.drop (j + 1) := by
      rw [Int.toNat_natCast, List.drop_eq_getElem_cons hj, set_app _ _ _ _ _ (marked_len _ _)]
      unfold marked; rw [map_snoc]; simp
    simp (disch := omega) only [laws_markCam.l0, if_pos, e, w64]
    rw [e2, show m + (j : Int) + 1 = m + ((j + 1 : Nat) : Int) by omega]
    exact ih
  · refine evs ?_
    have e : ((marked m l.length ++ l.drop l.length).length : Int) = l.length := by simp [marked_len]
    simp (disch := omega) only [laws_markCam.l0, if_neg, e]
    exact evo (by simp)

/-! laws_cam -/
theorem e_laws_toCam (l : List Int) (hl : l.length ≤ 1048576) : Ev (fun k => laws_toCam.f k l) l := by
  unfold laws_toCam.f
  simp (disch := omega) only [if_pos]
  have := ev_loop (fun k j => laws_toCam.l0 k l (l.take j ++ List.replicate (l.length - j) 0) (j : Int)) l.length l ?_ ?_
  · simpa using this
  · intro j hj ih
    refine evs ?_
    have e : ((l.take j ++ List.replicate (l.length - j) 0).length : Int) = l.length := by simp; omega
    simp (disch := omega) only [laws_toCam.l0, if_pos, e, w64]
    have e2 : (l.take j ++ List.replicate (l.length - j) 0).set ((j : Int)).toNat (rd l (j : Int)) = l.take (j + 1) ++ List.replicate (l.length - (j + 1)) 0 := by
      have e3 : l.length - j = (l.length - (j + 1)) + 1 := by omega
      rw [e3, List.replicate_succ, Int.toNat_natCast, set_app _ _ _ _ _ (by simp; omega), rd_nat, List.take_succ_eq_append_getElem hj]
      have e4 : l.getD j 0 = l[j] := by simp [List.getD_eq_getElem?_getD, hj]
      rw [e4, List.append_assoc, List.singleton_append]
    rw [e2]
    exact ih
  · refine evs ?_
    simp (disch := omega) only [laws_toCam.l0, if_neg]
    exact evo (by simp)
theorem e_laws_eqCam (l : List Int) (hl : l.length ≤ 1048576) : Ev (fun k => laws_eqCam.f k l l) true := by
  unfold laws_eqCam.f
  simp only [if_true]
  have := ev_loop (fun k j => laws_eqCam.l0 k l l (j : Int)) l.length true ?_ ?_
  · exact this
  · intro j hj ih
    refine evs ?_
    simp (disch := omega) only [laws_eqCam.l0, if_pos, if_true, w64]
    exact ih
  · refine evs ?_
    simp (disch := omega) only [laws_eqCam.l0, if_neg]
    exact evo rfl

/-! laws_shaft -/
def shConv (x : S161) : S144 := ⟨x.f0, x.f1, x.f2, x.f3⟩
theorem rdSHIN (l : List S161) (j : Nat) (h : j < l.length) : rd_T161 l (j : Int) = l[j] := by
  unfold rd_T161; rw [Int.toNat_natCast, List.getD_eq_getElem?_getD, List.getElem?_eq_getElem h]; rfl
theorem e_laws_szShaftS (l : List S161) (hl : l.length ≤ maxLen) (hx : ∀ x ∈ l, x.f3.length ≤ maxLen) : ∃ r, Ev (fun k => laws_szShaftS.f k l 1048576) r ∧ (0 ≤ r → l.length ≤ 1048576 ∧ ∀ x ∈ l, x.f3.length ≤ 1048576) := by
  have hm : maxLen ≤ 9223372036854775807 := by decide
  unfold laws_szShaftS.f
  rw [w64 (by omega) (by omega)]
  by_cases c : 1048576 - (l.length : Int) < 0
  · exact ⟨-1, ev_pos c (evo rfl), fun h => by omega⟩
  · have key : ∀ d j : Nat, j + d = l.length → ∀ m : Int, 0 ≤ m → m ≤ 1048576 → ∃ r, Ev (fun k => laws_szShaftS.l0 k l m (j : Int)) r ∧ (0 ≤ r → ∀ i, j ≤ i → (h : i < l.length) → l[i].f3.length ≤ 1048576) := by
      intro d
      induction d with
      | zero =>
        intro j hj m h0 h1
        refine ⟨m, evs ?_, fun _ i hi hi2 => by omega⟩
        simp (disch := omega) only [laws_szShaftS.l0, if_neg]
        exact evo rfl
      | succ d ih =>
        intro j hj m h0 h1
        have hj2 : j < l.length := by omega
        have er := rdSHIN l j hj2
        have hlen := hx l[j] (List.getElem_mem hj2)
        have es : laws_szShaft.f (rd_T161 l (j : Int)).f0 (rd_T161 l (j : Int)).f1 (rd_T161 l (j : Int)).f2 (rd_T161 l (j : Int)).f3 m = some (if m - (l[j].f3.length : Int) < 0 then -1 else m - (l[j].f3.length : Int)) := by
          rw [er]
          unfold laws_szShaft.f laws_szCam.f
          rw [w64 (by omega) (by omega)]
          by_cases q : m - (l[j].f3.length : Int) < 0
          · simp only [if_pos q, Option.bind_some]; rfl
          · simp only [if_neg q, Option.bind_some]
        by_cases q : m - (l[j].f3.length : Int) < 0
        · refine ⟨-1, evs ?_, fun h => by omega⟩
          simp (disch := omega) only [laws_szShaftS.l0, if_pos]
          rw [es]
          simp (disch := omega) only [if_pos q, Option.bind_some, if_pos]
          exact evo rfl
        · obtain ⟨r, hr, hb⟩ := ih (j + 1) (by omega) (m - (l[j].f3.length : Int)) (by omega) (by omega)
          refine ⟨r, evs ?_, fun h i hi hi2 => ?_⟩
          · simp (disch := omega) only [laws_szShaftS.l0, if_pos, w64]
            rw [es]
            simp (disch := omega) only [if_neg q, Option.bind_some]
            exact hr
          · by_cases e : i = j
            · subst e; omega
            · exact hb h i (by omega) hi2
    obtain ⟨r, hr, hb⟩ := key l.length 0 (by omega) (1048576 - (l.length : Int)) (by omega) (by omega)
    refine ⟨r, ev_neg c hr, fun h => ⟨by omega, fun x hx' => ?_⟩⟩
    obtain ⟨i, hi, rfl⟩ := List.getElem_of_mem hx'
    exact hb h i (by omega) hi
theorem e_laws_toShaftS (l : List S161) (hl : l.length ≤ 1048576) (hx : ∀ x ∈ l, x.f3.length ≤ 1048576) : Ev (fun k => laws_toShaftS.f k l) (l.map shConv) := by
  unfold laws_toShaftS.f
  simp (disch := omega) only [if_pos]
  have := ev_loop (fun k j => laws_toShaftS.l0 k l ((l.map shConv).take j ++ List.replicate (l.length - j) z144) (j : Int)) l.length (l.map shConv) ?_ ?_
  · simpa using this
  · intro j hj ih
    refine evs ?_
    have er := rdSHIN l j hj
    have e : (((l.map shConv).take j ++ List.replicate (l.length - j) z144).length : Int) = l.length := by simp; omega
    have e2 : ((l.map shConv).take j ++ List.replicate (l.length - j) z144).set ((j : Int)).toNat (shConv l[j]) = (l.map shConv).take (j + 1) ++ List.replicate (l.length - (j + 1)) z144 := by
      have e3 : l.length - j = (l.length - (j + 1)) + 1 := by omega
      rw [e3, List.replicate_succ, Int.toNat_natCast, set_app _ _ _ _ _ (by simp; omega), List.take_succ_eq_append_getElem (by simpa using hj), List.append_assoc, List.singleton_append, List.getElem_map]
    simp (disch := omega) only [laws_toShaftS.l0, if_pos, er, w64]
    refine Ev.bind (a := (l[j].f0, l[j].f1, l[j].f2, l[j].f3)) ?_ ?_
    · unfold laws_toShaft.f
      exact Ev.bind (e_laws_toCam l[j].f3 (hx _ (List.getElem_mem hj))) (evo rfl)
    · simp (disch := omega) only [if_pos]
      rw [show (⟨l[j].f0, l[j].f1, l[j].f2, l[j].f3⟩ : S144) = shConv l[j] from rfl, e2]
      exact ih
  · refine evs ?_
    simp (disch := omega) only [laws_toShaftS.l0, if_neg]
    exact evo (by simp [List.take_of_length_le])
theorem e_laws_eqShaftS (l : List S144) (hl : l.length ≤ 1048576) (hx : ∀ x ∈ l, x.f3.length ≤ 1048576) : Ev (fun k => laws_eqShaftS.f k l l) true := by
  unfold laws_eqShaftS.f
  simp only [if_true]
  have := ev_loop (fun k j => laws_eqShaftS.l0 k l l (j : Int)) l.length true ?_ ?_
  · exact this
  · intro j hj ih
    refine evs ?_
    have er := rdSH l j hj
    simp (disch := omega) only [laws_eqShaftS.l0, if_pos, w64, er]
    refine Ev.bind (a := true) ?_ ?_
    · unfold laws_eqShaft.f
      simp only [if_true]
      exact Ev.bind (e_laws_eqCam l[j].f3 (hx _ (List.getElem_mem hj))) (evo rfl)
    · simp only [if_true]; exact ih
  · refine evs ?_
    simp (disch := omega) only [laws_eqShaftS.l0, if_neg]
    exact evo rfl
theorem shConv_w (l : List S161) (h : ∀ x ∈ l, (-32768 ≤ x.f0 ∧ x.f0 ≤ 32767) ∧ (-32768 ≤ x.f1 ∧ x.f1 ≤ 32767) ∧ (-32768 ≤ x.f2 ∧ x.f2 ≤ 32767) ∧ I16 x.f3) (hx : ∀ x ∈ l, x.f3.length ≤ 1048576) : ∀ y ∈ l.map shConv, ShW y := by
  intro y hy
  obtain ⟨x, hx', rfl⟩ := List.mem_map.1 hy
  obtain ⟨a, b, c, d⟩ := h x hx'
  exact ⟨a, b, c, d, hx x hx'⟩
theorem wf_i16 {x : Int} (h : (Lit.int .i16 x).wf = true) : -32768 ≤ x ∧ x ≤ 32767 := by simpa [Lit.wf, IntKind.min, IntKind.max, IntKind.bits, IntKind.signed] using h

/-! laws_markshaft -/
theorem e_laws_markShaftS (l : List S144) : (∀ x ∈ l, x.f3.length ≤ 1048576) → ∀ a : Int, 0 ≤ a → a + (l.length : Int) * 1048579 ≤ 4611686018427387904 → ∃ r, 0 ≤ r ∧ Ev (fun k => laws_markShaftS.f k l a) r := by
  unfold laws_markShaftS.f
  induction l with
  | nil => exact fun _ a h0 _ => ⟨a, h0, evo rfl⟩
  | cons x xs ih =>
    intro hx a h0 h1
    have hlen : x.f3.length ≤ 1048576 := hx x (List.mem_cons_self ..)
    rw [List.length_cons] at h1
    obtain ⟨r, hr, he⟩ := ih (fun y hy => hx y (List.mem_cons_of_mem _ hy)) (a + 1 + 1 + 1 + x.f3.length) (by omega) (by omega)
    refine ⟨r, hr, ?_⟩
    simp (disch := omega) only [laws_markShaftS.m, w64]
    exact Ev.bind (e_laws_markCamB x.f3 hlen (a + 1 + 1 + 1) (by omega) (by omega)) he

/-! laws_to64 -/

/-! laws_eq64 -/
theorem e_laws_eqInt64S (l : List Int) (hl : l.length ≤ 1048576) : Ev (fun k => laws_eqInt64S.f k l l) true := by
  unfold laws_eqInt64S.f
  simp only [if_true]
  have := ev_loop (fun k j => laws_eqInt64S.l0 k l l (j : Int)) l.length true ?_ ?_
  · exact this
  · intro j hj ih
    refine evs ?_
    simp (disch := omega) only [laws_eqInt64S.l0, if_pos, if_true, w64]
    exact ih
  · refine evs ?_
    simp (disch := omega) only [laws_eqInt64S.l0, if_neg]
    exact evo rfl

/-! laws_i64 -/

/-! marked64 -/
def markd64 (m : Int) (n : Nat) : List Int := (List.range n).map fun j : Nat => (m + j)
theorem markd64_len (m : Int) (n : Nat) : (markd64 m n).length = n := by simp [markd64]

/-! laws_markonly64 -/
theorem e_laws_markInt64S (l : List Int) (hl : l.length ≤ 1048576) (m : Int) (h0 : 0 ≤ m) (h1 : m ≤ 1000000000) : Ev (fun k => laws_markInt64S.f k l m) (m + l.length, markd64 m l.length) := by
  unfold laws_markInt64S.f
  have := ev_loop (fun k j => laws_markInt64S.l0 k (markd64 m j ++ l.drop j) (m + j) (j : Int)) l.length (m + l.length, markd64 m l.length) ?_ ?_
  · simpa [markd64] using this
  · intro j hj ih
    refine evs ?_
    have e : ((markd64 m j ++ l.drop j).length : Int) = l.length := by simp [markd64_len]; omega
    have e2 : (markd64 m j ++ l.drop j).set ((j : Int)).toNat ((m + j)) = markd64 m (j + 1) ++ l.drop (j + 1) := by
      rw [Int.toNat_natCast, List.drop_eq_getElem_cons hj, set_app _ _ _ _ _ (markd64_len _ _)]
      unfold markd64; rw [map_snoc]; simp
    simp (disch := omega) only [laws_markInt64S.l0, if_pos, e, w64]
    rw [e2, show m + (j : Int) + 1 = m + ((j + 1 : Nat) : Int) by omega]
    exact ih
  · refine evs ?_
    have e : ((markd64 m l.length ++ l.drop l.length).length : Int) = l.length := by simp [markd64_len]
    simp (disch := omega) only [laws_markInt64S.l0, if_neg, e]
    exact evo (by simp)

/-! laws_held64 -/
theorem e_laws_heldInt64S (n : Nat) (hl : n ≤ 1048576) (m : Int) (h0 : 0 ≤ m) (h1 : m ≤ 1000000000) : Ev (fun k => laws_heldInt64S.f k (markd64 m n) m) (m + n) := by
  unfold laws_heldInt64S.f
  have e : ((markd64 m n).length : Int) = n := by rw [markd64_len]
  have := ev_loop (fun k j => laws_heldInt64S.l0 k (markd64 m n) (m + j) (j : Int)) n (m + n) ?_ ?_
  · simpa using this
  · intro j hj ih
    refine evs ?_
    have e2 : rd (markd64 m n) (j : Int) = (m + j) := by unfold markd64; rw [rd_map _ _ _ (by omega) (by omega)]; simp
    simp (disch := omega) only [laws_heldInt64S.l0, if_pos, e, e2, if_true, w64]
    rw [show m + (j : Int) + 1 = m + ((j + 1 : Nat) : Int) by omega]
    exact ih
  · refine evs ?_
    simp (disch := omega) only [laws_heldInt64S.l0, if_neg, e]
    exact evo rfl

def liR (l : List S144) (t : Int) : List Int × Int := if ShsB l = true then (if 0 ≤ t ∧ t ≤ 1000000 then (loL l t, 0) else ([], 2)) else ([], 1)
theorem liR_len (l : List S144) (hl : l.length ≤ 1048576) (t : Int) : (liR l t).1.length ≤ 1048576 := by
  unfold liR
  split
  · split
    · simp only [loL, List.length_map, List.length_range]; exact hl
    · exact Nat.zero_le _
  · exact Nat.zero_le _
theorem e_spec_LiftsOn (l : List S144) (hw : ∀ x ∈ l, ShW x) (hl : l.length ≤ 1048576) (t : Int) : Ev (fun k => spec_LiftsOn.f k l t) (liR l t) := by
  unfold spec_LiftsOn.f liR
  refine Ev.bind (e_spec_l04Ok l hw hl) ?_
  by_cases v : ShsB l = true
  · simp only [if_pos v, spec_l04Tick.f, e_spec_l00In, Option.bind_some]
    by_cases q : 0 ≤ t ∧ t ≤ 1000000
    · simp only [decide_eq_true q, if_true, if_pos q]
      exact e_spec_lifts l hw v t q
    · simp only [decide_eq_false q, Bool.false_eq_true, if_false, if_neg q]; exact evo rfl
  · simp only [if_neg v]; exact evo rfl
theorem e_impl_LiftsOn (l : List S144) (hw : ∀ x ∈ l, ShW x) (hl : l.length ≤ 1048576) (t : Int) : Ev (fun k => impl_LiftsOn.f k l t) (liR l t) := by
  unfold impl_LiftsOn.f liR
  refine Ev.bind (e_impl_ValidShafts l hw hl) ?_
  simp only [e_impl_codeIf, e_impl_inRange, Option.bind_some]
  refine Ev.bind (e_impl_firstCode _ (by simp)) ?_
  by_cases v : ShsB l = true
  · by_cases q : 0 ≤ t ∧ t ≤ 1000000
    · rw [if_pos v, if_pos q, v, decide_eq_true q]
      simp only [Bool.not_true, Bool.false_eq_true, if_false, fnz, if_true]
      exact Ev.bind (e_impl_liftsOn l hw v t q) (evo rfl)
    · rw [if_pos v, if_neg q, v, decide_eq_false q]; exact evo rfl
  · rw [if_neg v, Bool.eq_false_iff.mpr v]; exact evo rfl
set_option maxHeartbeats 4000000 in
theorem FnExactLiftsOn : ∀ (l0 : List (S161)) (a1 : Int), (l0.length ≤ maxLen ∧ ∀ x2 ∈ l0, ((Lit.int .i16 x2.f0).wf = true ∧ (Lit.int .i16 x2.f1).wf = true ∧ (Lit.int .i16 x2.f2).wf = true ∧ (x2.f3.length ≤ maxLen ∧ ∀ x6 ∈ x2.f3, (Lit.int .i16 x6).wf = true))) → (Lit.int .i64 a1).wf = true → ∃ k, laws_FnExactLiftsOn.f k l0 a1 = some true := by
  rintro l a1 ⟨hm, w⟩ v0
  have w16 : ∀ x ∈ l, (-32768 ≤ x.f0 ∧ x.f0 ≤ 32767) ∧ (-32768 ≤ x.f1 ∧ x.f1 ≤ 32767) ∧ (-32768 ≤ x.f2 ∧ x.f2 ≤ 32767) ∧ I16 x.f3 := fun x hx => ⟨wf_i16 (w x hx).1, wf_i16 (w x hx).2.1, wf_i16 (w x hx).2.2.1, I16.of_wf (w x hx).2.2.2.2⟩
  obtain ⟨r, hr, hb⟩ := e_laws_szShaftS l hm (fun x hx => (w x hx).2.2.2.1)
  refine ev_rounds ?_
  unfold laws_FnExactLiftsOn.f
  refine Ev.bind hr ?_
  by_cases c : r < 0
  · exact ev_pos c (evo rfl)
  refine ev_neg c ?_
  obtain ⟨hl, hx⟩ := hb (by omega)
  have T := e_laws_toShaftS l hl hx
  have hW := shConv_w l w16 hx
  have hl2 : (l.map shConv).length ≤ 1048576 := by rw [List.length_map]; exact hl
  have i0 := wf_i64 v0
  have A := e_spec_LiftsOn (l.map shConv) hW hl2 a1
  have B := e_impl_LiftsOn (l.map shConv) hW hl2 a1
  have Q := e_laws_eqShaftS (l.map shConv) hl2 (fun x hx => (hW x hx).2.2.2.2)
  have hr : (liR (l.map shConv) a1).1.length ≤ 1048576 := liR_len (l.map shConv) hl2 a1
  obtain ⟨mm, hm0, MS⟩ := e_laws_markShaftS (l.map shConv) (fun x hx => (hW x hx).2.2.2.2) 1 (by decide) (by omega)
  revert A B hr
  generalize (liR (l.map shConv) a1) = RR
  obtain ⟨r, c1⟩ := RR
  intro A B hr
  have QR := e_laws_eqInt64S r hr
  have MR := e_laws_markInt64S r hr
  have HR := e_laws_heldInt64S r.length hr
  repeat (first | exact evo rfl | (with_reducible refine Ev.bind QR ?_) | (with_reducible refine Ev.bind MS ?_) | ((with_reducible refine Ev.bind (MR 1 ?s1 ?s2) ?_); (case s1 => omega); (case s2 => omega)) | ((with_reducible refine Ev.bind (HR 1 ?s1 ?s2) ?_); (case s1 => omega); (case s2 => omega)) | (with_reducible refine Ev.bind T ?_) | (with_reducible refine Ev.bind Q ?_) | (with_reducible refine Ev.bind A ?_) | (with_reducible refine Ev.bind B ?_) | ((with_reducible refine ev_pos ?s1 ?_); (case s1 => first | rfl | trivial | omega | (dsimp only; omega))) | ((with_reducible refine ev_neg ?s1 ?_); (case s1 => first | omega | (dsimp only; omega) | (simp; done))) | (refine evs ?_; simp only [laws_FnExactLiftsOn.j0, laws_FnExactLiftsOn.j1, laws_FnExactLiftsOn.j2]))


end Go.Proofs.Ytnjcmalmnofbmaa.Pure
