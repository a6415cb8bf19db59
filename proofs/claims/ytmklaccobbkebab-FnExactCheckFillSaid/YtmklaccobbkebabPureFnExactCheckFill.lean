/- The pure statement of the law FnExactCheckFill: the program's function and the reference's tell the same of every input, by plain lemmas on numbers, lists and rounds; no further condition. -/
import Derived.Test.YtmklaccobbkebabXFnExactCheckFillx4
import Derived.Test.YtmklaccobbkebabXLib
namespace Go.Proofs.Ytmklaccobbkebab.Pure
open Go.RowKit Go.Proofs.Ytmklaccobbkebab.XFnExactCheckFill Go.Proofs.Ytmklaccobbkebab.XLib Go.Proofs.YtmklaccobbkebabW.PrintWords Go.Proofs.YtmklaccobbkebabW.PrintLast Go.Proofs.YtmklaccobbkebabW.PrintMore
set_option maxRecDepth 100000
set_option linter.unusedVariables false
set_option linter.unusedSimpArgs false
/-! base_spec -/
theorem e_spec_l00In (a b c : Int) : spec_l00In.f a b c = some (decide (b ≤ a ∧ a ≤ c)) := by
  unfold spec_l00In.f
  by_cases h : b ≤ a <;> simp [h]
theorem e_spec_l01Steps (a : Int) : spec_l01Steps.f a = some (decide (8 ≤ a ∧ a ≤ 360)) := by
  unfold spec_l01Steps.f; rw [e_spec_l00In]; rfl
theorem e_spec_l01Lift (a : Int) : spec_l01Lift.f a = some (decide (0 ≤ a ∧ a ≤ 10000)) := by
  unfold spec_l01Lift.f; rw [e_spec_l00In]; rfl
theorem e_spec_l01Ok (l : List Int) (h16 : I16 l) (hl : l.length ≤ 1048576) : Ev (fun k => spec_l01Ok.f k l) (decide (Valid l)) := by
  unfold spec_l01Ok.f
  simp only [e_spec_l01Steps, Option.bind_some]
  by_cases h : 8 ≤ (l.length : Int) ∧ (l.length : Int) ≤ 360
  · simp only [h, and_self, decide_true, if_true]
    have := ev_find (fun k j => spec_l01Ok.l0 k l (j : Int)) (fun j => decide (0 ≤ rd l (j : Int) ∧ rd l (j : Int) ≤ 10000)) l.length true (fun _ => false) ?_ ?_ ?_
    · rw [ff_all] at this
      refine eve this ?_
      apply decide_eq_decide.mpr
      unfold Valid
      constructor
      · intro hh; exact ⟨by omega, by omega, fun j hj => by simpa using hh j hj⟩
      · intro hh j hj; simpa using hh.2.2 j hj
    · intro j r hj hp ih
      refine evs ?_
      have hb := h16.rdb (j : Int)
      simp (disch := omega) only [spec_l01Ok.l0, if_pos, e_spec_l01Lift, Option.bind_some, w64]
      first | exact ih | (rw [hp]; simp only [if_true]; exact ih)
    · intro j hj hp
      refine evs ?_
      have hb := h16.rdb (j : Int)
      simp (disch := omega) only [spec_l01Ok.l0, if_pos, e_spec_l01Lift, Option.bind_some, w64]
      first | exact evo rfl | (rw [hp]; exact evo rfl)
    · refine evs ?_
      simp (disch := omega) only [spec_l01Ok.l0, if_neg]
      exact evo rfl
  · rw [decide_eq_false h]
    simp only [Bool.false_eq_true, if_false]
    exact evo (decide_eq_false (fun hv => h ⟨by have := hv.1; omega, by have := hv.2.1; omega⟩)).symm

/-! base_impl -/
theorem e_impl_inRange (a b c : Int) : impl_inRange.f a b c = some (decide (b ≤ a ∧ a ≤ c)) := by
  unfold impl_inRange.f
  by_cases h : b ≤ a <;> simp [h]
theorem e_impl_isSteps (a : Int) : impl_isSteps.f a = some (decide (8 ≤ a ∧ a ≤ 360)) := by
  unfold impl_isSteps.f; rw [e_impl_inRange]; rfl
theorem e_impl_isLift (a : Int) : impl_isLift.f a = some (decide (0 ≤ a ∧ a ≤ 10000)) := by
  unfold impl_isLift.f; rw [e_impl_inRange]; rfl
theorem e_impl_Cam_steps (l : List Int) : impl_Cam_steps.f l = some (l.length : Int) := rfl
theorem e_impl_ValidCam (l : List Int) (h16 : I16 l) (hl : l.length ≤ 1048576) : Ev (fun k => impl_ValidCam.f k l) (decide (Valid l)) := by
  unfold impl_ValidCam.f
  simp only [e_impl_Cam_steps, e_impl_isSteps, Option.bind_some]
  by_cases h : 8 ≤ (l.length : Int) ∧ (l.length : Int) ≤ 360
  · simp only [h, and_self, decide_true, if_true]
    unfold slices_ContainsFunc_at_impl_ValidCam_c1.f slices_IndexFunc_at_impl_ValidCam_c1.f
    have := ev_find (fun k j => slices_IndexFunc_at_impl_ValidCam_c1.l0 k l (l.length : Int) (j : Int)) (fun j => decide (0 ≤ rd l (j : Int) ∧ rd l (j : Int) ≤ 10000)) l.length (-1) (fun j => (j : Int)) ?_ ?_ ?_
    · refine Ev.bind (Ev.bind this (evo rfl)) (evo ?_)
      rcases ff_eq (fun j => decide (0 ≤ rd l (j : Int) ∧ rd l (j : Int) ≤ 10000)) (-1 : Int) (fun j => (j : Int)) l.length with ⟨hh, e⟩ | ⟨m, hm, hf, _, e⟩
      · rw [e, decide_eq_true (show Valid l from ⟨by omega, by omega, fun j hj => by simpa using hh j hj⟩)]; rfl
      · rw [e, decide_eq_false (show ¬ Valid l from fun hv => by rw [decide_eq_true (hv.2.2 m hm)] at hf; cases hf)]
        simp
    · intro j r hj hp ih
      refine evs ?_
      have hb := h16.rdb (j : Int)
      simp (disch := omega) only [slices_IndexFunc_at_impl_ValidCam_c1.l0, impl_ValidCam_c1.f, if_pos, e_impl_isLift, Option.bind_some, w64]
      first | exact ih | (rw [hp]; simp only [Bool.not_true, Bool.false_eq_true, if_false]; exact ih)
    · intro j hj hp
      refine evs ?_
      have hb := h16.rdb (j : Int)
      simp (disch := omega) only [slices_IndexFunc_at_impl_ValidCam_c1.l0, impl_ValidCam_c1.f, if_pos, e_impl_isLift, Option.bind_some, w64]
      first | exact evo rfl | (rw [hp]; exact evo rfl)
    · refine evs ?_
      simp (disch := omega) only [slices_IndexFunc_at_impl_ValidCam_c1.l0, if_neg]
      exact evo rfl
  · rw [decide_eq_false h]
    simp only [Bool.false_eq_true, if_false]
    exact evo (decide_eq_false (fun hv => h ⟨by have := hv.1; omega, by have := hv.2.1; omega⟩)).symm

/-! impl_mod -/
theorem e_impl_floorDiv (a n : Int) (h : 0 < n) (ha : -9223372036854775807 ≤ a) (hb : a ≤ 9223372036854775807) : impl_floorDiv.f a n = some (a / n) := by
  unfold impl_floorDiv.f
  have := tdiv_b a h 9223372036854775807 ha hb
  rw [if_neg (by omega), ← floor_tdiv a h]
  by_cases c : Int.tmod a n < 0
  · simp (disch := omega) only [if_pos c, w64]
  · simp (disch := omega) only [if_neg c, w64]
theorem e_impl_mod (a n : Int) (h : 0 < n) (hn : n ≤ 1048576) (ha : -1000000000000 ≤ a) (hb : a ≤ 1000000000000) : impl_mod.f a n = some (a % n) := by
  unfold impl_mod.f
  rw [e_impl_floorDiv a n h (by omega) (by omega)]
  have e := Int.emod_add_mul_ediv a n
  have b := emod_b a h
  simp (disch := omega) only [Option.bind_some, w64, mod_ediv]

/-! impl_first -/
theorem e_impl_firstCode (l : List Int) (hl : l.length ≤ 10000000) : Ev (fun k => impl_firstCode.f k l) (fnz l) := by
  unfold impl_firstCode.f
  suffices H : ∀ d j, j + d = l.length → Ev (fun k => impl_firstCode.l0 k l (l.length : Int) (j : Int)) (fnz (l.drop j)) from by
    have := H l.length 0 (by omega); simpa using this
  intro d
  induction d with
  | zero =>
    intro j hj
    refine evs ?_
    simp (disch := omega) only [impl_firstCode.l0, if_neg]
    exact evo (by rw [List.drop_of_length_le (by omega)]; rfl)
  | succ d ih =>
    intro j hj
    refine evs ?_
    have hj2 : j < l.length := by omega
    simp (disch := omega) only [impl_firstCode.l0, if_pos, w64]
    have e : l.drop j = rd l (j : Int) :: l.drop (j + 1) := by
      rw [List.drop_eq_getElem_cons hj2, rd_nat]; simp [List.getD_eq_getElem?_getD, hj2]
    rw [e]; unfold fnz
    by_cases c : rd l (j : Int) = 0
    · simp only [if_pos c]; exact ih (j + 1) (by omega)
    · simp only [if_neg c]; exact evo rfl
theorem e_impl_codeIf (b : Bool) (c : Int) : impl_codeIf.f b c = some (if b = true then c else 0) := by
  unfold impl_codeIf.f; split <;> rfl

/-! i16valid -/
theorem I16.valid {l : List Int} (h : Valid l) : I16 l := by
  intro x hx
  obtain ⟨i, hi, rfl⟩ := List.getElem_of_mem hx
  have := h.2.2 i hi
  rw [rd_nat] at this
  simp [List.getD_eq_getElem?_getD, hi] at this
  exact ⟨by omega, by omega⟩

/-! clone -/
theorem e_clone (l : List Int) (hl : l.length ≤ 1048576) : impl_Cam_int16_144.f l = some l := by
  unfold impl_Cam_int16_144.f
  simp only [Option.bind_some, List.nil_append]
  rw [if_pos (by simp; omega)]

/-! find2 -/
theorem ev_find2 {ρ : Type} (L : Nat → Nat → Option ρ) (p : Nat → Bool) (n : Nat) (r1 : ρ) (r2 : Nat → ρ)
    (ht : ∀ j r, j < n → p j = true → Ev (fun k => L k (j + 1)) r → Ev (fun k => L k j) r) (hf : ∀ j, j < n → p j = false → Ev (fun k => L k j) (r2 j))
    (he : (∀ j, j < n → p j = true) → Ev (fun k => L k n) r1) : Ev (fun k => L k 0) (ff p r1 r2 n 0) := by
  suffices H : ∀ d j, j + d = n → (∀ i, i < j → p i = true) → Ev (fun k => L k j) (ff p r1 r2 d j) from H n 0 (by omega) (fun i hi => by omega)
  intro d
  induction d with
  | zero => intro j hj hp; obtain rfl : j = n := by omega
            exact he hp
  | succ d ih =>
    intro j hj hp
    unfold ff
    by_cases c : p j = true
    · rw [if_pos c]; exact ht j _ (by omega) c (ih (j + 1) (by omega) (fun i hi => by by_cases e : i = j; · rw [e]; exact c
                                                                                      · exact hp i (by omega)))
    · rw [if_neg c]; exact hf j (by omega) (by simpa using c)
theorem ff_map {ρ σ : Type} (f : ρ → σ) (p : Nat → Bool) (r1 : ρ) (r2 : Nat → ρ) (d j : Nat) : f (ff p r1 r2 d j) = ff p (f r1) (fun i => f (r2 i)) d j := by
  induction d generalizing j with
  | zero => rfl
  | succ d ih => unfold ff; split
                 · exact ih _
                 · rfl

/-! put -/
def placeOK (l : List Int) (s : Int) (v : List Int) : Prop := (0 ≤ s ∧ s ≤ (l.length : Int) - 1) ∧ (1 ≤ (v.length : Int) ∧ (v.length : Int) ≤ mn 40 ((l.length : Int) - 4))
instance (l : List Int) (s : Int) (v : List Int) : Decidable (placeOK l s v) := by unfold placeOK; infer_instance
def liftsB (v : List Int) : Bool := ff (fun j : Nat => decide (0 ≤ rd v (j : Int) ∧ rd v (j : Int) ≤ 10000)) true (fun _ => false) v.length 0
theorem liftsB_rd {v : List Int} (h : liftsB v = true) (j : Nat) (hj : j < v.length) : 0 ≤ rd v (j : Int) ∧ rd v (j : Int) ≤ 10000 := by
  unfold liftsB at h
  rw [ff_all] at h
  have := of_decide_eq_true h j hj
  exact of_decide_eq_true this
def liftC (l : List Int) (s : Int) (v : List Int) : Int := if Valid l then (if placeOK l s v then (if liftsB v = true then 0 else 3) else 2) else 1
theorem liftC_0 {l : List Int} {s : Int} {v : List Int} (h : liftC l s v = 0) : Valid l ∧ placeOK l s v ∧ liftsB v = true := by
  unfold liftC at h
  by_cases a : Valid l
  · rw [if_pos a] at h
    by_cases b : placeOK l s v
    · rw [if_pos b] at h
      by_cases c : liftsB v = true
      · exact ⟨a, b, c⟩
      · rw [if_neg c] at h; omega
    · rw [if_neg b] at h; omega
  · rw [if_neg a] at h; omega
theorem e_spec_l05Lifts (l : List Int) (h16 : I16 l) (hl : l.length ≤ 1048576) (s : Int) (v : List Int) (hv64 : v.length ≤ 1048576) : Ev (fun k => spec_l05Lifts.f k l s v) (liftC l s v) := by
  unfold spec_l05Lifts.f liftC
  refine Ev.bind (e_spec_l01Ok l h16 hl) ?_
  by_cases a : Valid l
  · simp only [a, decide_true, if_true]
    have h1 := a.1
    have h2 := a.2.1
    have em : spec_l00Min.f 40 ((l.length : Int) - 4) = some (mn 40 ((l.length : Int) - 4)) := by
      unfold spec_l00Min.f mn
      by_cases h : (40 : Int) < (l.length : Int) - 4
      · rw [if_pos h, if_neg (by omega)]
      · rw [if_neg h]; by_cases g : (l.length : Int) - 4 < 40
        · rw [if_pos g]
        · rw [if_neg g, show (40 : Int) = (l.length : Int) - 4 by omega]
    simp (disch := omega) only [w64, e_spec_l00In, Option.bind_some, em]
    by_cases p : 0 ≤ s ∧ s ≤ (l.length : Int) - 1
    · simp only [decide_eq_true p, if_true]
      refine evs ?_
      by_cases q : 1 ≤ (v.length : Int) ∧ (v.length : Int) ≤ mn 40 ((l.length : Int) - 4)
      · rw [if_pos (show placeOK l s v from ⟨p, q⟩)]
        simp only [decide_eq_true q, spec_l05Lifts.j0, Bool.not_true, Bool.false_eq_true, if_false]
        have := ev_find (fun k j => spec_l05Lifts.l0 k v (j : Int)) (fun j : Nat => decide (0 ≤ rd v (j : Int) ∧ rd v (j : Int) ≤ 10000)) v.length (0 : Int) (fun _ => (3 : Int)) ?_ ?_ ?_
        · refine eve this ?_
          have e := ff_map (fun b : Bool => if b = true then (0 : Int) else 3) (fun j : Nat => decide (0 ≤ rd v (j : Int) ∧ rd v (j : Int) ≤ 10000)) true (fun _ => false) v.length 0
          exact e.symm
        · intro j r hj hp ih
          refine evs ?_
          have hp' := of_decide_eq_true hp
          simp (disch := omega) only [spec_l05Lifts.l0, if_pos, e_spec_l01Lift, Option.bind_some, w64]
          first | exact ih | (simp only [hp', and_self, decide_true, if_true]; exact ih)
        · intro j hj hp
          refine evs ?_
          simp (disch := omega) only [spec_l05Lifts.l0, if_pos, e_spec_l01Lift, Option.bind_some, w64]
          rw [hp]
          exact evo rfl
        · refine evs ?_
          simp (disch := omega) only [spec_l05Lifts.l0, if_neg]
          exact evo rfl
      · rw [if_neg (show ¬ placeOK l s v from fun h => q h.2)]
        simp only [decide_eq_false q, spec_l05Lifts.j0, Bool.not_false, if_true]; exact evo rfl
    · rw [if_neg (show ¬ placeOK l s v from fun h => p h.1)]
      simp only [decide_eq_false p, Bool.false_eq_true, if_false]
      refine evs ?_
      simp only [spec_l05Lifts.j0, if_true]; exact evo rfl
  · simp only [a, decide_false, if_false]; exact evo rfl
theorem e_impl_putContains (v : List Int) (hv : v.length ≤ 1048576) : Ev (fun k => slices_ContainsFunc_at_impl_putCode_c1.f k v) (!liftsB v) := by
  unfold slices_ContainsFunc_at_impl_putCode_c1.f slices_IndexFunc_at_impl_putCode_c1.f
  have := ev_find (fun k j => slices_IndexFunc_at_impl_putCode_c1.l0 k v (v.length : Int) (j : Int)) (fun j : Nat => decide (0 ≤ rd v (j : Int) ∧ rd v (j : Int) ≤ 10000)) v.length (-1 : Int) (fun j => (j : Int)) ?_ ?_ ?_
  · refine Ev.bind this (evo ?_)
    have e := ff_map (fun x : Int => decide (x ≥ 0)) (fun j : Nat => decide (0 ≤ rd v (j : Int) ∧ rd v (j : Int) ≤ 10000)) (-1 : Int) (fun j => (j : Int)) v.length 0
    rw [e]
    have e2 := ff_map (fun b : Bool => !b) (fun j : Nat => decide (0 ≤ rd v (j : Int) ∧ rd v (j : Int) ≤ 10000)) true (fun _ => false) v.length 0
    unfold liftsB
    rw [e2]
    have e3 : (fun i : Nat => decide ((i : Int) ≥ 0)) = fun _ : Nat => !false := by
      funext i; exact decide_eq_true (show (i : Int) ≥ 0 by omega)
    rw [e3]; rfl
  · intro j r hj hp ih
    refine evs ?_
    simp (disch := omega) only [slices_IndexFunc_at_impl_putCode_c1.l0, impl_putCode_c1.f, if_pos, e_impl_isLift, Option.bind_some, w64]
    have hp' := of_decide_eq_true hp
    first | exact ih | (simp only [hp', and_self, decide_true, Bool.not_true, Bool.false_eq_true, if_false]; exact ih)
  · intro j hj hp
    refine evs ?_
    simp (disch := omega) only [slices_IndexFunc_at_impl_putCode_c1.l0, impl_putCode_c1.f, if_pos, e_impl_isLift, Option.bind_some, w64]
    rw [hp]
    exact evo rfl
  · refine evs ?_
    simp (disch := omega) only [slices_IndexFunc_at_impl_putCode_c1.l0, if_neg]
    exact evo rfl
def putC (l : List Int) (s : Int) (v : List Int) (b : Int) : Int := if Valid l then (if placeOK l s v ∧ (0 ≤ b ∧ b ≤ 40000) then (if liftsB v = true then 0 else 3) else 2) else 1
theorem e_impl_putCode (l : List Int) (h16 : I16 l) (hl : l.length ≤ 1048576) (s : Int) (v : List Int) (hv64 : v.length ≤ 1048576) (b : Int) : Ev (fun k => impl_putCode.f k l s v b) (putC l s v b) := by
  unfold impl_putCode.f putC
  refine Ev.bind (e_impl_ValidCam l h16 hl) ?_
  simp (disch := omega) only [w64, impl_isPlace.f, e_impl_codeIf, e_impl_inRange, e_impl_Cam_steps, Option.bind_some, Bool.not_true]
  have fin : ∀ x y : Int, Ev (fun k => (slices_ContainsFunc_at_impl_putCode_c1.f k v).bind fun t => (impl_firstCode.f k [x, y, if t = true then 3 else 0]).bind fun u => some u) (fnz [x, y, if liftsB v = true then 0 else 3]) := by
    intro x y
    refine Ev.bind (e_impl_putContains v hv64) (Ev.bind (e_impl_firstCode _ (by simp)) (evo ?_))
    cases liftsB v <;> rfl
  have g : ∀ y : Int, fnz [if (!decide (Valid l)) = true then (1 : Int) else 0, y, if liftsB v = true then 0 else 3] = if Valid l then (if y = 0 then (if liftsB v = true then 0 else 3) else y) else 1 := by
    intro y
    by_cases a : Valid l
    · rw [if_pos a, decide_eq_true a]
      simp only [Bool.not_true, Bool.false_eq_true, if_false, fnz, if_true]
      by_cases hy : y = 0
      · simp only [if_pos hy]; cases liftsB v <;> simp
      · simp only [if_neg hy]
    · rw [if_neg a, decide_eq_false a]; rfl
  by_cases p : 0 ≤ s ∧ s ≤ (l.length : Int) - 1
  · simp only [decide_eq_true p, if_true]
    by_cases q : 1 ≤ (v.length : Int) ∧ (v.length : Int) ≤ mn 40 ((l.length : Int) - 4)
    · have pq : placeOK l s v := ⟨p, q⟩
      simp only [decide_eq_true q, if_true]
      refine eve (fin _ _) ?_
      rw [g]
      by_cases c : 0 ≤ b ∧ b ≤ 40000
      · rw [decide_eq_true c, if_pos (show placeOK l s v ∧ (0 ≤ b ∧ b ≤ 40000) from ⟨pq, c⟩)]; rfl
      · rw [decide_eq_false c, if_neg (show ¬ (placeOK l s v ∧ (0 ≤ b ∧ b ≤ 40000)) from fun h => c h.2)]; rfl
    · have pq : ¬ (placeOK l s v ∧ (0 ≤ b ∧ b ≤ 40000)) := fun h => q h.1.2
      simp only [decide_eq_false q, Bool.false_eq_true, if_false]
      refine eve (fin _ _) ?_
      rw [g, if_neg pq]; rfl
  · have pq : ¬ (placeOK l s v ∧ (0 ≤ b ∧ b ≤ 40000)) := fun h => p h.1.1
    simp only [decide_eq_false p, Bool.false_eq_true, if_false]
    refine eve (fin _ _) ?_
    rw [g, if_neg pq]; rfl
def putN (l : List Int) (s : Int) (v : List Int) : Nat → List Int
  | 0 => l
  | j + 1 => (putN l s v j).set ((s + (j : Int)) % (l.length : Int)).toNat (rd v (j : Int))
theorem putN_s (l : List Int) (s : Int) (v : List Int) (j : Nat) : putN l s v (j + 1) = (putN l s v j).set ((s + (j : Int)) % (l.length : Int)).toNat (rd v (j : Int)) := rfl
theorem putN_len (l : List Int) (s : Int) (v : List Int) (j : Nat) : (putN l s v j).length = l.length := by
  induction j with
  | zero => rfl
  | succ j ih => rw [putN_s, List.length_set, ih]
theorem Valid.set {l : List Int} (h : Valid l) (i : Nat) (x : Int) (h0 : 0 ≤ x) (h1 : x ≤ 10000) : Valid (l.set i x) := by
  refine ⟨by rw [List.length_set]; exact h.1, by rw [List.length_set]; exact h.2.1, fun j hj => ?_⟩
  rw [List.length_set] at hj
  rw [rd_nat, List.getD_eq_getElem?_getD, List.getElem?_set]
  split
  · split
    · exact ⟨h0, h1⟩
    · exact ⟨by simp, by simp⟩
  · have := h.2.2 j hj
    rw [rd_nat, List.getD_eq_getElem?_getD] at this
    exact this
theorem putN_ok (l : List Int) (hv : Valid l) (s : Int) (v : List Int) (hb : liftsB v = true) (j : Nat) (hj : j ≤ v.length) : Valid (putN l s v j) := by
  induction j with
  | zero => exact hv
  | succ j ih =>
    have := liftsB_rd hb j (by omega)
    rw [putN_s]; exact Valid.set (ih (by omega)) _ _ this.1 this.2
theorem e_spec_l05Put (l : List Int) (hv : Valid l) (s : Int) (v : List Int) (hp : placeOK l s v) (hb : liftsB v = true) : Ev (fun k => spec_l05Put.f k l s v) (putN l s v v.length) := by
  have h1 := hv.1
  have h2 := hv.2.1
  have hq := hp.1
  have hq2 := hp.2
  have hm : (v.length : Int) ≤ 40 := by have := hq2.2; unfold mn at this; split at this <;> omega
  unfold spec_l05Put.f
  simp (disch := first | omega | (simp; omega)) only [Option.bind_some, List.nil_append, if_pos]
  refine ev_loop (fun k j => spec_l05Put.l0 k l s v (putN l s v j) (j : Int)) v.length (putN l s v v.length) ?_ ?_
  · intro j hj ih
    refine evs ?_
    have b := liftsB_rd hb j hj
    have m := emod_b (s + (j : Int)) (show (0 : Int) < l.length by omega)
    have e := putN_len l s v j
    simp (disch := omega) only [spec_l05Put.l0, if_pos, if_neg, w64, w16, tmod_pos, e]
    exact ih
  · refine evs ?_
    simp (disch := omega) only [spec_l05Put.l0, if_neg]
    exact evo rfl
theorem e_impl_with (l : List Int) (hv : Valid l) (s : Int) (v : List Int) (hp : placeOK l s v) (hb : liftsB v = true) : Ev (fun k => impl_Cam_with.f k l s v) (putN l s v v.length) := by
  have h1 := hv.1
  have h2 := hv.2.1
  have hq := hp.1
  have hq2 := hp.2
  have hm : (v.length : Int) ≤ 40 := by have := hq2.2; unfold mn at this; split at this <;> omega
  unfold impl_Cam_with.f
  simp only [e_clone l (by omega), Option.bind_some]
  refine ev_loop (fun k j => impl_Cam_with.l0 k l s (putN l s v j) v (v.length : Int) (j : Int)) v.length (putN l s v v.length) ?_ ?_
  · intro j hj ih
    refine evs ?_
    have b := liftsB_rd hb j hj
    have m := emod_b (s + (j : Int)) (show (0 : Int) < l.length by omega)
    have e := putN_len l s v j
    simp (disch := omega) only [impl_Cam_with.l0, if_pos, if_neg, w64, w16, e_impl_mod, e_impl_Cam_steps, Option.bind_some, e]
    exact ih
  · refine evs ?_
    simp (disch := omega) only [impl_Cam_with.l0, if_neg]
    exact evo rfl

/-! spec_at -/
theorem e_spec_l01At (l : List Int) (h16 : I16 l) (h0 : 0 < l.length) (hl : l.length ≤ 1048576) (a : Int) (ha : -1000000000000 ≤ a) (hb : a ≤ 1000000000000) : spec_l01At.f l a = some (atz l a) := by
  unfold spec_l01At.f atz
  have hn : (0 : Int) < l.length := by omega
  have b := tmod_b a hn
  rw [if_neg (by omega), w64 (by omega) (by omega), two_mods a hn]
  have c := emod_b a hn
  rw [if_pos c.1, if_pos c.2]
  have := h16.rdb (a % (l.length : Int))
  rw [w64 (by omega) (by omega)]

/-! bendv -/
def bendv (l : List Int) (i : Int) : Int := atz l (i + 1) - 2 * atz l i + atz l (i - 1)
theorem bendv_b (l : List Int) (hv : Valid l) (i : Int) : -20000 ≤ bendv l i ∧ bendv l i ≤ 20000 := by
  have a := hv.atzb (i + 1)
  have b := hv.atzb i
  have c := hv.atzb (i - 1)
  unfold bendv; omega

/-! spec_size -/
def sz (a : Int) : Int := if a < 0 then -a else a
theorem e_spec_l01Size (a : Int) (h0 : -9223372036854775807 ≤ a) (h1 : a ≤ 9223372036854775807) : spec_l01Size.f a = some (sz a) := by
  unfold spec_l01Size.f sz
  split
  · rw [w64 (by omega) (by omega)]
  · rfl

/-! impl_at -/
theorem e_impl_Cam_at (l : List Int) (h16 : I16 l) (h0 : 0 < l.length) (hl : l.length ≤ 1048576) (a : Int) (ha : -1000000000000 ≤ a) (hb : a ≤ 1000000000000) : impl_Cam_at.f l a = some (atz l a) := by
  unfold impl_Cam_at.f atz
  have hn : (0 : Int) < l.length := by omega
  have c := emod_b a hn
  rw [e_impl_Cam_steps, Option.bind_some, e_impl_mod a _ hn (by omega) ha hb, Option.bind_some, if_pos c.1, if_pos c.2]
  have := h16.rdb (a % (l.length : Int))
  rw [w64 (by omega) (by omega)]

/-! impl_bend1 -/
theorem e_impl_Cam_change (l : List Int) (h16 : I16 l) (hv : Valid l) (i : Int) (h0 : -1000000 ≤ i) (h1 : i ≤ 1000000) : impl_Cam_change.f l i = some (atz l (i + 1) - atz l i) := by
  have a := hv.atzb (i + 1)
  have b := hv.atzb i
  have hn := hv.1
  have hn2 := hv.2.1
  unfold impl_Cam_change.f
  simp (disch := omega) only [e_impl_Cam_at l h16, Option.bind_some, w64]
theorem e_impl_Cam_bend (l : List Int) (h16 : I16 l) (hv : Valid l) (i : Int) (h0 : -100000 ≤ i) (h1 : i ≤ 100000) : impl_Cam_bend.f l i = some (bendv l i) := by
  have a := hv.atzb (i + 1)
  have b := hv.atzb i
  have c := hv.atzb (i - 1)
  unfold impl_Cam_bend.f
  simp (disch := omega) only [w64]
  simp (disch := omega) only [e_impl_Cam_change l h16 hv, Option.bind_some]
  rw [Int.sub_add_cancel, w64 (by omega) (by omega)]
  unfold bendv; congr 1; omega

/-! impl_abs -/
theorem e_impl_abs (a : Int) (h0 : -9223372036854775807 ≤ a) (h1 : a ≤ 9223372036854775807) : impl_abs.f a = some (sz a) := by
  unfold impl_abs.f sz mx
  rw [w64 (by omega) (by omega)]
  congr 1
  split <;> split <;> omega

/-! CheckFill -/
def cfR (l : List Int) (s : Int) (v : List Int) (b : Int) : Bool × Int := if putC l s v b = 0 then ff (fun i : Nat => !decide (sz (bendv (putN l s v v.length) (s - 1 + (i : Int))) > b)) (true, (0 : Int)) (fun _ => (false, 0)) (v.length + 2) 0 else (false, putC l s v b)
theorem putC_0 {l : List Int} {s : Int} {v : List Int} {b : Int} (h : putC l s v b = 0) : Valid l ∧ placeOK l s v ∧ liftsB v = true := by
  unfold putC at h
  by_cases a : Valid l
  · rw [if_pos a] at h
    by_cases q : placeOK l s v ∧ (0 ≤ b ∧ b ≤ 40000)
    · rw [if_pos q] at h
      by_cases c : liftsB v = true
      · exact ⟨a, q.1, c⟩
      · rw [if_neg c] at h; omega
    · rw [if_neg q] at h; omega
  · rw [if_neg a] at h; omega
theorem e_spec_l05Bound (b : Int) : spec_l05Bound.f b = some (decide (0 ≤ b ∧ b ≤ 40000)) := by
  unfold spec_l05Bound.f; rw [e_spec_l00In]; rfl
theorem e_spec_CheckFill (l : List Int) (h16 : I16 l) (hl : l.length ≤ 1048576) (s : Int) (v : List Int) (hv64 : v.length ≤ 1048576) (b : Int) : Ev (fun k => spec_CheckFill.f k l s v b) (cfR l s v b) := by
  unfold spec_CheckFill.f
  refine Ev.bind (e_spec_l01Ok l h16 hl) ?_
  have step : (Valid l → 0 ≤ b ∧ b ≤ 40000) → Ev (fun k => spec_CheckFill.j0 k l s v b false) (cfR l s v b) := by
    intro hb
    have ec : liftC l s v = putC l s v b := by
      unfold liftC putC
      by_cases a : Valid l
      · rw [if_pos a, if_pos a]
        have e : (placeOK l s v ∧ (0 ≤ b ∧ b ≤ 40000)) ↔ placeOK l s v := ⟨fun h => h.1, fun h => ⟨h, hb a⟩⟩
        simp only [e]
      · rw [if_neg a, if_neg a]
    refine evs ?_
    simp only [spec_CheckFill.j0, Bool.false_eq_true, if_false]
    refine Ev.bind (e_spec_l05Lifts l h16 hl s v hv64) ?_
    rw [ec]
    unfold cfR
    by_cases h : putC l s v b = 0
    · obtain ⟨a, p, c⟩ := putC_0 h
      simp only [if_pos h]
      refine Ev.bind (e_spec_l05Put l a s v p c) ?_
      have hn := a.1
      have hn2 := a.2.1
      have hq := p.1
      have hm : (v.length : Int) ≤ 40 := by have := p.2.2; unfold mn at this; split at this <;> omega
      rw [w64 (by omega) (by omega)]
      have pv := putN_ok l a s v c v.length (Nat.le_refl _)
      have pl := putN_len l s v v.length
      have p16 := I16.valid pv
      have := ev_find (fun k j => spec_CheckFill.l0 k s v b (putN l s v v.length) (s - 1 + (j : Int))) (fun i : Nat => !decide (sz (bendv (putN l s v v.length) (s - 1 + (i : Int))) > b)) (v.length + 2) (true, (0 : Int)) (fun _ => (false, (0 : Int))) ?_ ?_ ?_
      · rw [show s - 1 + ((0 : Nat) : Int) = s - 1 by omega] at this; exact this
      · intro j r hj hp ih
        refine evs ?_
        have b1 := pv.atzb (s - 1 + (j : Int) + 1)
        have b2 := pv.atzb (s - 1 + (j : Int))
        have b3 := pv.atzb (s - 1 + (j : Int) - 1)
        have bb := bendv_b _ pv (s - 1 + (j : Int))
        simp (disch := omega) only [spec_CheckFill.l0, w64, if_pos, e_spec_l01At _ p16, Option.bind_some]
        rw [show atz (putN l s v v.length) (s - 1 + (j : Int) + 1) - 2 * atz (putN l s v v.length) (s - 1 + (j : Int)) + atz (putN l s v v.length) (s - 1 + (j : Int) - 1) = bendv (putN l s v v.length) (s - 1 + (j : Int)) from rfl, e_spec_l01Size _ (by omega) (by omega)]
        rw [Bool.not_eq_true'] at hp
        simp only [Option.bind_some, if_neg (of_decide_eq_false hp)]
        rw [show s - 1 + ((j + 1 : Nat) : Int) = s - 1 + (j : Int) + 1 by omega] at ih
        exact ih
      · intro j hj hp
        refine evs ?_
        have b1 := pv.atzb (s - 1 + (j : Int) + 1)
        have b2 := pv.atzb (s - 1 + (j : Int))
        have b3 := pv.atzb (s - 1 + (j : Int) - 1)
        have bb := bendv_b _ pv (s - 1 + (j : Int))
        simp (disch := omega) only [spec_CheckFill.l0, w64, if_pos, e_spec_l01At _ p16, Option.bind_some]
        rw [show atz (putN l s v v.length) (s - 1 + (j : Int) + 1) - 2 * atz (putN l s v v.length) (s - 1 + (j : Int)) + atz (putN l s v v.length) (s - 1 + (j : Int) - 1) = bendv (putN l s v v.length) (s - 1 + (j : Int)) from rfl, e_spec_l01Size _ (by omega) (by omega)]
        rw [Bool.not_eq_false'] at hp
        simp only [Option.bind_some, if_pos (of_decide_eq_true hp)]
        exact evo rfl
      · refine evs ?_
        simp (disch := omega) only [spec_CheckFill.l0, w64, if_neg]
        exact evo rfl
    · simp only [if_neg h]; exact evo rfl
  by_cases a : Valid l
  · simp only [a, decide_true, if_true, e_spec_l05Bound, Option.bind_some]
    by_cases hb : 0 ≤ b ∧ b ≤ 40000
    · simp only [decide_eq_true hb, Bool.not_true]
      exact step (fun _ => hb)
    · simp only [decide_eq_false hb, Bool.not_false]
      refine evs ?_
      have e : putC l s v b = 2 := by
        unfold putC; rw [if_pos a, if_neg (fun h => hb h.2)]
      simp only [spec_CheckFill.j0, if_true]
      exact evo (by unfold cfR; rw [e]; rfl)
  · simp only [a, decide_false, Bool.false_eq_true, if_false]
    exact step (fun h => absurd h a)
theorem e_impl_CheckFill (l : List Int) (h16 : I16 l) (hl : l.length ≤ 1048576) (s : Int) (v : List Int) (hv64 : v.length ≤ 1048576) (b : Int) : Ev (fun k => impl_CheckFill.f k l s v b) (cfR l s v b) := by
  unfold impl_CheckFill.f cfR
  refine Ev.bind (e_impl_putCode l h16 hl s v hv64 b) ?_
  by_cases h : putC l s v b = 0
  · obtain ⟨a, p, c⟩ := putC_0 h
    simp only [if_pos h]
    refine Ev.bind (e_impl_with l a s v p c) ?_
    have hn := a.1
    have hn2 := a.2.1
    have hq := p.1
    have hm : (v.length : Int) ≤ 40 := by have := p.2.2; unfold mn at this; split at this <;> omega
    rw [w64 (by omega) (by omega)]
    have pv := putN_ok l a s v c v.length (Nat.le_refl _)
    have p16 := I16.valid pv
    have := ev_find (fun k j => impl_CheckFill.l0 k s v b (putN l s v v.length) (s - 1 + (j : Int))) (fun i : Nat => !decide (sz (bendv (putN l s v v.length) (s - 1 + (i : Int))) > b)) (v.length + 2) (true, (0 : Int)) (fun _ => (false, (0 : Int))) ?_ ?_ ?_
    · rw [show s - 1 + ((0 : Nat) : Int) = s - 1 by omega] at this; exact this
    · intro j r hj hp ih
      refine evs ?_
      have bb := bendv_b _ pv (s - 1 + (j : Int))
      simp (disch := omega) only [impl_CheckFill.l0, w64, if_pos, e_impl_Cam_bend _ p16 pv, e_impl_abs, Option.bind_some]
      rw [Bool.not_eq_true'] at hp
      simp only [if_neg (of_decide_eq_false hp)]
      rw [show s - 1 + ((j + 1 : Nat) : Int) = s - 1 + (j : Int) + 1 by omega] at ih
      exact ih
    · intro j hj hp
      refine evs ?_
      have bb := bendv_b _ pv (s - 1 + (j : Int))
      simp (disch := omega) only [impl_CheckFill.l0, w64, if_pos, e_impl_Cam_bend _ p16 pv, e_impl_abs, Option.bind_some]
      rw [Bool.not_eq_false'] at hp
      simp only [if_pos (of_decide_eq_true hp)]
      exact evo rfl
    · refine evs ?_
      simp (disch := omega) only [impl_CheckFill.l0, w64, if_neg]
      exact evo rfl
  · simp only [if_neg h]; exact evo rfl

/-! laws_cam -/
theorem e_laws_toCam (l : List Int) (hl : l.length ≤ 1048576) : Ev (fun k => laws_toCam.f k l) l := by
  unfold laws_toCam.f
  simp (disch := omega) only [if_pos]
  have := ev_loop (fun k j => laws_toCam.l0 k l (l.take j ++ List.replicate (l.length - j) 0) (j : Int)) l.length l ?_ ?_
  · simpa using this
  · intro j hj ih
    refine evs ?_
    have e : ((l.take j ++ List.replicate (l.length - j) 0).length : Int) = l.length := by simp; omega
    simp (disch := omega) only [laws_toCam.l0, if_pos, e, w64]
    have e2 : (l.take j ++ List.replicate (l.length - j) 0).set ((j : Int)).toNat (rd l (j : Int)) = l.take (j + 1) ++ List.replicate (l.length - (j + 1)) 0 := by
      have e3 : l.length - j = (l.length - (j + 1)) + 1 := by omega
      rw [e3, List.replicate_succ, Int.toNat_natCast, set_app _ _ _ _ _ (by simp; omega), rd_nat, List.take_succ_eq_append_getElem hj]
      have e4 : l.getD j 0 = l[j] := by simp [List.getD_eq_getElem?_getD, hj]
      rw [e4, List.append_assoc, List.singleton_append]
    rw [e2]
    exact ih
  · refine evs ?_
    simp (disch := omega) only [laws_toCam.l0, if_neg]
    exact evo (by simp)
theorem e_laws_eqCam (l : List Int) (hl : l.length ≤ 1048576) : Ev (fun k => laws_eqCam.f k l l) true := by
  unfold laws_eqCam.f
  simp only [if_true]
  have := ev_loop (fun k j => laws_eqCam.l0 k l l (j : Int)) l.length true ?_ ?_
  · exact this
  · intro j hj ih
    refine evs ?_
    simp (disch := omega) only [laws_eqCam.l0, if_pos, if_true, w64]
    exact ih
  · refine evs ?_
    simp (disch := omega) only [laws_eqCam.l0, if_neg]
    exact evo rfl

/-! laws_to64 -/
theorem e_laws_toInt64S (l : List Int) (hl : l.length ≤ 1048576) : Ev (fun k => laws_toInt64S.f k l) l := by
  unfold laws_toInt64S.f
  simp (disch := omega) only [if_pos]
  have := ev_loop (fun k j => laws_toInt64S.l0 k l (l.take j ++ List.replicate (l.length - j) 0) (j : Int)) l.length l ?_ ?_
  · simpa using this
  · intro j hj ih
    refine evs ?_
    have e : ((l.take j ++ List.replicate (l.length - j) 0).length : Int) = l.length := by simp; omega
    simp (disch := omega) only [laws_toInt64S.l0, if_pos, e, w64]
    have e2 : (l.take j ++ List.replicate (l.length - j) 0).set ((j : Int)).toNat (rd l (j : Int)) = l.take (j + 1) ++ List.replicate (l.length - (j + 1)) 0 := by
      have e3 : l.length - j = (l.length - (j + 1)) + 1 := by omega
      rw [e3, List.replicate_succ, Int.toNat_natCast, set_app _ _ _ _ _ (by simp; omega), rd_nat, List.take_succ_eq_append_getElem hj]
      have e4 : l.getD j 0 = l[j] := by simp [List.getD_eq_getElem?_getD, hj]
      rw [e4, List.append_assoc, List.singleton_append]
    rw [e2]
    exact ih
  · refine evs ?_
    simp (disch := omega) only [laws_toInt64S.l0, if_neg]
    exact evo (by simp)

/-! laws_eq64 -/
theorem e_laws_eqInt64S (l : List Int) (hl : l.length ≤ 1048576) : Ev (fun k => laws_eqInt64S.f k l l) true := by
  unfold laws_eqInt64S.f
  simp only [if_true]
  have := ev_loop (fun k j => laws_eqInt64S.l0 k l l (j : Int)) l.length true ?_ ?_
  · exact this
  · intro j hj ih
    refine evs ?_
    simp (disch := omega) only [laws_eqInt64S.l0, if_pos, if_true, w64]
    exact ih
  · refine evs ?_
    simp (disch := omega) only [laws_eqInt64S.l0, if_neg]
    exact evo rfl

/-! laws_i64 -/

set_option maxHeartbeats 4000000 in
theorem FnExactCheckFill : laws_FnExactCheckFill.Pure := by
  intro l0 a1 l2 a3 _ _ w0 v1 _ _ w2 v3
  have h0 := I16.of_wf w0
  have i1 := wf_i64 v1
  have h2 := I64.of_wf w2
  have i3 := wf_i64 v3
  refine ev_rounds ?_
  unfold laws_FnExactCheckFill.f
  by_cases b0 : (l0.length : Int) > 1048576
  · simp only [if_pos b0]; exact evo rfl
  simp only [if_neg b0]
  have b0 : l0.length ≤ 1048576 := by omega
  have T0 := e_laws_toCam l0 b0
  have Q0 := e_laws_eqCam l0 b0
  by_cases b2 : (l2.length : Int) > 1048576
  · simp only [if_pos b2]; exact evo rfl
  simp only [if_neg b2]
  have b2 : l2.length ≤ 1048576 := by omega
  have T2 := e_laws_toInt64S l2 b2
  have Q2 := e_laws_eqInt64S l2 b2
  have A := e_spec_CheckFill l0 h0 b0 a1 l2 b2 a3
  have B := e_impl_CheckFill l0 h0 b0 a1 l2 b2 a3
  revert A B
  generalize (cfR l0 a1 l2 a3) = RR
  obtain ⟨c0, c1⟩ := RR
  intro A B
  repeat (first | exact evo rfl | (with_reducible refine Ev.bind T0 ?_) | (with_reducible refine Ev.bind Q0 ?_) | (with_reducible refine Ev.bind T2 ?_) | (with_reducible refine Ev.bind Q2 ?_) | (with_reducible refine Ev.bind A ?_) | (with_reducible refine Ev.bind B ?_) | ((with_reducible refine ev_pos ?s1 ?_); (case s1 => first | rfl | trivial | omega | (dsimp only; omega))) | ((with_reducible refine ev_neg ?s1 ?_); (case s1 => first | omega | (dsimp only; omega) | (simp; done))) | (refine evs ?_; simp only [laws_FnExactCheckFill.j0]))


end Go.Proofs.Ytmklaccobbkebab.Pure
