/- The pure statement of the law FnExactLeastTurn: the program's function and the reference's tell the same of every input, by plain lemmas on numbers, lists and rounds; no further condition. -/
import Derived.Test.YtmklaccobbkebabXFnExactLeastTurnx3
import Derived.Test.YtmklaccobbkebabXLib
namespace Go.Proofs.Ytmklaccobbkebab.Pure
open Go.RowKit Go.Proofs.Ytmklaccobbkebab.XFnExactLeastTurn Go.Proofs.Ytmklaccobbkebab.XLib Go.Proofs.YtmklaccobbkebabW.PrintWords Go.Proofs.YtmklaccobbkebabW.PrintLast Go.Proofs.YtmklaccobbkebabW.PrintMore
set_option maxRecDepth 100000
set_option linter.unusedVariables false
set_option linter.unusedSimpArgs false
/-! base_spec -/
theorem e_spec_l00In (a b c : Int) : spec_l00In.f a b c = some (decide (b ≤ a ∧ a ≤ c)) := by
  unfold spec_l00In.f
  by_cases h : b ≤ a <;> simp [h]
theorem e_spec_l01Steps (a : Int) : spec_l01Steps.f a = some (decide (8 ≤ a ∧ a ≤ 360)) := by
  unfold spec_l01Steps.f; rw [e_spec_l00In]; rfl
theorem e_spec_l01Lift (a : Int) : spec_l01Lift.f a = some (decide (0 ≤ a ∧ a ≤ 10000)) := by
  unfold spec_l01Lift.f; rw [e_spec_l00In]; rfl
theorem e_spec_l01Ok (l : List Int) (h16 : I16 l) (hl : l.length ≤ 1048576) : Ev (fun k => spec_l01Ok.f k l) (decide (Valid l)) := by
  unfold spec_l01Ok.f
  simp only [e_spec_l01Steps, Option.bind_some]
  by_cases h : 8 ≤ (l.length : Int) ∧ (l.length : Int) ≤ 360
  · simp only [h, and_self, decide_true, if_true]
    have := ev_find (fun k j => spec_l01Ok.l0 k l (j : Int)) (fun j => decide (0 ≤ rd l (j : Int) ∧ rd l (j : Int) ≤ 10000)) l.length true (fun _ => false) ?_ ?_ ?_
    · rw [ff_all] at this
      refine eve this ?_
      apply decide_eq_decide.mpr
      unfold Valid
      constructor
      · intro hh; exact ⟨by omega, by omega, fun j hj => by simpa using hh j hj⟩
      · intro hh j hj; simpa using hh.2.2 j hj
    · intro j r hj hp ih
      refine evs ?_
      have hb := h16.rdb (j : Int)
      simp (disch := omega) only [spec_l01Ok.l0, if_pos, e_spec_l01Lift, Option.bind_some, w64]
      first | exact ih | (rw [hp]; simp only [if_true]; exact ih)
    · intro j hj hp
      refine evs ?_
      have hb := h16.rdb (j : Int)
      simp (disch := omega) only [spec_l01Ok.l0, if_pos, e_spec_l01Lift, Option.bind_some, w64]
      first | exact evo rfl | (rw [hp]; exact evo rfl)
    · refine evs ?_
      simp (disch := omega) only [spec_l01Ok.l0, if_neg]
      exact evo rfl
  · rw [decide_eq_false h]
    simp only [Bool.false_eq_true, if_false]
    exact evo (decide_eq_false (fun hv => h ⟨by have := hv.1; omega, by have := hv.2.1; omega⟩)).symm

/-! base_impl -/
theorem e_impl_inRange (a b c : Int) : impl_inRange.f a b c = some (decide (b ≤ a ∧ a ≤ c)) := by
  unfold impl_inRange.f
  by_cases h : b ≤ a <;> simp [h]
theorem e_impl_isSteps (a : Int) : impl_isSteps.f a = some (decide (8 ≤ a ∧ a ≤ 360)) := by
  unfold impl_isSteps.f; rw [e_impl_inRange]; rfl
theorem e_impl_isLift (a : Int) : impl_isLift.f a = some (decide (0 ≤ a ∧ a ≤ 10000)) := by
  unfold impl_isLift.f; rw [e_impl_inRange]; rfl
theorem e_impl_Cam_steps (l : List Int) : impl_Cam_steps.f l = some (l.length : Int) := rfl
theorem e_impl_ValidCam (l : List Int) (h16 : I16 l) (hl : l.length ≤ 1048576) : Ev (fun k => impl_ValidCam.f k l) (decide (Valid l)) := by
  unfold impl_ValidCam.f
  simp only [e_impl_Cam_steps, e_impl_isSteps, Option.bind_some]
  by_cases h : 8 ≤ (l.length : Int) ∧ (l.length : Int) ≤ 360
  · simp only [h, and_self, decide_true, if_true]
    unfold slices_ContainsFunc_at_impl_ValidCam_c1.f slices_IndexFunc_at_impl_ValidCam_c1.f
    have := ev_find (fun k j => slices_IndexFunc_at_impl_ValidCam_c1.l0 k l (l.length : Int) (j : Int)) (fun j => decide (0 ≤ rd l (j : Int) ∧ rd l (j : Int) ≤ 10000)) l.length (-1) (fun j => (j : Int)) ?_ ?_ ?_
    · refine Ev.bind (Ev.bind this (evo rfl)) (evo ?_)
      rcases ff_eq (fun j => decide (0 ≤ rd l (j : Int) ∧ rd l (j : Int) ≤ 10000)) (-1 : Int) (fun j => (j : Int)) l.length with ⟨hh, e⟩ | ⟨m, hm, hf, _, e⟩
      · rw [e, decide_eq_true (show Valid l from ⟨by omega, by omega, fun j hj => by simpa using hh j hj⟩)]; rfl
      · rw [e, decide_eq_false (show ¬ Valid l from fun hv => by rw [decide_eq_true (hv.2.2 m hm)] at hf; cases hf)]
        simp
    · intro j r hj hp ih
      refine evs ?_
      have hb := h16.rdb (j : Int)
      simp (disch := omega) only [slices_IndexFunc_at_impl_ValidCam_c1.l0, impl_ValidCam_c1.f, if_pos, e_impl_isLift, Option.bind_some, w64]
      first | exact ih | (rw [hp]; simp only [Bool.not_true, Bool.false_eq_true, if_false]; exact ih)
    · intro j hj hp
      refine evs ?_
      have hb := h16.rdb (j : Int)
      simp (disch := omega) only [slices_IndexFunc_at_impl_ValidCam_c1.l0, impl_ValidCam_c1.f, if_pos, e_impl_isLift, Option.bind_some, w64]
      first | exact evo rfl | (rw [hp]; exact evo rfl)
    · refine evs ?_
      simp (disch := omega) only [slices_IndexFunc_at_impl_ValidCam_c1.l0, if_neg]
      exact evo rfl
  · rw [decide_eq_false h]
    simp only [Bool.false_eq_true, if_false]
    exact evo (decide_eq_false (fun hv => h ⟨by have := hv.1; omega, by have := hv.2.1; omega⟩)).symm

/-! spec_at -/
theorem e_spec_l01At (l : List Int) (h16 : I16 l) (h0 : 0 < l.length) (hl : l.length ≤ 1048576) (a : Int) (ha : -1000000000000 ≤ a) (hb : a ≤ 1000000000000) : spec_l01At.f l a = some (atz l a) := by
  unfold spec_l01At.f atz
  have hn : (0 : Int) < l.length := by omega
  have b := tmod_b a hn
  rw [if_neg (by omega), w64 (by omega) (by omega), two_mods a hn]
  have c := emod_b a hn
  rw [if_pos c.1, if_pos c.2]
  have := h16.rdb (a % (l.length : Int))
  rw [w64 (by omega) (by omega)]

/-! impl_mod -/
theorem e_impl_floorDiv (a n : Int) (h : 0 < n) (ha : -9223372036854775807 ≤ a) (hb : a ≤ 9223372036854775807) : impl_floorDiv.f a n = some (a / n) := by
  unfold impl_floorDiv.f
  have := tdiv_b a h 9223372036854775807 ha hb
  rw [if_neg (by omega), ← floor_tdiv a h]
  by_cases c : Int.tmod a n < 0
  · simp (disch := omega) only [if_pos c, w64]
  · simp (disch := omega) only [if_neg c, w64]
theorem e_impl_mod (a n : Int) (h : 0 < n) (hn : n ≤ 1048576) (ha : -1000000000000 ≤ a) (hb : a ≤ 1000000000000) : impl_mod.f a n = some (a % n) := by
  unfold impl_mod.f
  rw [e_impl_floorDiv a n h (by omega) (by omega)]
  have e := Int.emod_add_mul_ediv a n
  have b := emod_b a h
  simp (disch := omega) only [Option.bind_some, w64, mod_ediv]

/-! turn -/
def turnL (l : List Int) (a : Int) : List Int := (List.range l.length).map fun i : Nat => atz l ((i : Int) + a)
theorem turnL_len (l : List Int) (a : Int) : (turnL l a).length = l.length := by simp [turnL]
theorem turnL_rd (l : List Int) (a : Int) (j : Nat) (h : j < l.length) : rd (turnL l a) (j : Int) = atz l ((j : Int) + a) := by
  unfold turnL; rw [rd_map _ _ _ (by omega) (by omega)]; simp
theorem atz_mod (l : List Int) (i a : Int) : atz l (i + a % (l.length : Int)) = atz l (i + a) := by
  unfold atz; rw [Int.add_emod_emod]
theorem turnL_mod (l : List Int) (a : Int) : turnL l (a % (l.length : Int)) = turnL l a := by
  unfold turnL; simp only [atz_mod]
theorem I16.turn {l : List Int} (h : I16 l) (a : Int) : I16 (turnL l a) := by
  intro x hx
  unfold turnL at hx
  obtain ⟨i, _, rfl⟩ := List.mem_map.mp hx
  exact h.rdb _
theorem Valid.turn {l : List Int} (h : Valid l) (a : Int) : Valid (turnL l a) := by
  refine ⟨by rw [turnL_len]; exact h.1, by rw [turnL_len]; exact h.2.1, fun j hj => ?_⟩
  rw [turnL_len] at hj
  rw [turnL_rd _ _ _ hj]
  exact h.atzb _
theorem turnL_take (l : List Int) (t : Nat) (h0 : 0 < l.length) (ht : t < l.length) : l.drop t ++ l.take t = turnL l (t : Int) := by
  apply List.ext_getElem (by simp [turnL_len]; omega)
  intro i h1 h2
  rw [turnL_len] at h2
  have e : (turnL l (t : Int))[i] = atz l ((i : Int) + (t : Int)) := by simp [turnL]
  rw [e]
  unfold atz
  by_cases c : i < l.length - t
  · rw [List.getElem_append_left (by simp; omega)]
    rw [Int.emod_eq_of_lt (by omega) (by omega), show (i : Int) + (t : Int) = ((i + t : Nat) : Int) by omega, rd_nat]
    rw [List.getElem_drop, List.getD_eq_getElem?_getD, List.getElem?_eq_getElem (by omega)]
    simp [Nat.add_comm]
  · rw [List.getElem_append_right (by simp; omega)]
    have e2 : ((i : Int) + (t : Int)) % (l.length : Int) = ((i + t - l.length : Nat) : Int) := by
      rw [← Int.sub_emod_right, Int.emod_eq_of_lt (by omega) (by omega)]; omega
    rw [e2, rd_nat]
    simp [List.getD_eq_getElem?_getD, show i + t - l.length < l.length by omega]
    congr 1
    omega
theorem turnL_zero (l : List Int) : turnL l 0 = l := by
  have e : turnL l 0 = (List.range l.length).map fun j : Nat => rd l (j : Int) := by
    unfold turnL
    refine List.map_congr_left fun j hj => ?_
    rw [Int.add_zero, atz_nat _ _ (List.mem_range.mp hj)]
  rw [e, map_get]
theorem turnL_full (l : List Int) : turnL l (l.length : Int) = l := by
  rw [← turnL_mod, Int.emod_self, turnL_zero]

/-! impl_turn -/
theorem e_impl_concat (a b : List Int) (la : a.length ≤ 1048576) (lb : b.length ≤ 1048576) : Ev (fun k => impl_Cam_int16_133.f k [a, b]) (a ++ b) := by
  have r0 : rd_L1 [a, b] 0 = a := rfl
  have r1 : rd_L1 [a, b] 1 = b := rfl
  have e2 : (([a, b] : List (List Int)).length : Int) = 2 := rfl
  unfold impl_Cam_int16_133.f
  rw [e2]
  refine evs ?_
  simp (disch := first | omega | (simp; omega)) only [impl_Cam_int16_133.l0, if_pos, if_neg, r0, r1, e2, w64, Int.zero_add]
  refine evs ?_
  simp (disch := first | omega | (simp; omega)) only [impl_Cam_int16_133.l0, if_pos, if_neg, r0, r1, e2, w64, Int.reduceAdd]
  refine evs ?_
  simp (disch := first | omega | (simp; omega)) only [impl_Cam_int16_133.l0, if_pos, if_neg, e2, w64, Int.reduceAdd, slices_Grow_of_nil.f]
  simp only [Option.bind_some]
  refine evs ?_
  simp (disch := first | omega | (simp; omega)) only [impl_Cam_int16_133.l1, if_pos, if_neg, r0, r1, e2, w64, Int.zero_add, List.nil_append, List.length_nil]
  refine evs ?_
  simp (disch := first | omega | (simp; omega)) only [impl_Cam_int16_133.l1, if_pos, if_neg, r0, r1, e2, w64, Int.reduceAdd]
  refine evs ?_
  simp (disch := first | omega | (simp; omega)) only [impl_Cam_int16_133.l1, if_pos, if_neg, e2, w64, Int.reduceAdd]
  exact evo rfl
theorem e_impl_turned (l : List Int) (h0 : 0 < l.length) (hl : l.length ≤ 1048576) (a : Int) (ha : -100000000000 ≤ a) (hb : a ≤ 100000000000) : Ev (fun k => impl_Cam_turned.f k l a) (turnL l a) := by
  unfold impl_Cam_turned.f
  have b := emod_b a (show (0 : Int) < l.length by omega)
  simp (disch := omega) only [e_impl_Cam_steps, Option.bind_some, e_impl_mod, if_pos]
  refine Ev.bind (e_impl_concat _ _ (by simp; omega) (by simp; omega)) (evo ?_)
  rw [turnL_take l _ h0 (by omega), Int.toNat_of_nonneg b.1, turnL_mod]

/-! find2 -/
theorem ev_find2 {ρ : Type} (L : Nat → Nat → Option ρ) (p : Nat → Bool) (n : Nat) (r1 : ρ) (r2 : Nat → ρ)
    (ht : ∀ j r, j < n → p j = true → Ev (fun k => L k (j + 1)) r → Ev (fun k => L k j) r) (hf : ∀ j, j < n → p j = false → Ev (fun k => L k j) (r2 j))
    (he : (∀ j, j < n → p j = true) → Ev (fun k => L k n) r1) : Ev (fun k => L k 0) (ff p r1 r2 n 0) := by
  suffices H : ∀ d j, j + d = n → (∀ i, i < j → p i = true) → Ev (fun k => L k j) (ff p r1 r2 d j) from H n 0 (by omega) (fun i hi => by omega)
  intro d
  induction d with
  | zero => intro j hj hp; obtain rfl : j = n := by omega
            exact he hp
  | succ d ih =>
    intro j hj hp
    unfold ff
    by_cases c : p j = true
    · rw [if_pos c]; exact ht j _ (by omega) c (ih (j + 1) (by omega) (fun i hi => by by_cases e : i = j; · rw [e]; exact c
                                                                                      · exact hp i (by omega)))
    · rw [if_neg c]; exact hf j (by omega) (by simpa using c)
theorem ff_map {ρ σ : Type} (f : ρ → σ) (p : Nat → Bool) (r1 : ρ) (r2 : Nat → ρ) (d j : Nat) : f (ff p r1 r2 d j) = ff p (f r1) (fun i => f (r2 i)) d j := by
  induction d generalizing j with
  | zero => rfl
  | succ d ih => unfold ff; split
                 · exact ih _
                 · rfl

/-! LeastTurn -/
/-- Whether one turn comes before another, step by step. -/
def befB (l : List Int) (x b : Int) : Bool := ff (fun i : Nat => decide (atz l ((i : Int) + x) = atz l ((i : Int) + b))) false (fun i => decide (atz l ((i : Int) + x) < atz l ((i : Int) + b))) l.length 0
def bestT (l : List Int) : Nat → Int
  | 0 => 0
  | j + 1 => if befB l ((j : Int) + 1) (bestT l j) = true then (j : Int) + 1 else bestT l j
theorem bestT_s (l : List Int) (j : Nat) : bestT l (j + 1) = if befB l ((j : Int) + 1) (bestT l j) = true then (j : Int) + 1 else bestT l j := rfl
theorem bestT_b (l : List Int) (j : Nat) : 0 ≤ bestT l j ∧ bestT l j ≤ j := by
  induction j with
  | zero => simp [bestT]
  | succ j ih => rw [bestT_s]; split <;> omega
def ltR (l : List Int) : Int × Int := if Valid l then (bestT l (l.length - 1), 0) else (0, 1)
theorem e_spec_l01Before (l : List Int) (h16 : I16 l) (hv : Valid l) (x b : Int) (hx : 0 ≤ x ∧ x ≤ 100000) (hb : 0 ≤ b ∧ b ≤ 100000) : Ev (fun k => spec_l01Before.f k l x b) (befB l x b) := by
  have h1 := hv.1
  have h2 := hv.2.1
  unfold spec_l01Before.f befB
  refine ev_find (fun k i => spec_l01Before.l0 k l x b (i : Int)) (fun i : Nat => decide (atz l ((i : Int) + x) = atz l ((i : Int) + b))) l.length false (fun i => decide (atz l ((i : Int) + x) < atz l ((i : Int) + b))) ?_ ?_ ?_
  · intro i r hi hp ih
    have hp' := of_decide_eq_true hp
    refine evs ?_
    simp (disch := omega) only [spec_l01Before.l0, if_pos, w64, e_spec_l01At l h16, Option.bind_some]
    exact ih
  · intro i hi hp
    have hp' := of_decide_eq_false hp
    refine evs ?_
    simp (disch := omega) only [spec_l01Before.l0, if_pos, w64, e_spec_l01At l h16, Option.bind_some]
    simp only [if_neg hp']
    exact evo rfl
  · refine evs ?_
    simp (disch := omega) only [spec_l01Before.l0, if_neg]
    exact evo rfl
theorem e_spec_LeastTurn (l : List Int) (h16 : I16 l) (hl : l.length ≤ 1048576) : Ev (fun k => spec_LeastTurn.f k l) (ltR l) := by
  unfold spec_LeastTurn.f ltR
  refine Ev.bind (e_spec_l01Ok l h16 hl) ?_
  by_cases hv : Valid l
  · simp only [hv, decide_true, if_true]
    have h1 := hv.1
    have h2 := hv.2.1
    have := ev_loop (fun k j => spec_LeastTurn.l0 k l (bestT l j) ((j : Int) + 1)) (l.length - 1) (bestT l (l.length - 1), (0 : Int)) ?_ ?_
    · exact this
    · intro j hj ih
      refine evs ?_
      have b := bestT_b l j
      simp (disch := omega) only [spec_LeastTurn.l0, if_pos]
      refine Ev.bind (e_spec_l01Before l h16 hv _ _ (by omega) (by omega)) ?_
      rw [w64 (by omega) (by omega)]
      rw [bestT_s] at ih
      by_cases c : befB l ((j : Int) + 1) (bestT l j) = true
      · simp only [if_pos c] at ih ⊢; exact ih
      · simp only [if_neg c] at ih ⊢; exact ih
    · refine evs ?_
      simp (disch := omega) only [spec_LeastTurn.l0, if_neg]
      exact evo rfl
  · simp only [hv, decide_false, if_false]; exact evo rfl
theorem e_cmp16 (a b : Int) : cmp_Compare_int16.f a b = some (if a < b then -1 else if a > b then 1 else 0) := by
  have e : ∀ x : Int, cmp_isNaN_int16.f x = some false := fun x => by unfold cmp_isNaN_int16.f; rw [bne_self_eq_false]
  unfold cmp_Compare_int16.f
  simp only [e, Option.bind_some, Bool.false_eq_true, if_false]
  split
  · rfl
  · split <;> rfl
def cmpV (a b : List Int) : Int := ff (fun i : Nat => decide (rd a (i : Int) = rd b (i : Int))) (0 : Int) (fun i => if rd a (i : Int) < rd b (i : Int) then -1 else 1) a.length 0
theorem e_impl_compare (a b : List Int) (e : a.length = b.length) (hl : a.length ≤ 1048576) : Ev (fun k => impl_Cam_int16_70.f k a b) (cmpV a b) := by
  unfold impl_Cam_int16_70.f cmpV
  refine ev_find (fun k i => impl_Cam_int16_70.l0 k a b a (a.length : Int) (i : Int)) (fun i : Nat => decide (rd a (i : Int) = rd b (i : Int))) a.length (0 : Int) (fun i => if rd a (i : Int) < rd b (i : Int) then -1 else 1) ?_ ?_ ?_
  · intro i r hi hp ih
    have hp' := of_decide_eq_true hp
    refine evs ?_
    simp (disch := omega) only [impl_Cam_int16_70.l0, if_pos, if_neg, w64, e_cmp16, Option.bind_some]
    try simp (disch := omega) only [if_pos, if_neg]
    exact ih
  · intro i hi hp
    have hp' := of_decide_eq_false hp
    refine evs ?_
    simp (disch := omega) only [impl_Cam_int16_70.l0, if_pos, if_neg, w64, e_cmp16, Option.bind_some]
    by_cases c : rd a (i : Int) < rd b (i : Int)
    · simp only [if_pos c]; exact evo rfl
    · simp (disch := omega) only [if_neg c, if_pos, if_neg]; exact evo rfl
  · refine evs ?_
    simp (disch := omega) only [impl_Cam_int16_70.l0, if_neg]
    exact evo rfl
theorem ff_congr {ρ : Type} (p q : Nat → Bool) (r1 : ρ) (f g : Nat → ρ) (n d j : Nat) (hj : j + d ≤ n) (hp : ∀ i, i < n → p i = q i) (hf : ∀ i, i < n → p i = false → f i = g i) : ff p r1 f d j = ff q r1 g d j := by
  induction d generalizing j with
  | zero => rfl
  | succ d ih =>
    unfold ff
    rw [← hp j (by omega)]
    by_cases c : p j = true
    · rw [if_pos c, if_pos c]; exact ih (j + 1) (by omega)
    · rw [if_neg c, if_neg c]; exact hf j (by omega) (by simpa using c)
theorem cmpV_turn (l : List Int) (x b : Int) : (decide (cmpV (turnL l x) (turnL l b) < 0)) = befB l x b := by
  unfold cmpV befB
  rw [ff_map (fun v : Int => decide (v < 0)), turnL_len]
  refine ff_congr _ _ _ _ _ l.length _ _ (by omega) (fun i hi => ?_) (fun i hi hp => ?_)
  · rw [turnL_rd _ _ _ hi, turnL_rd _ _ _ hi]
  · rw [turnL_rd _ _ _ hi, turnL_rd _ _ _ hi]
    by_cases c : atz l ((i : Int) + x) < atz l ((i : Int) + b)
    · rw [if_pos c, decide_eq_true c]; rfl
    · rw [if_neg c, decide_eq_false c]; rfl
theorem e_impl_LeastTurn (l : List Int) (h16 : I16 l) (hl : l.length ≤ 1048576) : Ev (fun k => impl_LeastTurn.f k l) (ltR l) := by
  unfold impl_LeastTurn.f ltR
  refine Ev.bind (e_impl_ValidCam l h16 hl) ?_
  by_cases hv : Valid l
  · simp only [hv, decide_true, if_true]
    have h1 := hv.1
    have h2 := hv.2.1
    have := ev_loop (fun k j => impl_LeastTurn.l0 k l (turnL l (bestT l j)) (bestT l j) ((j : Int) + 1)) (l.length - 1) (bestT l (l.length - 1), (0 : Int)) ?_ ?_
    · rw [show bestT l 0 = 0 from rfl, turnL_zero] at this; exact this
    · intro j hj ih
      refine evs ?_
      have b := bestT_b l j
      simp (disch := omega) only [impl_LeastTurn.l0, e_impl_Cam_steps, Option.bind_some, if_pos]
      refine Ev.bind (e_impl_turned l (by omega) hl _ (by omega) (by omega)) (Ev.bind (e_impl_compare _ _ (by rw [turnL_len, turnL_len]) (by rw [turnL_len]; exact hl)) ?_)
      rw [w64 (by omega) (by omega)]
      rw [bestT_s, ← cmpV_turn] at ih
      by_cases c : cmpV (turnL l ((j : Int) + 1)) (turnL l (bestT l j)) < 0
      · simp only [if_pos c, decide_eq_true c, if_true] at ih ⊢; exact ih
      · simp only [if_neg c, decide_eq_false c, Bool.false_eq_true, if_false] at ih ⊢; exact ih
    · refine evs ?_
      simp (disch := omega) only [impl_LeastTurn.l0, e_impl_Cam_steps, Option.bind_some, if_neg]
      exact evo rfl
  · simp only [hv, decide_false, if_false]; exact evo rfl

/-! laws_cam -/
theorem e_laws_toCam (l : List Int) (hl : l.length ≤ 1048576) : Ev (fun k => laws_toCam.f k l) l := by
  unfold laws_toCam.f
  simp (disch := omega) only [if_pos]
  have := ev_loop (fun k j => laws_toCam.l0 k l (l.take j ++ List.replicate (l.length - j) 0) (j : Int)) l.length l ?_ ?_
  · simpa using this
  · intro j hj ih
    refine evs ?_
    have e : ((l.take j ++ List.replicate (l.length - j) 0).length : Int) = l.length := by simp; omega
    simp (disch := omega) only [laws_toCam.l0, if_pos, e, w64]
    have e2 : (l.take j ++ List.replicate (l.length - j) 0).set ((j : Int)).toNat (rd l (j : Int)) = l.take (j + 1) ++ List.replicate (l.length - (j + 1)) 0 := by
      have e3 : l.length - j = (l.length - (j + 1)) + 1 := by omega
      rw [e3, List.replicate_succ, Int.toNat_natCast, set_app _ _ _ _ _ (by simp; omega), rd_nat, List.take_succ_eq_append_getElem hj]
      have e4 : l.getD j 0 = l[j] := by simp [List.getD_eq_getElem?_getD, hj]
      rw [e4, List.append_assoc, List.singleton_append]
    rw [e2]
    exact ih
  · refine evs ?_
    simp (disch := omega) only [laws_toCam.l0, if_neg]
    exact evo (by simp)
theorem e_laws_eqCam (l : List Int) (hl : l.length ≤ 1048576) : Ev (fun k => laws_eqCam.f k l l) true := by
  unfold laws_eqCam.f
  simp only [if_true]
  have := ev_loop (fun k j => laws_eqCam.l0 k l l (j : Int)) l.length true ?_ ?_
  · exact this
  · intro j hj ih
    refine evs ?_
    simp (disch := omega) only [laws_eqCam.l0, if_pos, if_true, w64]
    exact ih
  · refine evs ?_
    simp (disch := omega) only [laws_eqCam.l0, if_neg]
    exact evo rfl

set_option maxHeartbeats 4000000 in
theorem FnExactLeastTurn : laws_FnExactLeastTurn.Pure := by
  intro l0 _ _ w0
  have h0 := I16.of_wf w0
  refine ev_rounds ?_
  unfold laws_FnExactLeastTurn.f
  by_cases b0 : (l0.length : Int) > 1048576
  · simp only [if_pos b0]; exact evo rfl
  simp only [if_neg b0]
  have b0 : l0.length ≤ 1048576 := by omega
  have T0 := e_laws_toCam l0 b0
  have Q0 := e_laws_eqCam l0 b0
  have A := e_spec_LeastTurn l0 h0 b0
  have B := e_impl_LeastTurn l0 h0 b0
  revert A B
  generalize (ltR l0) = RR
  obtain ⟨c0, c1⟩ := RR
  intro A B
  repeat (first | exact evo rfl | (with_reducible refine Ev.bind T0 ?_) | (with_reducible refine Ev.bind Q0 ?_) | (with_reducible refine Ev.bind A ?_) | (with_reducible refine Ev.bind B ?_) | ((with_reducible refine ev_pos ?s1 ?_); (case s1 => first | rfl | omega | (dsimp only; omega))) | ((with_reducible refine ev_neg ?s1 ?_); (case s1 => first | omega | (dsimp only; omega) | (simp; done))) | (refine evs ?_; simp only [laws_FnExactLeastTurn.j0]))


end Go.Proofs.Ytmklaccobbkebab.Pure
