/- The pure statement of the law FnExactMotionAt: the program's function and the reference's tell the same of every input, by plain lemmas on numbers, lists and rounds; no further condition. -/
import Derived.Test.YtmklaccobbkebaaXFnExactMotionAtx
import Derived.Test.YtmklaccobbkebaaXLib
namespace Go.Proofs.Ytmklaccobbkebaa.Pure
open Go.RowKit Go.Proofs.Ytmklaccobbkebaa.XFnExactMotionAt Go.Proofs.Ytmklaccobbkebaa.XLib Go.Proofs.YtmklaccobbkebaaW.PrintWords Go.Proofs.YtmklaccobbkebaaW.PrintLast Go.Proofs.YtmklaccobbkebaaW.PrintMore
set_option maxRecDepth 100000
set_option linter.unusedVariables false
set_option linter.unusedSimpArgs false
/-! base_spec -/
theorem e_spec_l00In (a b c : Int) : spec_l00In.f a b c = some (decide (b ≤ a ∧ a ≤ c)) := by
  unfold spec_l00In.f
  by_cases h : b ≤ a <;> simp [h]
theorem e_spec_l01Steps (a : Int) : spec_l01Steps.f a = some (decide (8 ≤ a ∧ a ≤ 360)) := by
  unfold spec_l01Steps.f; rw [e_spec_l00In]; rfl
theorem e_spec_l01Lift (a : Int) : spec_l01Lift.f a = some (decide (0 ≤ a ∧ a ≤ 10000)) := by
  unfold spec_l01Lift.f; rw [e_spec_l00In]; rfl

/-! base_impl -/
theorem e_impl_inRange (a b c : Int) : impl_inRange.f a b c = some (decide (b ≤ a ∧ a ≤ c)) := by
  unfold impl_inRange.f
  by_cases h : b ≤ a <;> simp [h]
theorem e_impl_isSteps (a : Int) : impl_isSteps.f a = some (decide (8 ≤ a ∧ a ≤ 360)) := by
  unfold impl_isSteps.f; rw [e_impl_inRange]; rfl
theorem e_impl_isLift (a : Int) : impl_isLift.f a = some (decide (0 ≤ a ∧ a ≤ 10000)) := by
  unfold impl_isLift.f; rw [e_impl_inRange]; rfl

/-! find2 -/
theorem ev_find2 {ρ : Type} (L : Nat → Nat → Option ρ) (p : Nat → Bool) (n : Nat) (r1 : ρ) (r2 : Nat → ρ)
    (ht : ∀ j r, j < n → p j = true → Ev (fun k => L k (j + 1)) r → Ev (fun k => L k j) r) (hf : ∀ j, j < n → p j = false → Ev (fun k => L k j) (r2 j))
    (he : (∀ j, j < n → p j = true) → Ev (fun k => L k n) r1) : Ev (fun k => L k 0) (ff p r1 r2 n 0) := by
  suffices H : ∀ d j, j + d = n → (∀ i, i < j → p i = true) → Ev (fun k => L k j) (ff p r1 r2 d j) from H n 0 (by omega) (fun i hi => by omega)
  intro d
  induction d with
  | zero => intro j hj hp; obtain rfl : j = n := by omega
            exact he hp
  | succ d ih =>
    intro j hj hp
    unfold ff
    by_cases c : p j = true
    · rw [if_pos c]; exact ht j _ (by omega) c (ih (j + 1) (by omega) (fun i hi => by by_cases e : i = j; · rw [e]; exact c
                                                                                      · exact hp i (by omega)))
    · rw [if_neg c]; exact hf j (by omega) (by simpa using c)
theorem ff_map {ρ σ : Type} (f : ρ → σ) (p : Nat → Bool) (r1 : ρ) (r2 : Nat → ρ) (d j : Nat) : f (ff p r1 r2 d j) = ff p (f r1) (fun i => f (r2 i)) d j := by
  induction d generalizing j with
  | zero => rfl
  | succ d ih => unfold ff; split
                 · exact ih _
                 · rfl

/-! prog -/
def MotOK (x : S147) : Prop := (0 ≤ x.f0 ∧ x.f0 ≤ 3) ∧ 1 ≤ x.f1 ∧ (0 ≤ x.f2 ∧ x.f2 ≤ 10000)
instance (x : S147) : Decidable (MotOK x) := by unfold MotOK; infer_instance
/-- What is known of every motion that comes in. -/
def MotW (x : S147) : Prop := (-128 ≤ x.f0 ∧ x.f0 ≤ 127) ∧ (-32768 ≤ x.f1 ∧ x.f1 ≤ 32767) ∧ (-32768 ≤ x.f2 ∧ x.f2 ≤ 32767)
theorem rdMO (l : List S147) (j : Nat) (h : j < l.length) : rd_T147 l (j : Int) = l[j] := by
  unfold rd_T147; rw [Int.toNat_natCast, List.getD_eq_getElem?_getD, List.getElem?_eq_getElem h]; rfl
theorem rdMO_w (l : List S147) (hw : ∀ x ∈ l, MotW x) (j : Nat) (h : j < l.length) : MotW (rd_T147 l (j : Int)) := by
  rw [rdMO l j h]; exact hw _ (List.getElem_mem h)
def sumN (l : List S147) : Nat → Int
  | 0 => 0
  | j + 1 => sumN l j + (rd_T147 l (j : Int)).f1
theorem sumN_s (l : List S147) (j : Nat) : sumN l (j + 1) = sumN l j + (rd_T147 l (j : Int)).f1 := rfl
theorem sumN_b (l : List S147) (hw : ∀ x ∈ l, MotW x) (j : Nat) (hj : j ≤ l.length) : -32768 * (j : Int) ≤ sumN l j ∧ sumN l j ≤ 32768 * (j : Int) := by
  induction j with
  | zero => simp [sumN]
  | succ j ih =>
    have b := ih (by omega)
    have c := (rdMO_w l hw j (by omega)).2.1
    rw [sumN_s]; omega
def motsB (l : List S147) : Bool := ff (fun j : Nat => decide (MotOK (rd_T147 l (j : Int)))) true (fun _ => false) l.length 0
def progB (a : Int) (l : List S147) : Bool := if 1 ≤ (l.length : Int) ∧ (l.length : Int) ≤ 24 then (if 0 ≤ a ∧ a ≤ 10000 then (if motsB l = true then (if 8 ≤ sumN l l.length ∧ sumN l l.length ≤ 360 then ((rd_T147 l ((l.length : Int) - 1)).f2 == a) else false) else false) else false) else false
theorem progB_e {a : Int} {l : List S147} (h : progB a l = true) : (1 ≤ l.length ∧ l.length ≤ 24) ∧ (0 ≤ a ∧ a ≤ 10000) ∧ (∀ j, j < l.length → MotOK (rd_T147 l (j : Int))) ∧ (8 ≤ sumN l l.length ∧ sumN l l.length ≤ 360) ∧ (rd_T147 l ((l.length : Int) - 1)).f2 = a := by
  unfold progB at h
  by_cases c1 : 1 ≤ (l.length : Int) ∧ (l.length : Int) ≤ 24
  · rw [if_pos c1] at h
    by_cases c2 : 0 ≤ a ∧ a ≤ 10000
    · rw [if_pos c2] at h
      by_cases c3 : motsB l = true
      · rw [if_pos c3] at h
        by_cases c4 : 8 ≤ sumN l l.length ∧ sumN l l.length ≤ 360
        · rw [if_pos c4] at h
          unfold motsB at c3
          rw [ff_all] at c3
          exact ⟨by omega, c2, fun j hj => of_decide_eq_true (of_decide_eq_true c3 j hj), c4, eq_of_beq h⟩
        · rw [if_neg c4] at h; cases h
      · rw [if_neg c3] at h; cases h
    · rw [if_neg c2] at h; cases h
  · rw [if_neg c1] at h; cases h
theorem e_spec_l02Ok (a : Int) (l : List S147) (ha : -32768 ≤ a ∧ a ≤ 32767) (hw : ∀ x ∈ l, MotW x) (hl : l.length ≤ 1048576) : Ev (fun k => spec_l02Ok.f k a l) (progB a l) := by
  unfold spec_l02Ok.f progB
  simp (disch := omega) only [e_spec_l00In, e_spec_l01Lift, w64, Option.bind_some]
  by_cases c1 : 1 ≤ (l.length : Int) ∧ (l.length : Int) ≤ 24
  · simp only [decide_eq_true c1, if_pos c1, if_true]
    refine evs ?_
    by_cases c2 : 0 ≤ a ∧ a ≤ 10000
    · simp only [decide_eq_true c2, if_pos c2, spec_l02Ok.j0, Bool.not_true, Bool.false_eq_true, if_false]
      have e1 : (if motsB l = true then (if 8 ≤ sumN l l.length ∧ sumN l l.length ≤ 360 then ((rd_T147 l ((l.length : Int) - 1)).f2 == a) else false) else false) = ff (fun j : Nat => decide (MotOK (rd_T147 l (j : Int)))) (if 8 ≤ sumN l l.length ∧ sumN l l.length ≤ 360 then ((rd_T147 l ((l.length : Int) - 1)).f2 == a) else false) (fun _ => false) l.length 0 := by
        have e := ff_map (fun b : Bool => if b = true then (if 8 ≤ sumN l l.length ∧ sumN l l.length ≤ 360 then ((rd_T147 l ((l.length : Int) - 1)).f2 == a) else false) else false) (fun j : Nat => decide (MotOK (rd_T147 l (j : Int)))) true (fun _ => false) l.length 0
        exact e
      rw [e1]
      have step : ∀ (j : Nat) (r : Bool), j < l.length → (Ev (fun k => if MotOK (rd_T147 l (j : Int)) then spec_l02Ok.l0 k (l.length : Int) (sumN l (j + 1)) ((j : Int) + 1) a l else some false) r) → Ev (fun k => spec_l02Ok.l0 k (l.length : Int) (sumN l j) (j : Int) a l) r := by
        intro j r hj hk
        refine evs ?_
        obtain ⟨w0, w1, w2⟩ := rdMO_w l hw j hj
        have b := sumN_b l hw j (by omega)
        rw [sumN_s] at hk
        generalize hx : rd_T147 l (j : Int) = x at *
        simp (disch := omega) only [spec_l02Ok.l0, spec_l02Law.f, if_pos, w64, e_spec_l00In, e_spec_l01Lift, Option.bind_some, hx]
        by_cases q0 : 0 ≤ x.f0 ∧ x.f0 ≤ 3
        · simp only [decide_eq_true q0, if_true]
          by_cases q1 : x.f1 < 1
          · simp only [if_pos q1]
            simp only [if_neg (show ¬ MotOK x from fun h => by have := h.2.1; omega)] at hk
            exact hk
          · simp only [if_neg q1]
            by_cases q2 : 0 ≤ x.f2 ∧ x.f2 ≤ 10000
            · simp only [decide_eq_true q2, if_true]
              simp only [if_pos (show MotOK x from ⟨q0, by omega, q2⟩)] at hk
              exact hk
            · simp only [decide_eq_false q2, Bool.false_eq_true, if_false]
              simp only [if_neg (show ¬ MotOK x from fun h => q2 h.2.2)] at hk
              exact hk
        · simp only [decide_eq_false q0, Bool.false_eq_true, if_false]
          simp only [if_neg (show ¬ MotOK x from fun h => q0 h.1)] at hk
          exact hk
      refine ev_find (fun k j => spec_l02Ok.l0 k (l.length : Int) (sumN l j) (j : Int) a l) (fun j : Nat => decide (MotOK (rd_T147 l (j : Int)))) l.length _ (fun _ => false) ?_ ?_ ?_
      · intro j r hj hp ih
        refine step j r hj ?_
        simp only [if_pos (of_decide_eq_true hp)]; exact ih
      · intro j hj hp
        refine step j _ hj ?_
        simp only [if_neg (of_decide_eq_false hp)]; exact evo rfl
      · refine evs ?_
        simp (disch := omega) only [spec_l02Ok.l0, if_neg, e_spec_l01Steps, Option.bind_some, w64]
        by_cases c4 : 8 ≤ sumN l l.length ∧ sumN l l.length ≤ 360
        · simp (disch := omega) only [decide_eq_true c4, if_pos c4, if_true, if_pos]; exact evo rfl
        · simp only [decide_eq_false c4, if_neg c4, Bool.false_eq_true, if_false]; exact evo rfl
    · simp only [decide_eq_false c2, if_neg c2, spec_l02Ok.j0, Bool.not_false, if_true]; exact evo rfl
  · simp only [decide_eq_false c1, if_neg c1, Bool.false_eq_true, if_false]
    refine evs ?_
    simp only [spec_l02Ok.j0, if_true]; exact evo rfl
theorem e_impl_Program_steps (a : Int) (l : List S147) (hw : ∀ x ∈ l, MotW x) (hl : l.length ≤ 1048576) : Ev (fun k => impl_Program_steps.f k a l) (sumN l l.length) := by
  unfold impl_Program_steps.f
  refine ev_loop (fun k j => impl_Program_steps.l0 k (sumN l j) l (l.length : Int) (j : Int)) l.length (sumN l l.length) ?_ ?_
  · intro j hj ih
    refine evs ?_
    obtain ⟨w0, w1, w2⟩ := rdMO_w l hw j hj
    have b := sumN_b l hw j (by omega)
    simp (disch := omega) only [impl_Program_steps.l0, if_pos, w64]
    rw [sumN_s] at ih
    exact ih
  · refine evs ?_
    simp (disch := omega) only [impl_Program_steps.l0, if_neg]
    exact evo rfl
theorem e_impl_ValidProgram_c1 (x : S147) (hw : MotW x) : impl_ValidProgram_c1.f x.f0 x.f1 x.f2 = some (!decide (MotOK x)) := by
  obtain ⟨w0, w1, w2⟩ := hw
  unfold impl_ValidProgram_c1.f impl_isLaw.f
  simp (disch := omega) only [w64, e_impl_inRange, e_impl_isLift, Option.bind_some]
  by_cases q0 : 0 ≤ x.f0 ∧ x.f0 ≤ 3
  · simp only [decide_eq_true q0, if_true]
    by_cases q1 : x.f1 < 1
    · simp only [if_pos q1, decide_eq_false (show ¬ MotOK x from fun h => by have := h.2.1; omega)]; rfl
    · simp only [if_neg q1]
      by_cases q2 : 0 ≤ x.f2 ∧ x.f2 ≤ 10000
      · simp only [decide_eq_true q2, decide_eq_true (show MotOK x from ⟨q0, by omega, q2⟩)]
      · simp only [decide_eq_false q2, decide_eq_false (show ¬ MotOK x from fun h => q2 h.2.2)]
  · simp only [decide_eq_false q0, decide_eq_false (show ¬ MotOK x from fun h => q0 h.1)]; rfl
theorem e_impl_ValidProgram (a : Int) (l : List S147) (ha : -32768 ≤ a ∧ a ≤ 32767) (hw : ∀ x ∈ l, MotW x) (hl : l.length ≤ 1048576) : Ev (fun k => impl_ValidProgram.f k a l) (progB a l) := by
  unfold impl_ValidProgram.f progB
  simp (disch := omega) only [e_impl_inRange, e_impl_isLift, w64, Option.bind_some]
  by_cases c1 : 1 ≤ (l.length : Int) ∧ (l.length : Int) ≤ 24
  · simp only [decide_eq_true c1, if_pos c1, if_true]
    refine evs ?_
    by_cases c2 : 0 ≤ a ∧ a ≤ 10000
    · simp only [decide_eq_true c2, if_pos c2, impl_ValidProgram.j0, Bool.not_true, Bool.false_eq_true, if_false]
      unfold slices_ContainsFunc_at_impl_ValidProgram_c1.f slices_IndexFunc_at_impl_ValidProgram_c1.f
      have := ev_find (fun k j => slices_IndexFunc_at_impl_ValidProgram_c1.l0 k l (l.length : Int) (j : Int)) (fun j : Nat => decide (MotOK (rd_T147 l (j : Int)))) l.length (-1 : Int) (fun j => (j : Int)) ?_ ?_ ?_
      · refine Ev.bind (a := !motsB l) (Ev.bind this (evo ?_)) ?_
        · have e := ff_map (fun x : Int => decide (x ≥ 0)) (fun j : Nat => decide (MotOK (rd_T147 l (j : Int)))) (-1 : Int) (fun j => (j : Int)) l.length 0
          rw [e]
          have e2 := ff_map (fun b : Bool => !b) (fun j : Nat => decide (MotOK (rd_T147 l (j : Int)))) true (fun _ => false) l.length 0
          unfold motsB
          rw [e2]
          have e3 : (fun i : Nat => decide ((i : Int) ≥ 0)) = fun _ : Nat => !false := by
            funext i; exact decide_eq_true (show (i : Int) ≥ 0 by omega)
          rw [e3]; rfl
        · by_cases c3 : motsB l = true
          · rw [if_pos c3, c3]
            simp only [Bool.not_true, Bool.false_eq_true, if_false]
            refine Ev.bind (e_impl_Program_steps a l hw hl) ?_
            simp (disch := omega) only [e_impl_isSteps, Option.bind_some, w64]
            by_cases c4 : 8 ≤ sumN l l.length ∧ sumN l l.length ≤ 360
            · simp (disch := omega) only [decide_eq_true c4, if_pos c4, if_true, if_pos]; exact evo rfl
            · simp only [decide_eq_false c4, if_neg c4, Bool.false_eq_true, if_false]; exact evo rfl
          · rw [if_neg c3, Bool.eq_false_iff.mpr c3]
            exact evo rfl
      · intro j r hj hp ih
        refine evs ?_
        have w := rdMO_w l hw j hj
        simp (disch := omega) only [slices_IndexFunc_at_impl_ValidProgram_c1.l0, if_pos, w64, e_impl_ValidProgram_c1 _ w, Option.bind_some]
        rw [hp]
        exact ih
      · intro j hj hp
        refine evs ?_
        have w := rdMO_w l hw j hj
        simp (disch := omega) only [slices_IndexFunc_at_impl_ValidProgram_c1.l0, if_pos, w64, e_impl_ValidProgram_c1 _ w, Option.bind_some]
        rw [hp]
        exact evo rfl
      · refine evs ?_
        simp (disch := omega) only [slices_IndexFunc_at_impl_ValidProgram_c1.l0, if_neg]
        exact evo rfl
    · simp only [decide_eq_false c2, if_neg c2, impl_ValidProgram.j0, Bool.not_false, if_true]; exact evo rfl
  · simp only [decide_eq_false c1, if_neg c1, Bool.false_eq_true, if_false]
    refine evs ?_
    simp only [impl_ValidProgram.j0, if_true]; exact evo rfl

/-! spec_steps -/
theorem e_spec_l02Steps (a : Int) (l : List S147) (hw : ∀ x ∈ l, MotW x) (hl : l.length ≤ 1048576) : Ev (fun k => spec_l02Steps.f k a l) (sumN l l.length) := by
  unfold spec_l02Steps.f
  refine ev_loop (fun k j => spec_l02Steps.l0 k (sumN l j) (j : Int) l) l.length (sumN l l.length) ?_ ?_
  · intro j hj ih
    refine evs ?_
    obtain ⟨w0, w1, w2⟩ := rdMO_w l hw j hj
    have b := sumN_b l hw j (by omega)
    simp (disch := omega) only [spec_l02Steps.l0, if_pos, w64]
    rw [sumN_s] at ih
    exact ih
  · refine evs ?_
    simp (disch := omega) only [spec_l02Steps.l0, if_neg]
    exact evo rfl

/-! MotionAt -/
def maF (l : List S147) : Nat → Nat → Int → Int × Int × Int
  | 0, _, _ => (0, 0, 0)
  | d + 1, j, x => if x ≥ (rd_T147 l (j : Int)).f1 then maF l d (j + 1) (x - (rd_T147 l (j : Int)).f1) else ((j : Int), x, 0)
theorem ma_loop (l : List S147) (hw : ∀ x ∈ l, MotW x) (hl : l.length ≤ 1048576) (hp : ∀ j, j < l.length → MotOK (rd_T147 l (j : Int))) (L : Nat → Int → Int → Option (Int × Int × Int))
    (hL : ∀ k x i, L (k + 1) x i = if 0 ≤ i then (if i < (l.length : Int) then (if x ≥ wrap64 (rd_T147 l i).f1 then L k (wrap64 (x - wrap64 (rd_T147 l i).f1)) (wrap64 (i + 1)) else some (i, x, 0)) else none) else none)
    (d j : Nat) (hj : j + d = l.length) (x : Int) (h0 : 0 ≤ x) (h1 : x < sumN l l.length - sumN l j) (h2 : x ≤ 1000000) : Ev (fun k => L k x (j : Int)) (maF l d j x) := by
  induction d generalizing j x with
  | zero => obtain rfl : j = l.length := by omega
            omega
  | succ d ih =>
    refine evs ?_
    have w := (rdMO_w l hw j (by omega)).2.1
    have o := (hp j (by omega)).2.1
    simp (disch := omega) only [hL, if_pos, w64 (x := (rd_T147 l (j : Int)).f1)]
    unfold maF
    by_cases c : x ≥ (rd_T147 l (j : Int)).f1
    · simp (disch := omega) only [if_pos c, w64]
      exact ih (j + 1) (by omega) (x - (rd_T147 l (j : Int)).f1) (by omega) (by rw [sumN_s]; omega) (by omega)
    · simp only [if_neg c]; exact evo rfl
def maR (a : Int) (l : List S147) (i : Int) : Int × Int × Int := if progB a l = true then (if 0 ≤ i ∧ i ≤ sumN l l.length - 1 then maF l l.length 0 i else (0, 0, 2)) else (0, 0, 1)
theorem e_spec_MotionAt (a : Int) (l : List S147) (ha : -32768 ≤ a ∧ a ≤ 32767) (hw : ∀ x ∈ l, MotW x) (hl : l.length ≤ 1048576) (i : Int) : Ev (fun k => spec_MotionAt.f k a l i) (maR a l i) := by
  unfold spec_MotionAt.f maR
  refine Ev.bind (e_spec_l02Ok a l ha hw hl) ?_
  by_cases v : progB a l = true
  · obtain ⟨p1, p2, p3, p4, p5⟩ := progB_e v
    simp only [if_pos v]
    refine Ev.bind (e_spec_l02Steps a l hw hl) ?_
    simp (disch := omega) only [e_spec_l00In, w64, Option.bind_some]
    by_cases c : 0 ≤ i ∧ i ≤ sumN l l.length - 1
    · simp only [decide_eq_true c, if_pos c, if_true]
      exact ma_loop l hw hl p3 (fun k x i => spec_MotionAt.l0 k x i a l) (fun k x i => by simp only [spec_MotionAt.l0]) l.length 0 (by omega) i c.1 (by show i < sumN l l.length - 0; omega) (by omega)
    · simp only [decide_eq_false c, if_neg c, Bool.false_eq_true, if_false]; exact evo rfl
  · simp only [if_neg v]; exact evo rfl
theorem e_impl_MotionAt (a : Int) (l : List S147) (ha : -32768 ≤ a ∧ a ≤ 32767) (hw : ∀ x ∈ l, MotW x) (hl : l.length ≤ 1048576) (i : Int) : Ev (fun k => impl_MotionAt.f k a l i) (maR a l i) := by
  unfold impl_MotionAt.f maR
  refine Ev.bind (e_impl_ValidProgram a l ha hw hl) ?_
  by_cases v : progB a l = true
  · obtain ⟨p1, p2, p3, p4, p5⟩ := progB_e v
    simp only [if_pos v]
    refine Ev.bind (e_impl_Program_steps a l hw hl) ?_
    simp (disch := omega) only [e_impl_inRange, w64, Option.bind_some]
    by_cases c : 0 ≤ i ∧ i ≤ sumN l l.length - 1
    · simp only [decide_eq_true c, if_pos c, if_true]
      exact ma_loop l hw hl p3 (fun k x i => impl_MotionAt.l0 k x i a l) (fun k x i => by simp only [impl_MotionAt.l0]) l.length 0 (by omega) i c.1 (by show i < sumN l l.length - 0; omega) (by omega)
    · simp only [decide_eq_false c, if_neg c, Bool.false_eq_true, if_false]; exact evo rfl
  · simp only [if_neg v]; exact evo rfl

/-! laws_prog -/
def moConv (x : S176) : S147 := ⟨x.f0, x.f1, x.f2⟩
theorem rdMOIN (l : List S176) (j : Nat) (h : j < l.length) : rd_T176 l (j : Int) = l[j] := by
  unfold rd_T176; rw [Int.toNat_natCast, List.getD_eq_getElem?_getD, List.getElem?_eq_getElem h]; rfl
theorem e_laws_szProgram (a : Int) (l : List S176) (hl : l.length ≤ maxLen) : ∃ r, laws_szProgram.f a l 1048576 = some r ∧ (0 ≤ r → l.length ≤ 1048576) := by
  have hm : maxLen ≤ 9223372036854775807 := by decide
  unfold laws_szProgram.f laws_szMotionS.f
  rw [w64 (by omega) (by omega)]
  by_cases c : 1048576 - (l.length : Int) < 0
  · exact ⟨-1, by simp only [if_pos c, Option.bind_some]; rfl, fun h => by omega⟩
  · exact ⟨1048576 - (l.length : Int), by simp only [if_neg c, Option.bind_some], fun h => by omega⟩
theorem e_laws_toMotionS (l : List S176) (hl : l.length ≤ 1048576) : Ev (fun k => laws_toMotionS.f k l) (l.map moConv) := by
  unfold laws_toMotionS.f
  simp (disch := omega) only [if_pos]
  have := ev_loop (fun k j => laws_toMotionS.l0 k l ((l.map moConv).take j ++ List.replicate (l.length - j) z147) (j : Int)) l.length (l.map moConv) ?_ ?_
  · simpa using this
  · intro j hj ih
    refine evs ?_
    have er := rdMOIN l j hj
    have e : (((l.map moConv).take j ++ List.replicate (l.length - j) z147).length : Int) = l.length := by simp; omega
    have e2 : ((l.map moConv).take j ++ List.replicate (l.length - j) z147).set ((j : Int)).toNat (moConv l[j]) = (l.map moConv).take (j + 1) ++ List.replicate (l.length - (j + 1)) z147 := by
      have e3 : l.length - j = (l.length - (j + 1)) + 1 := by omega
      rw [e3, List.replicate_succ, Int.toNat_natCast, set_app _ _ _ _ _ (by simp; omega), List.take_succ_eq_append_getElem (by simpa using hj), List.append_assoc, List.singleton_append, List.getElem_map]
    simp (disch := omega) only [laws_toMotionS.l0, laws_toMotion.f, if_pos, er, w64, Option.bind_some, e]
    rw [show (⟨l[j].f0, l[j].f1, l[j].f2⟩ : S147) = moConv l[j] from rfl, e2]
    exact ih
  · refine evs ?_
    simp (disch := omega) only [laws_toMotionS.l0, if_neg]
    exact evo (by simp [List.take_of_length_le])
theorem e_laws_toProgram (a : Int) (l : List S176) (hl : l.length ≤ 1048576) : Ev (fun k => laws_toProgram.f k a l) (a, l.map moConv) := by
  unfold laws_toProgram.f
  exact Ev.bind (e_laws_toMotionS l hl) (evo rfl)
theorem e_laws_eqMotionS (l : List S147) (hl : l.length ≤ 1048576) : Ev (fun k => laws_eqMotionS.f k l l) true := by
  unfold laws_eqMotionS.f
  simp only [if_true]
  have := ev_loop (fun k j => laws_eqMotionS.l0 k l l (j : Int)) l.length true ?_ ?_
  · exact this
  · intro j hj ih
    refine evs ?_
    simp (disch := omega) only [laws_eqMotionS.l0, laws_eqMotion.f, if_pos, w64, if_true, Option.bind_some]
    exact ih
  · refine evs ?_
    simp (disch := omega) only [laws_eqMotionS.l0, if_neg]
    exact evo rfl
theorem e_laws_eqProgram (a : Int) (l : List S147) (hl : l.length ≤ 1048576) : Ev (fun k => laws_eqProgram.f k a l a l) true := by
  unfold laws_eqProgram.f
  simp only [if_true]
  exact Ev.bind (e_laws_eqMotionS l hl) (evo rfl)
theorem wf_i16p {x : Int} (h : (Lit.int .i16 x).wf = true) : -32768 ≤ x ∧ x ≤ 32767 := by simpa [Lit.wf, IntKind.min, IntKind.max, IntKind.bits, IntKind.signed] using h
theorem wf_i8p {x : Int} (h : (Lit.int .i8 x).wf = true) : -128 ≤ x ∧ x ≤ 127 := by simpa [Lit.wf, IntKind.min, IntKind.max, IntKind.bits, IntKind.signed] using h

set_option maxHeartbeats 4000000 in
theorem FnExactMotionAt : ∀ (a0_0 : Int) (l0_1 : List (S176)) (a1 : Int), (Lit.int .i16 a0_0).wf = true → (l0_1.length ≤ maxLen ∧ ∀ x4 ∈ l0_1, ((Lit.int .i8 x4.f0).wf = true ∧ (Lit.int .i16 x4.f1).wf = true ∧ (Lit.int .i16 x4.f2).wf = true)) → (Lit.int .i64 a1).wf = true → ∃ k, laws_FnExactMotionAt.f k a0_0 l0_1 a1 = some true := by
  rintro a l a1 va ⟨hm, w⟩ v0
  have ha := wf_i16p va
  obtain ⟨r, hr, hb⟩ := e_laws_szProgram a l hm
  refine ev_rounds ?_
  unfold laws_FnExactMotionAt.f
  rw [hr]
  simp only [Option.bind_some]
  by_cases c : r < 0
  · exact ev_pos c (evo rfl)
  refine ev_neg c ?_
  have hl := hb (by omega)
  have T := e_laws_toProgram a l hl
  have hW : ∀ y ∈ l.map moConv, MotW y := by
    intro y hy
    obtain ⟨x, hx, rfl⟩ := List.mem_map.1 hy
    exact ⟨wf_i8p (w x hx).1, wf_i16p (w x hx).2.1, wf_i16p (w x hx).2.2⟩
  have hl2 : (l.map moConv).length ≤ 1048576 := by rw [List.length_map]; exact hl
  have i0 := wf_i64 v0
  have A := e_spec_MotionAt a (l.map moConv) ha hW hl2 a1
  have B := e_impl_MotionAt a (l.map moConv) ha hW hl2 a1
  have Q := e_laws_eqProgram a (l.map moConv) hl2
  revert A B
  generalize (maR a (l.map moConv) a1) = RR
  obtain ⟨c0, c1, c2⟩ := RR
  intro A B
  repeat (first | exact evo rfl | (with_reducible refine Ev.bind T ?_) | (with_reducible refine Ev.bind Q ?_) | (with_reducible refine Ev.bind A ?_) | (with_reducible refine Ev.bind B ?_) | ((with_reducible refine ev_pos ?s1 ?_); (case s1 => first | rfl | trivial | omega | (dsimp only; omega))) | ((with_reducible refine ev_neg ?s1 ?_); (case s1 => first | omega | (dsimp only; omega) | (simp; done))) | (refine evs ?_; simp only [laws_FnExactMotionAt.j0]))


end Go.Proofs.Ytmklaccobbkebaa.Pure
