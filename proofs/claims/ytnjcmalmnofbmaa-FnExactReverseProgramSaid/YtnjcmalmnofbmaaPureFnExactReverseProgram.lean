/- The pure statement of the law FnExactReverseProgram: the program's function and the reference's tell the same of every input, by plain lemmas on numbers, lists and rounds; no further condition. -/
import Derived.Test.YtnjcmalmnofbmaaXFnExactReverseProgramx
import Derived.Test.YtnjcmalmnofbmaaXLib
namespace Go.Proofs.Ytnjcmalmnofbmaa.Pure
open Go.RowKit Go.Proofs.Ytnjcmalmnofbmaa.XFnExactReverseProgram Go.Proofs.Ytnjcmalmnofbmaa.XLib Go.Proofs.YtnjcmalmnofbmaaW.PrintWords Go.Proofs.YtnjcmalmnofbmaaW.PrintLast Go.Proofs.YtnjcmalmnofbmaaW.PrintMore
set_option maxRecDepth 100000
set_option linter.unusedVariables false
set_option linter.unusedSimpArgs false
/-! base_spec -/
theorem e_spec_l00In (a b c : Int) : spec_l00In.f a b c = some (decide (b ≤ a ∧ a ≤ c)) := by
  unfold spec_l00In.f
  by_cases h : b ≤ a <;> simp [h]
theorem e_spec_l01Steps (a : Int) : spec_l01Steps.f a = some (decide (8 ≤ a ∧ a ≤ 360)) := by
  unfold spec_l01Steps.f; rw [e_spec_l00In]; rfl
theorem e_spec_l01Lift (a : Int) : spec_l01Lift.f a = some (decide (0 ≤ a ∧ a ≤ 10000)) := by
  unfold spec_l01Lift.f; rw [e_spec_l00In]; rfl

/-! base_impl -/
theorem e_impl_inRange (a b c : Int) : impl_inRange.f a b c = some (decide (b ≤ a ∧ a ≤ c)) := by
  unfold impl_inRange.f
  by_cases h : b ≤ a <;> simp [h]
theorem e_impl_isSteps (a : Int) : impl_isSteps.f a = some (decide (8 ≤ a ∧ a ≤ 360)) := by
  unfold impl_isSteps.f; rw [e_impl_inRange]; rfl
theorem e_impl_isLift (a : Int) : impl_isLift.f a = some (decide (0 ≤ a ∧ a ≤ 10000)) := by
  unfold impl_isLift.f; rw [e_impl_inRange]; rfl

/-! find2 -/
theorem ev_find2 {ρ : Type} (L : Nat → Nat → Option ρ) (p : Nat → Bool) (n : Nat) (r1 : ρ) (r2 : Nat → ρ)
    (ht : ∀ j r, j < n → p j = true → Ev (fun k => L k (j + 1)) r → Ev (fun k => L k j) r) (hf : ∀ j, j < n → p j = false → Ev (fun k => L k j) (r2 j))
    (he : (∀ j, j < n → p j = true) → Ev (fun k => L k n) r1) : Ev (fun k => L k 0) (ff p r1 r2 n 0) := by
  suffices H : ∀ d j, j + d = n → (∀ i, i < j → p i = true) → Ev (fun k => L k j) (ff p r1 r2 d j) from H n 0 (by omega) (fun i hi => by omega)
  intro d
  induction d with
  | zero => intro j hj hp; obtain rfl : j = n := by omega
            exact he hp
  | succ d ih =>
    intro j hj hp
    unfold ff
    by_cases c : p j = true
    · rw [if_pos c]; exact ht j _ (by omega) c (ih (j + 1) (by omega) (fun i hi => by by_cases e : i = j; · rw [e]; exact c
                                                                                      · exact hp i (by omega)))
    · rw [if_neg c]; exact hf j (by omega) (by simpa using c)
theorem ff_map {ρ σ : Type} (f : ρ → σ) (p : Nat → Bool) (r1 : ρ) (r2 : Nat → ρ) (d j : Nat) : f (ff p r1 r2 d j) = ff p (f r1) (fun i => f (r2 i)) d j := by
  induction d generalizing j with
  | zero => rfl
  | succ d ih => unfold ff; split
                 · exact ih _
                 · rfl

/-! prog -/
def MotOK (x : S125) : Prop := (0 ≤ x.f0 ∧ x.f0 ≤ 3) ∧ 1 ≤ x.f1 ∧ (0 ≤ x.f2 ∧ x.f2 ≤ 10000)
instance (x : S125) : Decidable (MotOK x) := by unfold MotOK; infer_instance
/-- What is known of every motion that comes in. -/
def MotW (x : S125) : Prop := (-128 ≤ x.f0 ∧ x.f0 ≤ 127) ∧ (-32768 ≤ x.f1 ∧ x.f1 ≤ 32767) ∧ (-32768 ≤ x.f2 ∧ x.f2 ≤ 32767)
theorem rdMO (l : List S125) (j : Nat) (h : j < l.length) : rd_T125 l (j : Int) = l[j] := by
  unfold rd_T125; rw [Int.toNat_natCast, List.getD_eq_getElem?_getD, List.getElem?_eq_getElem h]; rfl
theorem rdMO_w (l : List S125) (hw : ∀ x ∈ l, MotW x) (j : Nat) (h : j < l.length) : MotW (rd_T125 l (j : Int)) := by
  rw [rdMO l j h]; exact hw _ (List.getElem_mem h)
def sumN (l : List S125) : Nat → Int
  | 0 => 0
  | j + 1 => sumN l j + (rd_T125 l (j : Int)).f1
theorem sumN_s (l : List S125) (j : Nat) : sumN l (j + 1) = sumN l j + (rd_T125 l (j : Int)).f1 := rfl
theorem sumN_b (l : List S125) (hw : ∀ x ∈ l, MotW x) (j : Nat) (hj : j ≤ l.length) : -32768 * (j : Int) ≤ sumN l j ∧ sumN l j ≤ 32768 * (j : Int) := by
  induction j with
  | zero => simp [sumN]
  | succ j ih =>
    have b := ih (by omega)
    have c := (rdMO_w l hw j (by omega)).2.1
    rw [sumN_s]; omega
def motsB (l : List S125) : Bool := ff (fun j : Nat => decide (MotOK (rd_T125 l (j : Int)))) true (fun _ => false) l.length 0
def progB (a : Int) (l : List S125) : Bool := if 1 ≤ (l.length : Int) ∧ (l.length : Int) ≤ 24 then (if 0 ≤ a ∧ a ≤ 10000 then (if motsB l = true then (if 8 ≤ sumN l l.length ∧ sumN l l.length ≤ 360 then ((rd_T125 l ((l.length : Int) - 1)).f2 == a) else false) else false) else false) else false
theorem progB_e {a : Int} {l : List S125} (h : progB a l = true) : (1 ≤ l.length ∧ l.length ≤ 24) ∧ (0 ≤ a ∧ a ≤ 10000) ∧ (∀ j, j < l.length → MotOK (rd_T125 l (j : Int))) ∧ (8 ≤ sumN l l.length ∧ sumN l l.length ≤ 360) ∧ (rd_T125 l ((l.length : Int) - 1)).f2 = a := by
  unfold progB at h
  by_cases c1 : 1 ≤ (l.length : Int) ∧ (l.length : Int) ≤ 24
  · rw [if_pos c1] at h
    by_cases c2 : 0 ≤ a ∧ a ≤ 10000
    · rw [if_pos c2] at h
      by_cases c3 : motsB l = true
      · rw [if_pos c3] at h
        by_cases c4 : 8 ≤ sumN l l.length ∧ sumN l l.length ≤ 360
        · rw [if_pos c4] at h
          unfold motsB at c3
          rw [ff_all] at c3
          exact ⟨by omega, c2, fun j hj => of_decide_eq_true (of_decide_eq_true c3 j hj), c4, eq_of_beq h⟩
        · rw [if_neg c4] at h; cases h
      · rw [if_neg c3] at h; cases h
    · rw [if_neg c2] at h; cases h
  · rw [if_neg c1] at h; cases h
theorem e_spec_l02Ok (a : Int) (l : List S125) (ha : -32768 ≤ a ∧ a ≤ 32767) (hw : ∀ x ∈ l, MotW x) (hl : l.length ≤ 1048576) : Ev (fun k => spec_l02Ok.f k a l) (progB a l) := by
  unfold spec_l02Ok.f progB
  simp (disch := omega) only [e_spec_l00In, e_spec_l01Lift, w64, Option.bind_some]
  by_cases c1 : 1 ≤ (l.length : Int) ∧ (l.length : Int) ≤ 24
  · simp only [decide_eq_true c1, if_pos c1, if_true]
    refine evs ?_
    by_cases c2 : 0 ≤ a ∧ a ≤ 10000
    · simp only [decide_eq_true c2, if_pos c2, spec_l02Ok.j0, Bool.not_true, Bool.false_eq_true, if_false]
      have e1 : (if motsB l = true then (if 8 ≤ sumN l l.length ∧ sumN l l.length ≤ 360 then ((rd_T125 l ((l.length : Int) - 1)).f2 == a) else false) else false) = ff (fun j : Nat => decide (MotOK (rd_T125 l (j : Int)))) (if 8 ≤ sumN l l.length ∧ sumN l l.length ≤ 360 then ((rd_T125 l ((l.length : Int) - 1)).f2 == a) else false) (fun _ => false) l.length 0 := by
        have e := ff_map (fun b : Bool => if b = true then (if 8 ≤ sumN l l.length ∧ sumN l l.length ≤ 360 then ((rd_T125 l ((l.length : Int) - 1)).f2 == a) else false) else false) (fun j : Nat => decide (MotOK (rd_T125 l (j : Int)))) true (fun _ => false) l.length 0
        exact e
      rw [e1]
      have step : ∀ (j : Nat) (r : Bool), j < l.length → (Ev (fun k => if MotOK (rd_T125 l (j : Int)) then spec_l02Ok.l0 k (l.length : Int) (sumN l (j + 1)) ((j : Int) + 1) a l else some false) r) → Ev (fun k => spec_l02Ok.l0 k (l.length : Int) (sumN l j) (j : Int) a l) r := by
        intro j r hj hk
        refine evs ?_
        obtain ⟨w0, w1, w2⟩ := rdMO_w l hw j hj
        have b := sumN_b l hw j (by omega)
        rw [sumN_s] at hk
        generalize hx : rd_T125 l (j : Int) = x at *
        simp (disch := omega) only [spec_l02Ok.l0, spec_l02Law.f, if_pos, w64, e_spec_l00In, e_spec_l01Lift, Option.bind_some, hx]
        by_cases q0 : 0 ≤ x.f0 ∧ x.f0 ≤ 3
        · simp only [decide_eq_true q0, if_true]
          by_cases q1 : x.f1 < 1
          · simp only [if_pos q1]
            simp only [if_neg (show ¬ MotOK x from fun h => by have := h.2.1; omega)] at hk
            exact hk
          · simp only [if_neg q1]
            by_cases q2 : 0 ≤ x.f2 ∧ x.f2 ≤ 10000
            · simp only [decide_eq_true q2, if_true]
              simp only [if_pos (show MotOK x from ⟨q0, by omega, q2⟩)] at hk
              exact hk
            · simp only [decide_eq_false q2, Bool.false_eq_true, if_false]
              simp only [if_neg (show ¬ MotOK x from fun h => q2 h.2.2)] at hk
              exact hk
        · simp only [decide_eq_false q0, Bool.false_eq_true, if_false]
          simp only [if_neg (show ¬ MotOK x from fun h => q0 h.1)] at hk
          exact hk
      refine ev_find (fun k j => spec_l02Ok.l0 k (l.length : Int) (sumN l j) (j : Int) a l) (fun j : Nat => decide (MotOK (rd_T125 l (j : Int)))) l.length _ (fun _ => false) ?_ ?_ ?_
      · intro j r hj hp ih
        refine step j r hj ?_
        simp only [if_pos (of_decide_eq_true hp)]; exact ih
      · intro j hj hp
        refine step j _ hj ?_
        simp only [if_neg (of_decide_eq_false hp)]; exact evo rfl
      · refine evs ?_
        simp (disch := omega) only [spec_l02Ok.l0, if_neg, e_spec_l01Steps, Option.bind_some, w64]
        by_cases c4 : 8 ≤ sumN l l.length ∧ sumN l l.length ≤ 360
        · simp (disch := omega) only [decide_eq_true c4, if_pos c4, if_true, if_pos]; exact evo rfl
        · simp only [decide_eq_false c4, if_neg c4, Bool.false_eq_true, if_false]; exact evo rfl
    · simp only [decide_eq_false c2, if_neg c2, spec_l02Ok.j0, Bool.not_false, if_true]; exact evo rfl
  · simp only [decide_eq_false c1, if_neg c1, Bool.false_eq_true, if_false]
    refine evs ?_
    simp only [spec_l02Ok.j0, if_true]; exact evo rfl
theorem e_impl_Program_steps (a : Int) (l : List S125) (hw : ∀ x ∈ l, MotW x) (hl : l.length ≤ 1048576) : Ev (fun k => impl_Program_steps.f k a l) (sumN l l.length) := by
  unfold impl_Program_steps.f
  refine ev_loop (fun k j => impl_Program_steps.l0 k (sumN l j) l (l.length : Int) (j : Int)) l.length (sumN l l.length) ?_ ?_
  · intro j hj ih
    refine evs ?_
    obtain ⟨w0, w1, w2⟩ := rdMO_w l hw j hj
    have b := sumN_b l hw j (by omega)
    simp (disch := omega) only [impl_Program_steps.l0, if_pos, w64]
    rw [sumN_s] at ih
    exact ih
  · refine evs ?_
    simp (disch := omega) only [impl_Program_steps.l0, if_neg]
    exact evo rfl
theorem e_impl_ValidProgram_c1 (x : S125) (hw : MotW x) : impl_ValidProgram_c1.f x.f0 x.f1 x.f2 = some (!decide (MotOK x)) := by
  obtain ⟨w0, w1, w2⟩ := hw
  unfold impl_ValidProgram_c1.f impl_isLaw.f
  simp (disch := omega) only [w64, e_impl_inRange, e_impl_isLift, Option.bind_some]
  by_cases q0 : 0 ≤ x.f0 ∧ x.f0 ≤ 3
  · simp only [decide_eq_true q0, if_true]
    by_cases q1 : x.f1 < 1
    · simp only [if_pos q1, decide_eq_false (show ¬ MotOK x from fun h => by have := h.2.1; omega)]; rfl
    · simp only [if_neg q1]
      by_cases q2 : 0 ≤ x.f2 ∧ x.f2 ≤ 10000
      · simp only [decide_eq_true q2, decide_eq_true (show MotOK x from ⟨q0, by omega, q2⟩)]
      · simp only [decide_eq_false q2, decide_eq_false (show ¬ MotOK x from fun h => q2 h.2.2)]
  · simp only [decide_eq_false q0, decide_eq_false (show ¬ MotOK x from fun h => q0 h.1)]; rfl
theorem e_impl_ValidProgram (a : Int) (l : List S125) (ha : -32768 ≤ a ∧ a ≤ 32767) (hw : ∀ x ∈ l, MotW x) (hl : l.length ≤ 1048576) : Ev (fun k => impl_ValidProgram.f k a l) (progB a l) := by
  unfold impl_ValidProgram.f progB
  simp (disch := omega) only [e_impl_inRange, e_impl_isLift, w64, Option.bind_some]
  by_cases c1 : 1 ≤ (l.length : Int) ∧ (l.length : Int) ≤ 24
  · simp only [decide_eq_true c1, if_pos c1, if_true]
    refine evs ?_
    by_cases c2 : 0 ≤ a ∧ a ≤ 10000
    · simp only [decide_eq_true c2, if_pos c2, impl_ValidProgram.j0, Bool.not_true, Bool.false_eq_true, if_false]
      unfold slices_ContainsFunc_at_impl_ValidProgram_c1.f slices_IndexFunc_at_impl_ValidProgram_c1.f
      have := ev_find (fun k j => slices_IndexFunc_at_impl_ValidProgram_c1.l0 k l (l.length : Int) (j : Int)) (fun j : Nat => decide (MotOK (rd_T125 l (j : Int)))) l.length (-1 : Int) (fun j => (j : Int)) ?_ ?_ ?_
      · refine Ev.bind (a := !motsB l) (Ev.bind this (evo ?_)) ?_
        · have e := ff_map (fun x : Int => decide (x ≥ 0)) (fun j : Nat => decide (MotOK (rd_T125 l (j : Int)))) (-1 : Int) (fun j => (j : Int)) l.length 0
          rw [e]
          have e2 := ff_map (fun b : Bool => !b) (fun j : Nat => decide (MotOK (rd_T125 l (j : Int)))) true (fun _ => false) l.length 0
          unfold motsB
          rw [e2]
          have e3 : (fun i : Nat => decide ((i : Int) ≥ 0)) = fun _ : Nat => !false := by
            funext i; exact decide_eq_true (show (i : Int) ≥ 0 by omega)
          rw [e3]; rfl
        · by_cases c3 : motsB l = true
          · rw [if_pos c3, c3]
            simp only [Bool.not_true, Bool.false_eq_true, if_false]
            refine Ev.bind (e_impl_Program_steps a l hw hl) ?_
            simp (disch := omega) only [e_impl_isSteps, Option.bind_some, w64]
            by_cases c4 : 8 ≤ sumN l l.length ∧ sumN l l.length ≤ 360
            · simp (disch := omega) only [decide_eq_true c4, if_pos c4, if_true, if_pos]; exact evo rfl
            · simp only [decide_eq_false c4, if_neg c4, Bool.false_eq_true, if_false]; exact evo rfl
          · rw [if_neg c3, Bool.eq_false_iff.mpr c3]
            exact evo rfl
      · intro j r hj hp ih
        refine evs ?_
        have w := rdMO_w l hw j hj
        simp (disch := omega) only [slices_IndexFunc_at_impl_ValidProgram_c1.l0, if_pos, w64, e_impl_ValidProgram_c1 _ w, Option.bind_some]
        rw [hp]
        exact ih
      · intro j hj hp
        refine evs ?_
        have w := rdMO_w l hw j hj
        simp (disch := omega) only [slices_IndexFunc_at_impl_ValidProgram_c1.l0, if_pos, w64, e_impl_ValidProgram_c1 _ w, Option.bind_some]
        rw [hp]
        exact evo rfl
      · refine evs ?_
        simp (disch := omega) only [slices_IndexFunc_at_impl_ValidProgram_c1.l0, if_neg]
        exact evo rfl
    · simp only [decide_eq_false c2, if_neg c2, impl_ValidProgram.j0, Bool.not_false, if_true]; exact evo rfl
  · simp only [decide_eq_false c1, if_neg c1, Bool.false_eq_true, if_false]
    refine evs ?_
    simp only [impl_ValidProgram.j0, if_true]; exact evo rfl

/-! laws_prog -/
def moConv (x : S176) : S125 := ⟨x.f0, x.f1, x.f2⟩
theorem rdMOIN (l : List S176) (j : Nat) (h : j < l.length) : rd_T176 l (j : Int) = l[j] := by
  unfold rd_T176; rw [Int.toNat_natCast, List.getD_eq_getElem?_getD, List.getElem?_eq_getElem h]; rfl
theorem e_laws_szProgram (a : Int) (l : List S176) (hl : l.length ≤ maxLen) : ∃ r, laws_szProgram.f a l 1048576 = some r ∧ (0 ≤ r → l.length ≤ 1048576) := by
  have hm : maxLen ≤ 9223372036854775807 := by decide
  unfold laws_szProgram.f laws_szMotionS.f
  rw [w64 (by omega) (by omega)]
  by_cases c : 1048576 - (l.length : Int) < 0
  · exact ⟨-1, by simp only [if_pos c, Option.bind_some]; rfl, fun h => by omega⟩
  · exact ⟨1048576 - (l.length : Int), by simp only [if_neg c, Option.bind_some], fun h => by omega⟩
theorem e_laws_toMotionS (l : List S176) (hl : l.length ≤ 1048576) : Ev (fun k => laws_toMotionS.f k l) (l.map moConv) := by
  unfold laws_toMotionS.f
  simp (disch := omega) only [if_pos]
  have := ev_loop (fun k j => laws_toMotionS.l0 k l ((l.map moConv).take j ++ List.replicate (l.length - j) z125) (j : Int)) l.length (l.map moConv) ?_ ?_
  · simpa using this
  · intro j hj ih
    refine evs ?_
    have er := rdMOIN l j hj
    have e : (((l.map moConv).take j ++ List.replicate (l.length - j) z125).length : Int) = l.length := by simp; omega
    have e2 : ((l.map moConv).take j ++ List.replicate (l.length - j) z125).set ((j : Int)).toNat (moConv l[j]) = (l.map moConv).take (j + 1) ++ List.replicate (l.length - (j + 1)) z125 := by
      have e3 : l.length - j = (l.length - (j + 1)) + 1 := by omega
      rw [e3, List.replicate_succ, Int.toNat_natCast, set_app _ _ _ _ _ (by simp; omega), List.take_succ_eq_append_getElem (by simpa using hj), List.append_assoc, List.singleton_append, List.getElem_map]
    simp (disch := omega) only [laws_toMotionS.l0, laws_toMotion.f, if_pos, er, w64, Option.bind_some, e]
    rw [show (⟨l[j].f0, l[j].f1, l[j].f2⟩ : S125) = moConv l[j] from rfl, e2]
    exact ih
  · refine evs ?_
    simp (disch := omega) only [laws_toMotionS.l0, if_neg]
    exact evo (by simp [List.take_of_length_le])
theorem e_laws_toProgram (a : Int) (l : List S176) (hl : l.length ≤ 1048576) : Ev (fun k => laws_toProgram.f k a l) (a, l.map moConv) := by
  unfold laws_toProgram.f
  exact Ev.bind (e_laws_toMotionS l hl) (evo rfl)
theorem e_laws_eqMotionS (l : List S125) (hl : l.length ≤ 1048576) : Ev (fun k => laws_eqMotionS.f k l l) true := by
  unfold laws_eqMotionS.f
  simp only [if_true]
  have := ev_loop (fun k j => laws_eqMotionS.l0 k l l (j : Int)) l.length true ?_ ?_
  · exact this
  · intro j hj ih
    refine evs ?_
    simp (disch := omega) only [laws_eqMotionS.l0, laws_eqMotion.f, if_pos, w64, if_true, Option.bind_some]
    exact ih
  · refine evs ?_
    simp (disch := omega) only [laws_eqMotionS.l0, if_neg]
    exact evo rfl
theorem e_laws_eqProgram (a : Int) (l : List S125) (hl : l.length ≤ 1048576) : Ev (fun k => laws_eqProgram.f k a l a l) true := by
  unfold laws_eqProgram.f
  simp only [if_true]
  exact Ev.bind (e_laws_eqMotionS l hl) (evo rfl)
theorem wf_i16p {x : Int} (h : (Lit.int .i16 x).wf = true) : -32768 ≤ x ∧ x ≤ 32767 := by simpa [Lit.wf, IntKind.min, IntKind.max, IntKind.bits, IntKind.signed] using h
theorem wf_i8p {x : Int} (h : (Lit.int .i8 x).wf = true) : -128 ≤ x ∧ x ≤ 127 := by simpa [Lit.wf, IntKind.min, IntKind.max, IntKind.bits, IntKind.signed] using h

/-! laws_markprog -/
theorem rdMO_map (f : Nat → S125) (n : Nat) (i : Int) (h0 : 0 ≤ i) (h1 : i < n) : rd_T125 ((List.range n).map f) i = f i.toNat := by
  unfold rd_T125
  have : i.toNat < n := by omega
  simp [List.getD_eq_getElem?_getD, this]
def mkM (m : Int) : S125 := ⟨IntKind.i8.wrap m, IntKind.i16.wrap (m + 1), IntKind.i16.wrap (m + 1 + 1)⟩
def markM (m : Int) (n : Nat) : List S125 := (List.range n).map fun j : Nat => mkM (m + 3 * (j : Int))
theorem markM_len (m : Int) (n : Nat) : (markM m n).length = n := by simp [markM]
theorem e_laws_markMotionS (l : List S125) (hl : l.length ≤ 1048576) (m : Int) (h0 : 0 ≤ m) (h1 : m ≤ 1000000000) : Ev (fun k => laws_markMotionS.f k l m) (m + 3 * (l.length : Int), markM m l.length) := by
  unfold laws_markMotionS.f
  have := ev_loop (fun k j => laws_markMotionS.l0 k (markM m j ++ l.drop j) (m + 3 * (j : Int)) (j : Int)) l.length (m + 3 * (l.length : Int), markM m l.length) ?_ ?_
  · simpa [markM] using this
  · intro j hj ih
    refine evs ?_
    have e : ((markM m j ++ l.drop j).length : Int) = l.length := by simp [markM_len]; omega
    have ej : ∀ x : S125, (markM m j ++ l.drop j).set j x = markM m j ++ x :: l.drop (j + 1) := by
      intro x; rw [List.drop_eq_getElem_cons hj, set_app _ _ _ _ _ (markM_len _ _)]
    have ej2 : ∀ x y : S125, (markM m j ++ x :: l.drop (j + 1)).set j y = markM m j ++ y :: l.drop (j + 1) := by
      intro x y; rw [set_app _ _ _ _ _ (markM_len _ _)]
    have er : ∀ x : S125, rd_T125 (markM m j ++ x :: l.drop (j + 1)) (j : Int) = x := by
      intro x; rw [rdMO _ _ (by simp [markM_len]), List.getElem_append_right (by rw [markM_len]; omega)]; simp [markM_len]
    simp (disch := omega) only [laws_markMotionS.l0, if_pos, e, Int.toNat_natCast, ej, er, ej2, Option.bind_some, w64]
    have e5 : markM m j ++ mkM (m + 3 * (j : Int)) :: l.drop (j + 1) = markM m (j + 1) ++ l.drop (j + 1) := by
      unfold markM; rw [map_snoc]; simp
    rw [show (⟨IntKind.i8.wrap (m + 3 * (j : Int)), IntKind.i16.wrap (m + 3 * (j : Int) + 1), IntKind.i16.wrap (m + 3 * (j : Int) + 1 + 1)⟩ : S125) = mkM (m + 3 * (j : Int)) from rfl, e5, show m + 3 * (j : Int) + 1 + 1 + 1 = m + 3 * ((j + 1 : Nat) : Int) by omega]
    exact ih
  · refine evs ?_
    have e : ((markM m l.length ++ l.drop l.length).length : Int) = l.length := by simp [markM_len]
    simp (disch := omega) only [laws_markMotionS.l0, if_neg, e]
    exact evo (by simp)
theorem e_laws_heldMotionS (n : Nat) (hl : n ≤ 1048576) (m : Int) (h0 : 0 ≤ m) (h1 : m ≤ 1000000000) : Ev (fun k => laws_heldMotionS.f k (markM m n) m) (m + 3 * (n : Int)) := by
  unfold laws_heldMotionS.f
  have e : ((markM m n).length : Int) = n := by rw [markM_len]
  have := ev_loop (fun k j => laws_heldMotionS.l0 k (markM m n) (m + 3 * (j : Int)) (j : Int)) n (m + 3 * (n : Int)) ?_ ?_
  · simpa using this
  · intro j hj ih
    refine evs ?_
    have e2 : rd_T125 (markM m n) (j : Int) = ⟨IntKind.i8.wrap (m + 3 * (j : Int)), IntKind.i16.wrap (m + 3 * (j : Int) + 1), IntKind.i16.wrap (m + 3 * (j : Int) + 1 + 1)⟩ := by
      unfold markM; rw [rdMO_map _ _ _ (by omega) (by omega)]; simp [mkM]
    simp (disch := omega) only [laws_heldMotionS.l0, if_pos, e, e2, if_true, w64]
    rw [show m + 3 * (j : Int) + 1 + 1 + 1 = m + 3 * ((j + 1 : Nat) : Int) by omega]
    exact ih
  · refine evs ?_
    simp (disch := omega) only [laws_heldMotionS.l0, if_neg, e]
    exact evo rfl
theorem e_laws_markProgram (a : Int) (l : List S125) (hl : l.length ≤ 1048576) (m : Int) (h0 : 0 ≤ m) (h1 : m ≤ 1000000000) : Ev (fun k => laws_markProgram.f k a l m) (m + 3 * (l.length : Int), markM m l.length) := by
  unfold laws_markProgram.f
  exact Ev.bind (e_laws_markMotionS l hl m h0 h1) (evo rfl)
theorem e_laws_heldProgram (a : Int) (n : Nat) (hl : n ≤ 1048576) (m : Int) (h0 : 0 ≤ m) (h1 : m ≤ 1000000000) : Ev (fun k => laws_heldProgram.f k a (markM m n) m) (m + 3 * (n : Int)) := by
  unfold laws_heldProgram.f
  exact Ev.bind (e_laws_heldMotionS n hl m h0 h1) (ev_neg (by omega) (evo rfl))

def rvR (p : Int) (l : List S125) : Int × List S125 × Int := if progB p l = true then (p, bwL l p, 0) else (0, [], 1)
theorem bwL_len (l : List S125) (p : Int) : (bwL l p).length = l.length := by unfold bwL; rw [List.length_map, bwSeq_length]
theorem rvR_len (p : Int) (l : List S125) (hl : l.length ≤ 1048576) : (rvR p l).2.1.length ≤ 1048576 := by
  unfold rvR
  split
  · dsimp only; rw [bwL_len]; exact hl
  · exact Nat.zero_le _
theorem e_spec_ReverseProgram (p : Int) (l : List S125) (hp : -32768 ≤ p ∧ p ≤ 32767) (hw : ∀ x ∈ l, MotW x) (hl : l.length ≤ 1048576) : Ev (fun k => spec_ReverseProgram.f k p l) (rvR p l) := by
  unfold spec_ReverseProgram.f rvR
  refine Ev.bind (e_spec_l02Ok p l hp hw hl) ?_
  by_cases v : progB p l = true
  · simp only [if_pos v, if_pos hl]; exact evo rfl
  · simp only [if_neg v]; exact evo rfl
theorem e_impl_ReverseProgram (p : Int) (l : List S125) (hp : -32768 ≤ p ∧ p ≤ 32767) (hw : ∀ x ∈ l, MotW x) (hl : l.length ≤ 1048576) : Ev (fun k => impl_ReverseProgram.f k p l) (rvR p l) := by
  unfold impl_ReverseProgram.f rvR
  refine Ev.bind (e_impl_ValidProgram p l hp hw hl) ?_
  by_cases v : progB p l = true
  · simp only [if_pos v, if_pos hl]; exact evo rfl
  · simp only [if_neg v]; exact evo rfl
set_option maxHeartbeats 4000000 in
theorem FnExactReverseProgram : ∀ (a0_0 : Int) (l0_1 : List (S176)), (Lit.int .i16 a0_0).wf = true → (l0_1.length ≤ maxLen ∧ ∀ x4 ∈ l0_1, ((Lit.int .i8 x4.f0).wf = true ∧ (Lit.int .i16 x4.f1).wf = true ∧ (Lit.int .i16 x4.f2).wf = true)) → ∃ k, laws_FnExactReverseProgram.f k a0_0 l0_1 = some true := by
  rintro a l va ⟨hm, w⟩
  have ha := wf_i16p va
  obtain ⟨r, hr, hb⟩ := e_laws_szProgram a l hm
  refine ev_rounds ?_
  unfold laws_FnExactReverseProgram.f
  rw [hr]
  simp only [Option.bind_some]
  by_cases c : r < 0
  · exact ev_pos c (evo rfl)
  refine ev_neg c ?_
  have hl := hb (by omega)
  have T := e_laws_toProgram a l hl
  have hW : ∀ y ∈ l.map moConv, MotW y := by
    intro y hy
    obtain ⟨x, hx, rfl⟩ := List.mem_map.1 hy
    exact ⟨wf_i8p (w x hx).1, wf_i16p (w x hx).2.1, wf_i16p (w x hx).2.2⟩
  have hl2 : (l.map moConv).length ≤ 1048576 := by rw [List.length_map]; exact hl

  have A := e_spec_ReverseProgram a (l.map moConv) ha hW hl2
  have B := e_impl_ReverseProgram a (l.map moConv) ha hW hl2
  have Q := e_laws_eqProgram a (l.map moConv) hl2
  have hr : (rvR a (l.map moConv)).2.1.length ≤ 1048576 := rvR_len a (l.map moConv) hl2
  revert A B hr
  generalize (rvR a (l.map moConv)) = RR
  obtain ⟨p, m, c⟩ := RR
  intro A B hr
  have QR := e_laws_eqProgram p m hr
  have MA := e_laws_markProgram a (l.map moConv) hl2
  have MR := e_laws_markProgram p m hr
  have HR := e_laws_heldProgram p m.length hr
  repeat (first | exact evo rfl | (with_reducible refine Ev.bind QR ?_) | ((with_reducible refine Ev.bind (MA _ ?s1 ?s2) ?_); (case s1 => omega); (case s2 => omega)) | ((with_reducible refine Ev.bind (MR 1 ?s1 ?s2) ?_); (case s1 => omega); (case s2 => omega)) | ((with_reducible refine Ev.bind (HR 1 ?s1 ?s2) ?_); (case s1 => omega); (case s2 => omega)) | (with_reducible refine Ev.bind T ?_) | (with_reducible refine Ev.bind Q ?_) | (with_reducible refine Ev.bind A ?_) | (with_reducible refine Ev.bind B ?_) | ((with_reducible refine ev_pos ?s1 ?_); (case s1 => first | rfl | trivial | omega | (dsimp only; omega))) | ((with_reducible refine ev_neg ?s1 ?_); (case s1 => first | omega | (dsimp only; omega) | (simp; done))) | (refine evs ?_; simp only [laws_FnExactReverseProgram.j0, laws_FnExactReverseProgram.j1, laws_FnExactReverseProgram.j2]))


end Go.Proofs.Ytnjcmalmnofbmaa.Pure
