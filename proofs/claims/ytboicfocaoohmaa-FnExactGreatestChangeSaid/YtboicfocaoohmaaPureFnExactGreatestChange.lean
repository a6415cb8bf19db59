/- The pure statement of the law FnExactGreatestChange: the program's function and the reference's tell the same of every input, by plain lemmas on numbers, lists and rounds; no further condition. -/
import Derived.Test.YtboicfocaoohmaaXFnExactGreatestChangex
import Derived.Test.YtboicfocaoohmaaXLib
namespace Go.Proofs.Ytboicfocaoohmaa.Pure
open Go.RowKit Go.Proofs.Ytboicfocaoohmaa.XFnExactGreatestChange Go.Proofs.Ytboicfocaoohmaa.XLib Go.Proofs.YtboicfocaoohmaaW.PrintWords Go.Proofs.YtboicfocaoohmaaW.PrintLast Go.Proofs.YtboicfocaoohmaaW.PrintMore
set_option maxRecDepth 100000
set_option linter.unusedVariables false
set_option linter.unusedSimpArgs false
/-! base_spec -/
theorem e_spec_l00In (a b c : Int) : spec_l00In.f a b c = some (decide (b ≤ a ∧ a ≤ c)) := by
  unfold spec_l00In.f
  by_cases h : b ≤ a <;> simp [h]
theorem e_spec_l01Steps (a : Int) : spec_l01Steps.f a = some (decide (8 ≤ a ∧ a ≤ 360)) := by
  unfold spec_l01Steps.f; rw [e_spec_l00In]; rfl
theorem e_spec_l01Lift (a : Int) : spec_l01Lift.f a = some (decide (0 ≤ a ∧ a ≤ 10000)) := by
  unfold spec_l01Lift.f; rw [e_spec_l00In]; rfl

/-! base_impl -/
theorem e_impl_inRange (a b c : Int) : impl_inRange.f a b c = some (decide (b ≤ a ∧ a ≤ c)) := by
  unfold impl_inRange.f
  by_cases h : b ≤ a <;> simp [h]
theorem e_impl_isSteps (a : Int) : impl_isSteps.f a = some (decide (8 ≤ a ∧ a ≤ 360)) := by
  unfold impl_isSteps.f; rw [e_impl_inRange]; rfl
theorem e_impl_isLift (a : Int) : impl_isLift.f a = some (decide (0 ≤ a ∧ a ≤ 10000)) := by
  unfold impl_isLift.f; rw [e_impl_inRange]; rfl
theorem e_impl_Cam_steps (l : List Int) : impl_Cam_steps.f l = some (l.length : Int) := rfl

/-! find2 -/
theorem ev_find2 {ρ : Type} (L : Nat → Nat → Option ρ) (p : Nat → Bool) (n : Nat) (r1 : ρ) (r2 : Nat → ρ)
    (ht : ∀ j r, j < n → p j = true → Ev (fun k => L k (j + 1)) r → Ev (fun k => L k j) r) (hf : ∀ j, j < n → p j = false → Ev (fun k => L k j) (r2 j))
    (he : (∀ j, j < n → p j = true) → Ev (fun k => L k n) r1) : Ev (fun k => L k 0) (ff p r1 r2 n 0) := by
  suffices H : ∀ d j, j + d = n → (∀ i, i < j → p i = true) → Ev (fun k => L k j) (ff p r1 r2 d j) from H n 0 (by omega) (fun i hi => by omega)
  intro d
  induction d with
  | zero => intro j hj hp; obtain rfl : j = n := by omega
            exact he hp
  | succ d ih =>
    intro j hj hp
    unfold ff
    by_cases c : p j = true
    · rw [if_pos c]; exact ht j _ (by omega) c (ih (j + 1) (by omega) (fun i hi => by by_cases e : i = j; · rw [e]; exact c
                                                                                      · exact hp i (by omega)))
    · rw [if_neg c]; exact hf j (by omega) (by simpa using c)
theorem ff_map {ρ σ : Type} (f : ρ → σ) (p : Nat → Bool) (r1 : ρ) (r2 : Nat → ρ) (d j : Nat) : f (ff p r1 r2 d j) = ff p (f r1) (fun i => f (r2 i)) d j := by
  induction d generalizing j with
  | zero => rfl
  | succ d ih => unfold ff; split
                 · exact ih _
                 · rfl

/-! prog -/
def MotOK (x : S114) : Prop := (0 ≤ x.f0 ∧ x.f0 ≤ 3) ∧ 1 ≤ x.f1 ∧ (0 ≤ x.f2 ∧ x.f2 ≤ 10000)
instance (x : S114) : Decidable (MotOK x) := by unfold MotOK; infer_instance
/-- What is known of every motion that comes in. -/
def MotW (x : S114) : Prop := (-128 ≤ x.f0 ∧ x.f0 ≤ 127) ∧ (-32768 ≤ x.f1 ∧ x.f1 ≤ 32767) ∧ (-32768 ≤ x.f2 ∧ x.f2 ≤ 32767)
theorem rdMO (l : List S114) (j : Nat) (h : j < l.length) : rd_T114 l (j : Int) = l[j] := by
  unfold rd_T114; rw [Int.toNat_natCast, List.getD_eq_getElem?_getD, List.getElem?_eq_getElem h]; rfl
theorem rdMO_w (l : List S114) (hw : ∀ x ∈ l, MotW x) (j : Nat) (h : j < l.length) : MotW (rd_T114 l (j : Int)) := by
  rw [rdMO l j h]; exact hw _ (List.getElem_mem h)
def sumN (l : List S114) : Nat → Int
  | 0 => 0
  | j + 1 => sumN l j + (rd_T114 l (j : Int)).f1
theorem sumN_s (l : List S114) (j : Nat) : sumN l (j + 1) = sumN l j + (rd_T114 l (j : Int)).f1 := rfl
theorem sumN_b (l : List S114) (hw : ∀ x ∈ l, MotW x) (j : Nat) (hj : j ≤ l.length) : -32768 * (j : Int) ≤ sumN l j ∧ sumN l j ≤ 32768 * (j : Int) := by
  induction j with
  | zero => simp [sumN]
  | succ j ih =>
    have b := ih (by omega)
    have c := (rdMO_w l hw j (by omega)).2.1
    rw [sumN_s]; omega
def motsB (l : List S114) : Bool := ff (fun j : Nat => decide (MotOK (rd_T114 l (j : Int)))) true (fun _ => false) l.length 0
def progB (a : Int) (l : List S114) : Bool := if 1 ≤ (l.length : Int) ∧ (l.length : Int) ≤ 24 then (if 0 ≤ a ∧ a ≤ 10000 then (if motsB l = true then (if 8 ≤ sumN l l.length ∧ sumN l l.length ≤ 360 then ((rd_T114 l ((l.length : Int) - 1)).f2 == a) else false) else false) else false) else false
theorem progB_e {a : Int} {l : List S114} (h : progB a l = true) : (1 ≤ l.length ∧ l.length ≤ 24) ∧ (0 ≤ a ∧ a ≤ 10000) ∧ (∀ j, j < l.length → MotOK (rd_T114 l (j : Int))) ∧ (8 ≤ sumN l l.length ∧ sumN l l.length ≤ 360) ∧ (rd_T114 l ((l.length : Int) - 1)).f2 = a := by
  unfold progB at h
  by_cases c1 : 1 ≤ (l.length : Int) ∧ (l.length : Int) ≤ 24
  · rw [if_pos c1] at h
    by_cases c2 : 0 ≤ a ∧ a ≤ 10000
    · rw [if_pos c2] at h
      by_cases c3 : motsB l = true
      · rw [if_pos c3] at h
        by_cases c4 : 8 ≤ sumN l l.length ∧ sumN l l.length ≤ 360
        · rw [if_pos c4] at h
          unfold motsB at c3
          rw [ff_all] at c3
          exact ⟨by omega, c2, fun j hj => of_decide_eq_true (of_decide_eq_true c3 j hj), c4, eq_of_beq h⟩
        · rw [if_neg c4] at h; cases h
      · rw [if_neg c3] at h; cases h
    · rw [if_neg c2] at h; cases h
  · rw [if_neg c1] at h; cases h
theorem e_spec_l02Ok (a : Int) (l : List S114) (ha : -32768 ≤ a ∧ a ≤ 32767) (hw : ∀ x ∈ l, MotW x) (hl : l.length ≤ 1048576) : Ev (fun k => spec_l02Ok.f k a l) (progB a l) := by
  unfold spec_l02Ok.f progB
  simp (disch := omega) only [e_spec_l00In, e_spec_l01Lift, w64, Option.bind_some]
  by_cases c1 : 1 ≤ (l.length : Int) ∧ (l.length : Int) ≤ 24
  · simp only [decide_eq_true c1, if_pos c1, if_true]
    refine evs ?_
    by_cases c2 : 0 ≤ a ∧ a ≤ 10000
    · simp only [decide_eq_true c2, if_pos c2, spec_l02Ok.j0, Bool.not_true, Bool.false_eq_true, if_false]
      have e1 : (if motsB l = true then (if 8 ≤ sumN l l.length ∧ sumN l l.length ≤ 360 then ((rd_T114 l ((l.length : Int) - 1)).f2 == a) else false) else false) = ff (fun j : Nat => decide (MotOK (rd_T114 l (j : Int)))) (if 8 ≤ sumN l l.length ∧ sumN l l.length ≤ 360 then ((rd_T114 l ((l.length : Int) - 1)).f2 == a) else false) (fun _ => false) l.length 0 := by
        have e := ff_map (fun b : Bool => if b = true then (if 8 ≤ sumN l l.length ∧ sumN l l.length ≤ 360 then ((rd_T114 l ((l.length : Int) - 1)).f2 == a) else false) else false) (fun j : Nat => decide (MotOK (rd_T114 l (j : Int)))) true (fun _ => false) l.length 0
        exact e
      rw [e1]
      have step : ∀ (j : Nat) (r : Bool), j < l.length → (Ev (fun k => if MotOK (rd_T114 l (j : Int)) then spec_l02Ok.l0 k (l.length : Int) (sumN l (j + 1)) ((j : Int) + 1) a l else some false) r) → Ev (fun k => spec_l02Ok.l0 k (l.length : Int) (sumN l j) (j : Int) a l) r := by
        intro j r hj hk
        refine evs ?_
        obtain ⟨w0, w1, w2⟩ := rdMO_w l hw j hj
        have b := sumN_b l hw j (by omega)
        rw [sumN_s] at hk
        generalize hx : rd_T114 l (j : Int) = x at *
        simp (disch := omega) only [spec_l02Ok.l0, spec_l02Law.f, if_pos, w64, e_spec_l00In, e_spec_l01Lift, Option.bind_some, hx]
        by_cases q0 : 0 ≤ x.f0 ∧ x.f0 ≤ 3
        · simp only [decide_eq_true q0, if_true]
          by_cases q1 : x.f1 < 1
          · simp only [if_pos q1]
            simp only [if_neg (show ¬ MotOK x from fun h => by have := h.2.1; omega)] at hk
            exact hk
          · simp only [if_neg q1]
            by_cases q2 : 0 ≤ x.f2 ∧ x.f2 ≤ 10000
            · simp only [decide_eq_true q2, if_true]
              simp only [if_pos (show MotOK x from ⟨q0, by omega, q2⟩)] at hk
              exact hk
            · simp only [decide_eq_false q2, Bool.false_eq_true, if_false]
              simp only [if_neg (show ¬ MotOK x from fun h => q2 h.2.2)] at hk
              exact hk
        · simp only [decide_eq_false q0, Bool.false_eq_true, if_false]
          simp only [if_neg (show ¬ MotOK x from fun h => q0 h.1)] at hk
          exact hk
      refine ev_find (fun k j => spec_l02Ok.l0 k (l.length : Int) (sumN l j) (j : Int) a l) (fun j : Nat => decide (MotOK (rd_T114 l (j : Int)))) l.length _ (fun _ => false) ?_ ?_ ?_
      · intro j r hj hp ih
        refine step j r hj ?_
        simp only [if_pos (of_decide_eq_true hp)]; exact ih
      · intro j hj hp
        refine step j _ hj ?_
        simp only [if_neg (of_decide_eq_false hp)]; exact evo rfl
      · refine evs ?_
        simp (disch := omega) only [spec_l02Ok.l0, if_neg, e_spec_l01Steps, Option.bind_some, w64]
        by_cases c4 : 8 ≤ sumN l l.length ∧ sumN l l.length ≤ 360
        · simp (disch := omega) only [decide_eq_true c4, if_pos c4, if_true, if_pos]; exact evo rfl
        · simp only [decide_eq_false c4, if_neg c4, Bool.false_eq_true, if_false]; exact evo rfl
    · simp only [decide_eq_false c2, if_neg c2, spec_l02Ok.j0, Bool.not_false, if_true]; exact evo rfl
  · simp only [decide_eq_false c1, if_neg c1, Bool.false_eq_true, if_false]
    refine evs ?_
    simp only [spec_l02Ok.j0, if_true]; exact evo rfl
theorem e_impl_Program_steps (a : Int) (l : List S114) (hw : ∀ x ∈ l, MotW x) (hl : l.length ≤ 1048576) : Ev (fun k => impl_Program_steps.f k a l) (sumN l l.length) := by
  unfold impl_Program_steps.f
  refine ev_loop (fun k j => impl_Program_steps.l0 k (sumN l j) l (l.length : Int) (j : Int)) l.length (sumN l l.length) ?_ ?_
  · intro j hj ih
    refine evs ?_
    obtain ⟨w0, w1, w2⟩ := rdMO_w l hw j hj
    have b := sumN_b l hw j (by omega)
    simp (disch := omega) only [impl_Program_steps.l0, if_pos, w64]
    rw [sumN_s] at ih
    exact ih
  · refine evs ?_
    simp (disch := omega) only [impl_Program_steps.l0, if_neg]
    exact evo rfl
theorem e_impl_ValidProgram_c1 (x : S114) (hw : MotW x) : impl_ValidProgram_c1.f x.f0 x.f1 x.f2 = some (!decide (MotOK x)) := by
  obtain ⟨w0, w1, w2⟩ := hw
  unfold impl_ValidProgram_c1.f impl_isLaw.f
  simp (disch := omega) only [w64, e_impl_inRange, e_impl_isLift, Option.bind_some]
  by_cases q0 : 0 ≤ x.f0 ∧ x.f0 ≤ 3
  · simp only [decide_eq_true q0, if_true]
    by_cases q1 : x.f1 < 1
    · simp only [if_pos q1, decide_eq_false (show ¬ MotOK x from fun h => by have := h.2.1; omega)]; rfl
    · simp only [if_neg q1]
      by_cases q2 : 0 ≤ x.f2 ∧ x.f2 ≤ 10000
      · simp only [decide_eq_true q2, decide_eq_true (show MotOK x from ⟨q0, by omega, q2⟩)]
      · simp only [decide_eq_false q2, decide_eq_false (show ¬ MotOK x from fun h => q2 h.2.2)]
  · simp only [decide_eq_false q0, decide_eq_false (show ¬ MotOK x from fun h => q0 h.1)]; rfl
theorem e_impl_ValidProgram (a : Int) (l : List S114) (ha : -32768 ≤ a ∧ a ≤ 32767) (hw : ∀ x ∈ l, MotW x) (hl : l.length ≤ 1048576) : Ev (fun k => impl_ValidProgram.f k a l) (progB a l) := by
  unfold impl_ValidProgram.f progB
  simp (disch := omega) only [e_impl_inRange, e_impl_isLift, w64, Option.bind_some]
  by_cases c1 : 1 ≤ (l.length : Int) ∧ (l.length : Int) ≤ 24
  · simp only [decide_eq_true c1, if_pos c1, if_true]
    refine evs ?_
    by_cases c2 : 0 ≤ a ∧ a ≤ 10000
    · simp only [decide_eq_true c2, if_pos c2, impl_ValidProgram.j0, Bool.not_true, Bool.false_eq_true, if_false]
      unfold slices_ContainsFunc_at_impl_ValidProgram_c1.f slices_IndexFunc_at_impl_ValidProgram_c1.f
      have := ev_find (fun k j => slices_IndexFunc_at_impl_ValidProgram_c1.l0 k l (l.length : Int) (j : Int)) (fun j : Nat => decide (MotOK (rd_T114 l (j : Int)))) l.length (-1 : Int) (fun j => (j : Int)) ?_ ?_ ?_
      · refine Ev.bind (a := !motsB l) (Ev.bind this (evo ?_)) ?_
        · have e := ff_map (fun x : Int => decide (x ≥ 0)) (fun j : Nat => decide (MotOK (rd_T114 l (j : Int)))) (-1 : Int) (fun j => (j : Int)) l.length 0
          rw [e]
          have e2 := ff_map (fun b : Bool => !b) (fun j : Nat => decide (MotOK (rd_T114 l (j : Int)))) true (fun _ => false) l.length 0
          unfold motsB
          rw [e2]
          have e3 : (fun i : Nat => decide ((i : Int) ≥ 0)) = fun _ : Nat => !false := by
            funext i; exact decide_eq_true (show (i : Int) ≥ 0 by omega)
          rw [e3]; rfl
        · by_cases c3 : motsB l = true
          · rw [if_pos c3, c3]
            simp only [Bool.not_true, Bool.false_eq_true, if_false]
            refine Ev.bind (e_impl_Program_steps a l hw hl) ?_
            simp (disch := omega) only [e_impl_isSteps, Option.bind_some, w64]
            by_cases c4 : 8 ≤ sumN l l.length ∧ sumN l l.length ≤ 360
            · simp (disch := omega) only [decide_eq_true c4, if_pos c4, if_true, if_pos]; exact evo rfl
            · simp only [decide_eq_false c4, if_neg c4, Bool.false_eq_true, if_false]; exact evo rfl
          · rw [if_neg c3, Bool.eq_false_iff.mpr c3]
            exact evo rfl
      · intro j r hj hp ih
        refine evs ?_
        have w := rdMO_w l hw j hj
        simp (disch := omega) only [slices_IndexFunc_at_impl_ValidProgram_c1.l0, if_pos, w64, e_impl_ValidProgram_c1 _ w, Option.bind_some]
        rw [hp]
        exact ih
      · intro j hj hp
        refine evs ?_
        have w := rdMO_w l hw j hj
        simp (disch := omega) only [slices_IndexFunc_at_impl_ValidProgram_c1.l0, if_pos, w64, e_impl_ValidProgram_c1 _ w, Option.bind_some]
        rw [hp]
        exact evo rfl
      · refine evs ?_
        simp (disch := omega) only [slices_IndexFunc_at_impl_ValidProgram_c1.l0, if_neg]
        exact evo rfl
    · simp only [decide_eq_false c2, if_neg c2, impl_ValidProgram.j0, Bool.not_false, if_true]; exact evo rfl
  · simp only [decide_eq_false c1, if_neg c1, Bool.false_eq_true, if_false]
    refine evs ?_
    simp only [impl_ValidProgram.j0, if_true]; exact evo rfl

/-! shp -/
/-- The shape of a motion: how far along, as a fraction. -/
def shp (c k n : Int) : Int × Int :=
  if c = 1 then (if 2 * k ≤ n then (2 * k * k, n * n) else (n * n - 2 * (n - k) * (n - k), n * n))
  else if c = 2 then (3 * k * k * n - 2 * k * k * k, n * n * n)
  else if c = 3 then (k * k * k * (10 * n * n - 15 * k * n + 6 * k * k), n * n * n * n * n)
  else (k, n)
theorem sq_b {a b A B : Int} (a0 : 0 ≤ a) (a1 : a ≤ A) (b0 : -B ≤ b) (b1 : b ≤ B) : -(A * B) ≤ a * b ∧ a * b ≤ A * B := by
  have hB : 0 ≤ B := by omega
  have h1 := Int.mul_le_mul_of_nonneg_left b1 a0
  have h2 := Int.mul_le_mul_of_nonneg_left b0 a0
  have h3 := Int.mul_le_mul_of_nonneg_right a1 hB
  rw [Int.mul_neg] at h2
  exact ⟨by omega, by omega⟩
theorem shp_b (c k n : Int) (hk : 0 ≤ k) (hkn : k ≤ n) (hn : 1 ≤ n) (hn2 : n ≤ 360) :
    (1 ≤ (shp c k n).2 ∧ (shp c k n).2 ≤ 6046617600000) ∧ -97977600000000 ≤ (shp c k n).1 ∧ (shp c k n).1 ≤ 97977600000000 := by
  have n1 := mul_b (show 0 ≤ n by omega) hn2 (show 0 ≤ n by omega) hn2
  have n2 := mul_b n1.1 n1.2 (show 0 ≤ n by omega) hn2
  have n3 := mul_b n2.1 n2.2 (show 0 ≤ n by omega) hn2
  have n4 := mul_b n3.1 n3.2 (show 0 ≤ n by omega) hn2
  have p1 := Int.mul_pos (show 0 < n by omega) (show 0 < n by omega)
  have p2 := Int.mul_pos p1 (show 0 < n by omega)
  have p3 := Int.mul_pos p2 (show 0 < n by omega)
  have p4 := Int.mul_pos p3 (show 0 < n by omega)
  have k1 := mul_b hk (show k ≤ 360 by omega) hk (show k ≤ 360 by omega)
  have k2 := mul_b k1.1 k1.2 hk (show k ≤ 360 by omega)
  have a1 := mul_b (show 0 ≤ 2 * k by omega) (show 2 * k ≤ 720 by omega) hk (show k ≤ 360 by omega)
  have a2 := mul_b (show 0 ≤ 2 * (n - k) by omega) (show 2 * (n - k) ≤ 720 by omega) (show 0 ≤ n - k by omega) (show n - k ≤ 360 by omega)
  have a3 := mul_b (show 0 ≤ 3 * k by omega) (show 3 * k ≤ 1080 by omega) hk (show k ≤ 360 by omega)
  have a4 := mul_b a3.1 a3.2 (show 0 ≤ n by omega) hn2
  have a5 := mul_b a1.1 a1.2 hk (show k ≤ 360 by omega)
  have a6 := mul_b (show 0 ≤ 10 * n by omega) (show 10 * n ≤ 3600 by omega) (show 0 ≤ n by omega) hn2
  have a7 := mul_b (show 0 ≤ 15 * k by omega) (show 15 * k ≤ 5400 by omega) (show 0 ≤ n by omega) hn2
  have a8 := mul_b (show 0 ≤ 6 * k by omega) (show 6 * k ≤ 2160 by omega) hk (show k ≤ 360 by omega)
  have a9 := sq_b (B := 2100000) k2.1 k2.2 (b := 10 * n * n - 15 * k * n + 6 * k * k) (by omega) (by omega)
  unfold shp
  split
  · split <;> (dsimp only; omega)
  · split
    · dsimp only; omega
    · split <;> (dsimp only; omega)

/-! shp_go -/
/-- Go's text of the shape tells the same, with no overflow. -/
theorem shp_wrapped (c k n : Int) (hk : 0 ≤ k) (hkn : k ≤ n) (hn : 1 ≤ n) (hn2 : n ≤ 360) :
    (wrap64 (2 * k) = 2 * k ∧ wrap64 (2 * k * k) = 2 * k * k ∧ wrap64 (n * n) = n * n ∧ wrap64 (n - k) = n - k ∧ wrap64 (2 * (n - k)) = 2 * (n - k) ∧ wrap64 (2 * (n - k) * (n - k)) = 2 * (n - k) * (n - k) ∧ wrap64 (n * n - 2 * (n - k) * (n - k)) = n * n - 2 * (n - k) * (n - k)) ∧
    (wrap64 (3 * k) = 3 * k ∧ wrap64 (3 * k * k) = 3 * k * k ∧ wrap64 (3 * k * k * n) = 3 * k * k * n ∧ wrap64 (2 * k * k * k) = 2 * k * k * k ∧ wrap64 (3 * k * k * n - 2 * k * k * k) = 3 * k * k * n - 2 * k * k * k ∧ wrap64 (n * n * n) = n * n * n) ∧
    (wrap64 (k * k) = k * k ∧ wrap64 (k * k * k) = k * k * k ∧ wrap64 (10 * n) = 10 * n ∧ wrap64 (10 * n * n) = 10 * n * n ∧ wrap64 (15 * k) = 15 * k ∧ wrap64 (15 * k * n) = 15 * k * n ∧ wrap64 (6 * k) = 6 * k ∧ wrap64 (6 * k * k) = 6 * k * k ∧ wrap64 (10 * n * n - 15 * k * n) = 10 * n * n - 15 * k * n ∧ wrap64 (10 * n * n - 15 * k * n + 6 * k * k) = 10 * n * n - 15 * k * n + 6 * k * k ∧ wrap64 (k * k * k * (10 * n * n - 15 * k * n + 6 * k * k)) = k * k * k * (10 * n * n - 15 * k * n + 6 * k * k) ∧ wrap64 (n * n * n * n) = n * n * n * n ∧ wrap64 (n * n * n * n * n) = n * n * n * n * n) := by
  have n1 := mul_b (show 0 ≤ n by omega) hn2 (show 0 ≤ n by omega) hn2
  have n2 := mul_b n1.1 n1.2 (show 0 ≤ n by omega) hn2
  have n3 := mul_b n2.1 n2.2 (show 0 ≤ n by omega) hn2
  have n4 := mul_b n3.1 n3.2 (show 0 ≤ n by omega) hn2
  have k1 := mul_b hk (show k ≤ 360 by omega) hk (show k ≤ 360 by omega)
  have k2 := mul_b k1.1 k1.2 hk (show k ≤ 360 by omega)
  have a1 := mul_b (show 0 ≤ 2 * k by omega) (show 2 * k ≤ 720 by omega) hk (show k ≤ 360 by omega)
  have a2 := mul_b (show 0 ≤ 2 * (n - k) by omega) (show 2 * (n - k) ≤ 720 by omega) (show 0 ≤ n - k by omega) (show n - k ≤ 360 by omega)
  have a3 := mul_b (show 0 ≤ 3 * k by omega) (show 3 * k ≤ 1080 by omega) hk (show k ≤ 360 by omega)
  have a4 := mul_b a3.1 a3.2 (show 0 ≤ n by omega) hn2
  have a5 := mul_b a1.1 a1.2 hk (show k ≤ 360 by omega)
  have a6 := mul_b (show 0 ≤ 10 * n by omega) (show 10 * n ≤ 3600 by omega) (show 0 ≤ n by omega) hn2
  have a7 := mul_b (show 0 ≤ 15 * k by omega) (show 15 * k ≤ 5400 by omega) (show 0 ≤ n by omega) hn2
  have a8 := mul_b (show 0 ≤ 6 * k by omega) (show 6 * k ≤ 2160 by omega) hk (show k ≤ 360 by omega)
  have a9 := sq_b (B := 2100000) k2.1 k2.2 (b := 10 * n * n - 15 * k * n + 6 * k * k) (by omega) (by omega)
  refine ⟨⟨?_, ?_, ?_, ?_, ?_, ?_, ?_⟩, ⟨?_, ?_, ?_, ?_, ?_, ?_⟩, ⟨?_, ?_, ?_, ?_, ?_, ?_, ?_, ?_, ?_, ?_, ?_, ?_, ?_⟩⟩ <;> exact w64 (by omega) (by omega)

/-! impl_mod -/
theorem e_impl_floorDiv (a n : Int) (h : 0 < n) (ha : -9223372036854775807 ≤ a) (hb : a ≤ 9223372036854775807) : impl_floorDiv.f a n = some (a / n) := by
  unfold impl_floorDiv.f
  have := tdiv_b a h 9223372036854775807 ha hb
  rw [if_neg (by omega), ← floor_tdiv a h]
  by_cases c : Int.tmod a n < 0
  · simp (disch := omega) only [if_pos c, w64]
  · simp (disch := omega) only [if_neg c, w64]
theorem e_impl_mod (a n : Int) (h : 0 < n) (hn : n ≤ 1048576) (ha : -1000000000000 ≤ a) (hb : a ≤ 1000000000000) : impl_mod.f a n = some (a % n) := by
  unfold impl_mod.f
  rw [e_impl_floorDiv a n h (by omega) (by omega)]
  have e := Int.emod_add_mul_ediv a n
  have b := emod_b a h
  simp (disch := omega) only [Option.bind_some, w64, mod_ediv]

/-! near -/
theorem e_spec_l01Near (a b : Int) (hb : 0 < b) (hb1 : b ≤ 1000000000000000000) (h0 : -4000000000000000000 ≤ a) (h1 : a ≤ 4000000000000000000) : spec_l01Near.f a b = some (near a b) := by
  unfold spec_l01Near.f near
  have b3 := tdiv_b (2 * a + b) (n := 2 * b) (by omega) 9200000000000000000 (by omega) (by omega)
  simp (disch := omega) only [w64]
  rw [if_neg (by omega), ← floor_tdiv _ (show 0 < 2 * b by omega)]
  split <;> rfl
theorem e_impl_nearest (a b : Int) (hb : 0 < b) (hb1 : b ≤ 1000000000000000000) (h0 : -4000000000000000000 ≤ a) (h1 : a ≤ 4000000000000000000) : impl_nearest.f a b = some (near a b) := by
  unfold impl_nearest.f near
  simp (disch := omega) only [w64, e_impl_floorDiv, Option.bind_some]

/-! spec_lift -/
def liftv (a b c k n : Int) : Int := near (a * (shp c k n).2 + (b - a) * (shp c k n).1) (shp c k n).2
theorem e_spec_l02Shape (c k n : Int) (hk : 0 ≤ k) (hkn : k ≤ n) (hn : 1 ≤ n) (hn2 : n ≤ 360) : spec_l02Shape.f c k n = some (shp c k n) := by
  obtain ⟨⟨e1, e2, e3, e4, e5, e6, e7⟩, ⟨f1, f2, f3, f4, f5, f6⟩, ⟨g1, g2, g3, g4, g5, g6, g7, g8, g9, g10, g11, g12, g13⟩⟩ := shp_wrapped c k n hk hkn hn hn2
  unfold spec_l02Shape.f shp
  simp only [e1, e2, e3, e4, e5, e6, e7, f1, f2, f3, f4, f5, f6, g1, g2, g3, g4, g5, g6, g7, g8, g9, g10, g11, g12, g13]
  split
  · split <;> rfl
  · split
    · rfl
    · split <;> rfl
theorem lift_arg_b (a b c k n : Int) (ha : 0 ≤ a ∧ a ≤ 10000) (hb : 0 ≤ b ∧ b ≤ 10000) (hk : 0 ≤ k) (hkn : k ≤ n) (hn : 1 ≤ n) (hn2 : n ≤ 360) :
    (0 ≤ a * (shp c k n).2 ∧ a * (shp c k n).2 ≤ 60466176000000000) ∧ -979776000000000000 ≤ (b - a) * (shp c k n).1 ∧ (b - a) * (shp c k n).1 ≤ 979776000000000000 := by
  have s := shp_b c k n hk hkn hn hn2
  have h1 := mul_b ha.1 ha.2 (show 0 ≤ (shp c k n).2 by omega) s.1.2
  refine ⟨⟨h1.1, by omega⟩, ?_⟩
  by_cases h : a ≤ b
  · have h2 := sq_b (A := 10000) (B := 97977600000000) (show 0 ≤ b - a by omega) (by omega) s.2.1 s.2.2
    omega
  · have h2 := sq_b (A := 10000) (B := 97977600000000) (show 0 ≤ a - b by omega) (by omega) s.2.1 s.2.2
    have e : (b - a) * (shp c k n).1 = -((a - b) * (shp c k n).1) := by rw [← Int.neg_mul]; congr 1; omega
    omega
theorem e_spec_l02Lift (a b c k n : Int) (ha : 0 ≤ a ∧ a ≤ 10000) (hb : 0 ≤ b ∧ b ≤ 10000) (hk : 0 ≤ k) (hkn : k ≤ n) (hn : 1 ≤ n) (hn2 : n ≤ 360) : spec_l02Lift.f a b c k n = some (liftv a b c k n) := by
  have s := shp_b c k n hk hkn hn hn2
  have h := lift_arg_b a b c k n ha hb hk hkn hn hn2
  unfold spec_l02Lift.f liftv
  simp only [e_spec_l02Shape c k n hk hkn hn hn2, Option.bind_some]
  simp (disch := omega) only [w64, e_spec_l01Near, Option.bind_some]

/-! impl_lift -/
theorem e_impl_shape (c k n : Int) (hc : 0 ≤ c ∧ c ≤ 3) (hk : 0 ≤ k) (hkn : k ≤ n) (hn : 1 ≤ n) (hn2 : n ≤ 360) : impl_shape.f c k n = some (shp c k n) := by
  obtain ⟨⟨e1, e2, e3, e4, e5, e6, e7⟩, ⟨f1, f2, f3, f4, f5, f6⟩, ⟨g1, g2, g3, g4, g5, g6, g7, g8, g9, g10, g11, g12, g13⟩⟩ := shp_wrapped c k n hk hkn hn hn2
  unfold impl_shape.f shp
  simp only [e1, e2, e3, e4, e5, e6, e7, f1, f2, f3, f4, f5, f6, g1, g2, g3, g4, g5, g6, g7, g8, g9, g10, g11, g12, g13]
  by_cases h1 : c = 1
  · subst h1; simp (disch := omega) only [if_neg, if_true]; split <;> rfl
  by_cases h2 : c = 2
  · subst h2; simp (disch := omega) only [if_neg, if_true]
  by_cases h3 : c = 3
  · subst h3; simp (disch := omega) only [if_neg, if_true]
  have h0 : c = 0 := by omega
  subst h0; simp (disch := omega) only [if_neg, if_true]
theorem e_impl_liftIn (a b c k n : Int) (hc : 0 ≤ c ∧ c ≤ 3) (ha : 0 ≤ a ∧ a ≤ 10000) (hb : 0 ≤ b ∧ b ≤ 10000) (hk : 0 ≤ k) (hkn : k ≤ n) (hn : 1 ≤ n) (hn2 : n ≤ 360) : impl_liftIn.f a b c k n = some (liftv a b c k n) := by
  have s := shp_b c k n hk hkn hn hn2
  have h := lift_arg_b a b c k n ha hb hk hkn hn hn2
  unfold impl_liftIn.f liftv
  simp only [e_impl_shape c k n hc hk hkn hn hn2, Option.bind_some]
  simp (disch := omega) only [w64, e_impl_nearest, Option.bind_some]

/-! profile -/
/-- What the first j motions of a program make, and the lift behind them. -/
def prof (a : Int) (l : List S114) : Nat → List Int × Int
  | 0 => ([], a)
  | j + 1 => ((prof a l j).1 ++ (List.range (rd_T114 l (j : Int)).f1.toNat).map (fun t : Nat => IntKind.i16.wrap (liftv (prof a l j).2 (rd_T114 l (j : Int)).f2 (rd_T114 l (j : Int)).f0 (t : Int) (rd_T114 l (j : Int)).f1)), (rd_T114 l (j : Int)).f2)
theorem prof_s (a : Int) (l : List S114) (j : Nat) : prof a l (j + 1) = ((prof a l j).1 ++ (List.range (rd_T114 l (j : Int)).f1.toNat).map (fun t : Nat => IntKind.i16.wrap (liftv (prof a l j).2 (rd_T114 l (j : Int)).f2 (rd_T114 l (j : Int)).f0 (t : Int) (rd_T114 l (j : Int)).f1)), (rd_T114 l (j : Int)).f2) := rfl
theorem sumN_mono (l : List S114) (h : ∀ j, j < l.length → MotOK (rd_T114 l (j : Int))) (j d : Nat) (hd : j + d ≤ l.length) : sumN l j ≤ sumN l (j + d) := by
  induction d with
  | zero => exact Int.le_refl _
  | succ d ih =>
    have a := ih (by omega)
    have b := (h (j + d) (by omega)).2.1
    rw [show j + (d + 1) = (j + d) + 1 by omega, sumN_s]
    omega
theorem prof_b {a : Int} {l : List S114} (h : progB a l = true) (j : Nat) (hj : j ≤ l.length) : (0 ≤ (prof a l j).2 ∧ (prof a l j).2 ≤ 10000) ∧ ((prof a l j).1.length : Int) = sumN l j ∧ sumN l j ≤ 360 := by
  obtain ⟨h1, h2, h3, h4, h5⟩ := progB_e h
  have m := sumN_mono l h3 j (l.length - j) (by omega)
  rw [show j + (l.length - j) = l.length by omega] at m
  refine ⟨?_, ?_, by omega⟩
  · cases j with
    | zero => exact h2
    | succ j => rw [prof_s]; exact (h3 j (by omega)).2.2
  · clear m
    induction j with
    | zero => rfl
    | succ j ih =>
      have := ih (by omega)
      have q := (h3 j (by omega)).2.1
      rw [prof_s, sumN_s, List.length_append, List.length_map, List.length_range]
      omega
theorem prof_m {a : Int} {l : List S114} (h : progB a l = true) (j : Nat) (hj : j < l.length) : MotOK (rd_T114 l (j : Int)) ∧ (rd_T114 l (j : Int)).f1 ≤ 360 ∧ sumN l j + (rd_T114 l (j : Int)).f1 ≤ 360 ∧ 0 ≤ sumN l j := by
  obtain ⟨h1, h2, h3, h4, h5⟩ := progB_e h
  have b := (prof_b h (j + 1) (by omega)).2.2
  have c := sumN_mono l h3 0 j (by omega)
  rw [Nat.zero_add] at c
  have z : sumN l 0 = 0 := rfl
  rw [sumN_s] at b
  exact ⟨h3 j hj, by omega, by omega, by omega⟩
theorem e_spec_l02Make (a : Int) (l : List S114) (h : progB a l = true) : Ev (fun k => spec_l02Make.f k a l) (prof a l l.length).1 := by
  obtain ⟨h1, h2, h3, h4, h5⟩ := progB_e h
  unfold spec_l02Make.f
  rw [w64 (by omega) (by omega)]
  refine ev_loop (fun k j => spec_l02Make.l0 k (prof a l j).1 (prof a l j).2 (j : Int) l) l.length (prof a l l.length).1 ?_ ?_
  · intro j hj ih
    refine evs ?_
    obtain ⟨⟨m0, m1, m2⟩, mb, ms, mz⟩ := prof_m h j hj
    obtain ⟨pb, pl, _⟩ := prof_b h j (by omega)
    rw [prof_s] at ih
    simp (disch := omega) only [spec_l02Make.l0, if_pos]
    generalize hm : rd_T114 l (j : Int) = m at *
    generalize hp : (prof a l j).1 = out at *
    generalize hf : (prof a l j).2 = fr at *
    have := ev_loop (fun k t => spec_l02Make.l1 k (out ++ (List.range t).map (fun t : Nat => IntKind.i16.wrap (liftv fr m.f2 m.f0 (t : Int) m.f1))) fr (j : Int) (t : Int) l) m.f1.toNat (prof a l l.length).1 ?_ ?_
    · simpa using this
    · intro t ht ih2
      refine evs ?_
      have e : (out ++ (List.range t).map (fun t : Nat => IntKind.i16.wrap (liftv fr m.f2 m.f0 (t : Int) m.f1))).length = out.length + t := by simp
      simp (disch := omega) only [spec_l02Make.l1, hm, if_pos, w64, e_spec_l02Lift, Option.bind_some, e]
      rw [List.append_assoc, ← map_snoc (fun t : Nat => IntKind.i16.wrap (liftv fr m.f2 m.f0 (t : Int) m.f1))]
      exact ih2
    · refine evs ?_
      simp (disch := omega) only [spec_l02Make.l1, hm, if_pos, if_neg, w64]
      exact ih
  · refine evs ?_
    simp (disch := omega) only [spec_l02Make.l0, if_neg]
    exact evo rfl
theorem e_impl_profile (a : Int) (l : List S114) (h : progB a l = true) : Ev (fun k => impl_Program_profile.f k a l) (prof a l l.length).1 := by
  obtain ⟨h1, h2, h3, h4, h5⟩ := progB_e h
  unfold impl_Program_profile.f
  rw [w64 (by omega) (by omega)]
  refine ev_loop (fun k j => impl_Program_profile.l0 k (prof a l j).1 (prof a l j).2 l (l.length : Int) (j : Int)) l.length (prof a l l.length).1 ?_ ?_
  · intro j hj ih
    refine evs ?_
    obtain ⟨⟨m0, m1, m2⟩, mb, ms, mz⟩ := prof_m h j hj
    obtain ⟨pb, pl, _⟩ := prof_b h j (by omega)
    rw [prof_s] at ih
    simp (disch := omega) only [impl_Program_profile.l0, if_pos, w64]
    generalize hm : rd_T114 l (j : Int) = m at *
    generalize hp : (prof a l j).1 = out at *
    generalize hf : (prof a l j).2 = fr at *
    have := ev_loop (fun k t => impl_Program_profile.l1 k (out ++ (List.range t).map (fun t : Nat => IntKind.i16.wrap (liftv fr m.f2 m.f0 (t : Int) m.f1))) fr l (l.length : Int) (j : Int) m.f1 (t : Int) m.f0 m.f1 m.f2) m.f1.toNat (prof a l l.length).1 ?_ ?_
    · simpa using this
    · intro t ht ih2
      refine evs ?_
      have e : (out ++ (List.range t).map (fun t : Nat => IntKind.i16.wrap (liftv fr m.f2 m.f0 (t : Int) m.f1))).length = out.length + t := by simp
      simp (disch := omega) only [impl_Program_profile.l1, if_pos, w64, e_impl_liftIn, Option.bind_some, e]
      rw [List.append_assoc, ← map_snoc (fun t : Nat => IntKind.i16.wrap (liftv fr m.f2 m.f0 (t : Int) m.f1))]
      exact ih2
    · refine evs ?_
      simp (disch := omega) only [impl_Program_profile.l1, if_neg, w64]
      exact ih
  · refine evs ?_
    simp (disch := omega) only [impl_Program_profile.l0, if_neg]
    exact evo rfl

/-! mx -/
theorem e_spec_l00Max' (a b : Int) : (if a > b then some a else some b) = some (mx a b) := by
  unfold mx
  by_cases h : a > b
  · rw [if_pos h, if_neg (by omega)]
  · rw [if_neg h]; by_cases h2 : a < b
    · rw [if_pos h2]
    · rw [if_neg h2, show a = b by omega]

/-! szf -/
def sz (x : Int) : Int := if x < 0 then -x else x
theorem e_size (x : Int) (h0 : -100000 ≤ x) (h1 : x ≤ 100000) : spec_l01Size.f x = some (sz x) := by
  unfold spec_l01Size.f sz
  by_cases c : x < 0
  · rw [if_pos c, if_pos c, w64 (by omega) (by omega)]
  · rw [if_neg c, if_neg c]
theorem sz_neg (x : Int) : mx x (-x) = sz x := by unfold mx sz; split <;> split <;> omega
theorem e_impl_abs2 (x : Int) (h0 : -100000 ≤ x) (h1 : x ≤ 100000) : impl_abs.f x = some (sz x) := by
  unfold impl_abs.f
  rw [w64 (by omega) (by omega), sz_neg]

/-! greatest -/
theorem sz_0 (x : Int) : 0 ≤ sz x := by unfold sz; split <;> omega
/-- The first of the greatest sizes, and that size. -/
def gm (l : List Int) : Nat → Int × Int
  | 0 => (0, -1)
  | j + 1 => if sz (rd l (j : Int)) > (gm l j).2 then ((j : Int), sz (rd l (j : Int))) else gm l j
theorem gm_s (l : List Int) (j : Nat) : gm l (j + 1) = if sz (rd l (j : Int)) > (gm l j).2 then ((j : Int), sz (rd l (j : Int))) else gm l j := rfl
theorem gm_b (l : List Int) (j : Nat) : (0 ≤ (gm l j).1 ∧ ((gm l j).1 = 0 ∨ (gm l j).1 < j)) ∧ -1 ≤ (gm l j).2 := by
  induction j with
  | zero => simp [gm]
  | succ j ih =>
    have := sz_0 (rd l (j : Int))
    rw [gm_s]
    split
    · dsimp only; omega
    · omega
def gb (l : List Int) : Nat → Int
  | 0 => 0
  | j + 1 => if sz (rd l ((j + 1 : Nat) : Int)) > sz (rd l (gb l j)) then ((j + 1 : Nat) : Int) else gb l j
theorem gb_s (l : List Int) (j : Nat) : gb l (j + 1) = if sz (rd l ((j + 1 : Nat) : Int)) > sz (rd l (gb l j)) then ((j + 1 : Nat) : Int) else gb l j := rfl
theorem gb_b (l : List Int) (j : Nat) : 0 ≤ gb l j ∧ gb l j ≤ j := by
  induction j with
  | zero => simp [gb]
  | succ j ih => rw [gb_s]; split <;> omega
theorem gm_gb (l : List Int) (j : Nat) : gm l (j + 1) = (gb l j, sz (rd l (gb l j))) := by
  induction j with
  | zero =>
    have := sz_0 (rd l ((0 : Nat) : Int))
    rw [gm_s, if_pos (by simp only [gm]; omega)]; rfl
  | succ j ih =>
    rw [gm_s, ih, gb_s]
    split <;> rfl
theorem e_impl_greatest (l : List Int) (hl : l.length ≤ 1048576) (hb : ∀ i, -100000 ≤ rd l i ∧ rd l i ≤ 100000) : Ev (fun k => impl_greatest.f k l) (gm l l.length) := by
  unfold impl_greatest.f
  have := ev_loop (fun k j => impl_greatest.l0 k (gm l j).1 (gm l j).2 l (l.length : Int) (j : Int)) l.length (gm l l.length) ?_ ?_
  · exact this
  · intro j hj ih
    refine evs ?_
    have b := hb (j : Int)
    simp (disch := omega) only [impl_greatest.l0, if_pos, e_impl_abs2, w64, Option.bind_some]
    rw [gm_s] at ih
    by_cases c : sz (rd l (j : Int)) > (gm l j).2
    · simp only [if_pos c] at ih ⊢; exact ih
    · simp only [if_neg c] at ih ⊢; exact ih
  · refine evs ?_
    simp (disch := omega) only [impl_greatest.l0, if_neg]
    exact evo rfl
theorem e_spec_l01Greatest (l : List Int) (h0 : 0 < l.length) (hl : l.length ≤ 1048576) (hb : ∀ i, -100000 ≤ rd l i ∧ rd l i ≤ 100000) : Ev (fun k => spec_l01Greatest.f k l) (gm l l.length) := by
  have e : gm l l.length = (gb l (l.length - 1), sz (rd l (gb l (l.length - 1)))) := by
    have := gm_gb l (l.length - 1)
    rw [show l.length - 1 + 1 = l.length by omega] at this; exact this
  rw [e]
  unfold spec_l01Greatest.f
  have := ev_loop (fun k j => spec_l01Greatest.l0 k l (gb l j) ((j + 1 : Nat) : Int)) (l.length - 1) (gb l (l.length - 1), sz (rd l (gb l (l.length - 1)))) ?_ ?_
  · exact this
  · intro j hj ih
    refine evs ?_
    have b := hb ((j + 1 : Nat) : Int)
    have b2 := hb (gb l j)
    have b3 := gb_b l j
    simp (disch := omega) only [spec_l01Greatest.l0, if_pos, e_size, w64, Option.bind_some]
    rw [gb_s] at ih
    by_cases c : sz (rd l ((j + 1 : Nat) : Int)) > sz (rd l (gb l j))
    · simp only [if_pos c] at ih ⊢; exact ih
    · simp only [if_neg c] at ih ⊢; exact ih
  · refine evs ?_
    have b2 := hb (gb l (l.length - 1))
    have b3 := gb_b l (l.length - 1)
    simp (disch := omega) only [spec_l01Greatest.l0, if_neg, if_pos, e_size, Option.bind_some]
    exact evo rfl

/-! spec_at -/
theorem e_spec_l01At (l : List Int) (h16 : I16 l) (h0 : 0 < l.length) (hl : l.length ≤ 1048576) (a : Int) (ha : -1000000000000 ≤ a) (hb : a ≤ 1000000000000) : spec_l01At.f l a = some (atz l a) := by
  unfold spec_l01At.f atz
  have hn : (0 : Int) < l.length := by omega
  have b := tmod_b a hn
  rw [if_neg (by omega), w64 (by omega) (by omega), two_mods a hn]
  have c := emod_b a hn
  rw [if_pos c.1, if_pos c.2]
  have := h16.rdb (a % (l.length : Int))
  rw [w64 (by omega) (by omega)]

/-! impl_at -/
theorem e_impl_Cam_at (l : List Int) (h16 : I16 l) (h0 : 0 < l.length) (hl : l.length ≤ 1048576) (a : Int) (ha : -1000000000000 ≤ a) (hb : a ≤ 1000000000000) : impl_Cam_at.f l a = some (atz l a) := by
  unfold impl_Cam_at.f atz
  have hn : (0 : Int) < l.length := by omega
  have c := emod_b a hn
  rw [e_impl_Cam_steps, Option.bind_some, e_impl_mod a _ hn (by omega) ha hb, Option.bind_some, if_pos c.1, if_pos c.2]
  have := h16.rdb (a % (l.length : Int))
  rw [w64 (by omega) (by omega)]

/-! GreatestChange -/
theorem w16c (x : Int) : -32768 ≤ IntKind.i16.wrap x ∧ IntKind.i16.wrap x ≤ 32767 := by
  unfold IntKind.wrap IntKind.bits IntKind.signed; simp; omega
theorem prof_16 (a : Int) (l : List S114) (j : Nat) : I16 (prof a l j).1 := by
  induction j with
  | zero => intro x hx; cases hx
  | succ j ih =>
    intro x hx
    rw [prof_s] at hx
    rcases List.mem_append.mp hx with h | h
    · exact ih x h
    · obtain ⟨t, _, rfl⟩ := List.mem_map.mp h
      exact w16c _
def chg (l : List Int) : List Int := (List.range l.length).map fun i : Nat => atz l ((i : Int) + 1) - atz l (i : Int)
theorem chg_len (l : List Int) : (chg l).length = l.length := by simp [chg]
theorem atz_16 {l : List Int} (h16 : I16 l) (i : Int) : -32768 ≤ atz l i ∧ atz l i ≤ 32767 := h16.rdb _
theorem chg_b (l : List Int) (h16 : I16 l) (i : Int) : -100000 ≤ rd (chg l) i ∧ rd (chg l) i ≤ 100000 := by
  by_cases c : i.toNat < l.length
  · have e : rd (chg l) i = rd (chg l) ((i.toNat : Nat) : Int) := by unfold rd; rw [Int.toNat_natCast]
    rw [e]; unfold chg; rw [rd_map _ _ _ (by omega) (by omega)]
    have a := atz_16 h16 ((i.toNat : Int) + 1)
    have b := atz_16 h16 (i.toNat : Int)
    simp only [Int.toNat_natCast]; omega
  · have : rd (chg l) i = 0 := by
      unfold rd; rw [List.getD_eq_getElem?_getD, List.getElem?_eq_none (by rw [chg_len]; omega)]; rfl
    omega
theorem e_spec_l01Changes2 (l : List Int) (h16 : I16 l) (h0 : 0 < l.length) (hl : l.length ≤ 1048576) : Ev (fun k => spec_l01Changes.f k l) (chg l) := by
  unfold spec_l01Changes.f
  have := ev_loop (fun k j => spec_l01Changes.l0 k l ((List.range j).map fun i : Nat => atz l ((i : Int) + 1) - atz l (i : Int)) (j : Int)) l.length (chg l) ?_ ?_
  · exact this
  · intro j hj ih
    refine evs ?_
    have a := atz_16 h16 ((j : Int) + 1)
    have b := atz_16 h16 (j : Int)
    have e1 : ((List.range j).map fun i : Nat => atz l ((i : Int) + 1) - atz l (i : Int)).length = j := by simp
    simp (disch := omega) only [spec_l01Changes.l0, if_pos, e_spec_l01At l h16, Option.bind_some, e1, w64]
    rw [← map_snoc (fun i : Nat => atz l ((i : Int) + 1) - atz l (i : Int))]
    exact ih
  · refine evs ?_
    simp (disch := omega) only [spec_l01Changes.l0, if_neg]
    exact evo rfl
theorem e_impl_changes2 (l : List Int) (h16 : I16 l) (h0 : 0 < l.length) (hl : l.length ≤ 1048576) : Ev (fun k => impl_Cam_numbers_at_impl_Cam_change.f k l l) (chg l) := by
  unfold impl_Cam_numbers_at_impl_Cam_change.f
  simp only [e_impl_Cam_steps, Option.bind_some]
  have := ev_loop (fun k j => impl_Cam_numbers_at_impl_Cam_change.l0 k ((List.range j).map fun i : Nat => atz l ((i : Int) + 1) - atz l (i : Int)) (l.length : Int) (j : Int) l) l.length (chg l) ?_ ?_
  · exact this
  · intro j hj ih
    refine evs ?_
    have a := atz_16 h16 ((j : Int) + 1)
    have b := atz_16 h16 (j : Int)
    have e1 : ((List.range j).map fun i : Nat => atz l ((i : Int) + 1) - atz l (i : Int)).length = j := by simp
    simp (disch := omega) only [impl_Cam_numbers_at_impl_Cam_change.l0, impl_Cam_change.f, if_pos, e_impl_Cam_at l h16, Option.bind_some, e1, w64]
    rw [← map_snoc (fun i : Nat => atz l ((i : Int) + 1) - atz l (i : Int))]
    exact ih
  · refine evs ?_
    simp (disch := omega) only [impl_Cam_numbers_at_impl_Cam_change.l0, if_neg]
    exact evo rfl
def gcR (a : Int) (l : List S114) : Int × Int := if progB a l = true then ((gm (chg (prof a l l.length).1) (prof a l l.length).1.length).2, 0) else (0, 1)
theorem prof_len8 {a : Int} {l : List S114} (h : progB a l = true) : 8 ≤ (prof a l l.length).1.length ∧ (prof a l l.length).1.length ≤ 360 := by
  have b := prof_b h l.length (Nat.le_refl _)
  have c := (progB_e h).2.2.2.1
  omega
theorem e_spec_GreatestChange (a : Int) (l : List S114) (ha : -32768 ≤ a ∧ a ≤ 32767) (hw : ∀ x ∈ l, MotW x) (hl : l.length ≤ 1048576) : Ev (fun k => spec_GreatestChange.f k a l) (gcR a l) := by
  unfold spec_GreatestChange.f gcR
  refine Ev.bind (e_spec_l02Ok a l ha hw hl) ?_
  by_cases v : progB a l = true
  · simp only [if_pos v]
    have n8 := prof_len8 v
    refine Ev.bind (e_spec_l02Make a l v) (Ev.bind (e_spec_l01Changes2 _ (prof_16 a l l.length) (by omega) (by omega)) ?_)
    have g := e_spec_l01Greatest (chg (prof a l l.length).1) (by rw [chg_len]; omega) (by rw [chg_len]; omega) (chg_b _ (prof_16 a l l.length))
    rw [chg_len] at g
    exact Ev.bind g (evo rfl)
  · simp only [if_neg v]; exact evo rfl
theorem e_impl_GreatestChange (a : Int) (l : List S114) (ha : -32768 ≤ a ∧ a ≤ 32767) (hw : ∀ x ∈ l, MotW x) (hl : l.length ≤ 1048576) : Ev (fun k => impl_GreatestChange.f k a l) (gcR a l) := by
  unfold impl_GreatestChange.f gcR
  refine Ev.bind (e_impl_ValidProgram a l ha hw hl) ?_
  by_cases v : progB a l = true
  · simp only [if_pos v]
    have n8 := prof_len8 v
    refine Ev.bind (e_impl_profile a l v) (Ev.bind (e_impl_changes2 _ (prof_16 a l l.length) (by omega) (by omega)) ?_)
    have g := e_impl_greatest (chg (prof a l l.length).1) (by rw [chg_len]; omega) (chg_b _ (prof_16 a l l.length))
    rw [chg_len] at g
    exact Ev.bind g (evo rfl)
  · simp only [if_neg v]; exact evo rfl

/-! laws_prog -/
def moConv (x : S118) : S114 := ⟨x.f0, x.f1, x.f2⟩
theorem rdMOIN (l : List S118) (j : Nat) (h : j < l.length) : rd_T118 l (j : Int) = l[j] := by
  unfold rd_T118; rw [Int.toNat_natCast, List.getD_eq_getElem?_getD, List.getElem?_eq_getElem h]; rfl
theorem e_laws_szProgram (a : Int) (l : List S118) (hl : l.length ≤ maxLen) : ∃ r, laws_szProgram.f a l 1048576 = some r ∧ (0 ≤ r → l.length ≤ 1048576) := by
  have hm : maxLen ≤ 9223372036854775807 := by decide
  unfold laws_szProgram.f laws_szMotionS.f
  rw [w64 (by omega) (by omega)]
  by_cases c : 1048576 - (l.length : Int) < 0
  · exact ⟨-1, by simp only [if_pos c, Option.bind_some]; rfl, fun h => by omega⟩
  · exact ⟨1048576 - (l.length : Int), by simp only [if_neg c, Option.bind_some], fun h => by omega⟩
theorem e_laws_toMotionS (l : List S118) (hl : l.length ≤ 1048576) : Ev (fun k => laws_toMotionS.f k l) (l.map moConv) := by
  unfold laws_toMotionS.f
  simp (disch := omega) only [if_pos]
  have := ev_loop (fun k j => laws_toMotionS.l0 k l ((l.map moConv).take j ++ List.replicate (l.length - j) z114) (j : Int)) l.length (l.map moConv) ?_ ?_
  · simpa using this
  · intro j hj ih
    refine evs ?_
    have er := rdMOIN l j hj
    have e : (((l.map moConv).take j ++ List.replicate (l.length - j) z114).length : Int) = l.length := by simp; omega
    have e2 : ((l.map moConv).take j ++ List.replicate (l.length - j) z114).set ((j : Int)).toNat (moConv l[j]) = (l.map moConv).take (j + 1) ++ List.replicate (l.length - (j + 1)) z114 := by
      have e3 : l.length - j = (l.length - (j + 1)) + 1 := by omega
      rw [e3, List.replicate_succ, Int.toNat_natCast, set_app _ _ _ _ _ (by simp; omega), List.take_succ_eq_append_getElem (by simpa using hj), List.append_assoc, List.singleton_append, List.getElem_map]
    simp (disch := omega) only [laws_toMotionS.l0, laws_toMotion.f, if_pos, er, w64, Option.bind_some, e]
    rw [show (⟨l[j].f0, l[j].f1, l[j].f2⟩ : S114) = moConv l[j] from rfl, e2]
    exact ih
  · refine evs ?_
    simp (disch := omega) only [laws_toMotionS.l0, if_neg]
    exact evo (by simp [List.take_of_length_le])
theorem e_laws_toProgram (a : Int) (l : List S118) (hl : l.length ≤ 1048576) : Ev (fun k => laws_toProgram.f k a l) (a, l.map moConv) := by
  unfold laws_toProgram.f
  exact Ev.bind (e_laws_toMotionS l hl) (evo rfl)
theorem e_laws_eqMotionS (l : List S114) (hl : l.length ≤ 1048576) : Ev (fun k => laws_eqMotionS.f k l l) true := by
  unfold laws_eqMotionS.f
  simp only [if_true]
  have := ev_loop (fun k j => laws_eqMotionS.l0 k l l (j : Int)) l.length true ?_ ?_
  · exact this
  · intro j hj ih
    refine evs ?_
    simp (disch := omega) only [laws_eqMotionS.l0, laws_eqMotion.f, if_pos, w64, if_true, Option.bind_some]
    exact ih
  · refine evs ?_
    simp (disch := omega) only [laws_eqMotionS.l0, if_neg]
    exact evo rfl
theorem e_laws_eqProgram (a : Int) (l : List S114) (hl : l.length ≤ 1048576) : Ev (fun k => laws_eqProgram.f k a l a l) true := by
  unfold laws_eqProgram.f
  simp only [if_true]
  exact Ev.bind (e_laws_eqMotionS l hl) (evo rfl)
theorem wf_i16p {x : Int} (h : (Lit.int .i16 x).wf = true) : -32768 ≤ x ∧ x ≤ 32767 := by simpa [Lit.wf, IntKind.min, IntKind.max, IntKind.bits, IntKind.signed] using h
theorem wf_i8p {x : Int} (h : (Lit.int .i8 x).wf = true) : -128 ≤ x ∧ x ≤ 127 := by simpa [Lit.wf, IntKind.min, IntKind.max, IntKind.bits, IntKind.signed] using h

set_option maxHeartbeats 4000000 in
theorem FnExactGreatestChange : ∀ (a0_0 : Int) (l0_1 : List (S118)), (Lit.int .i16 a0_0).wf = true → (l0_1.length ≤ maxLen ∧ ∀ x4 ∈ l0_1, ((Lit.int .i8 x4.f0).wf = true ∧ (Lit.int .i16 x4.f1).wf = true ∧ (Lit.int .i16 x4.f2).wf = true)) → ∃ k, laws_FnExactGreatestChange.f k a0_0 l0_1 = some true := by
  rintro a l va ⟨hm, w⟩
  have ha := wf_i16p va
  obtain ⟨r, hr, hb⟩ := e_laws_szProgram a l hm
  refine ev_rounds ?_
  unfold laws_FnExactGreatestChange.f
  rw [hr]
  simp only [Option.bind_some]
  by_cases c : r < 0
  · exact ev_pos c (evo rfl)
  refine ev_neg c ?_
  have hl := hb (by omega)
  have T := e_laws_toProgram a l hl
  have hW : ∀ y ∈ l.map moConv, MotW y := by
    intro y hy
    obtain ⟨x, hx, rfl⟩ := List.mem_map.1 hy
    exact ⟨wf_i8p (w x hx).1, wf_i16p (w x hx).2.1, wf_i16p (w x hx).2.2⟩
  have hl2 : (l.map moConv).length ≤ 1048576 := by rw [List.length_map]; exact hl

  have A := e_spec_GreatestChange a (l.map moConv) ha hW hl2
  have B := e_impl_GreatestChange a (l.map moConv) ha hW hl2
  have Q := e_laws_eqProgram a (l.map moConv) hl2
  revert A B
  generalize (gcR a (l.map moConv)) = RR
  obtain ⟨c0, c1⟩ := RR
  intro A B
  repeat (first | exact evo rfl | (with_reducible refine Ev.bind T ?_) | (with_reducible refine Ev.bind Q ?_) | (with_reducible refine Ev.bind A ?_) | (with_reducible refine Ev.bind B ?_) | ((with_reducible refine ev_pos ?s1 ?_); (case s1 => first | rfl | trivial | omega | (dsimp only; omega))) | ((with_reducible refine ev_neg ?s1 ?_); (case s1 => first | omega | (dsimp only; omega) | (simp; done))) | (refine evs ?_; simp only [laws_FnExactGreatestChange.j0]))


end Go.Proofs.Ytboicfocaoohmaa.Pure
