/- The pure statement of the law FnExactFitMotion: the program's function and the reference's tell the same of every input, by plain lemmas on numbers, lists and rounds; no further condition. -/
import Derived.Test.YtmklaccobbkebabXFnExactFitMotionx3
import Derived.Test.YtmklaccobbkebabXLib
namespace Go.Proofs.Ytmklaccobbkebab.Pure
open Go.RowKit Go.Proofs.Ytmklaccobbkebab.XFnExactFitMotion Go.Proofs.Ytmklaccobbkebab.XLib Go.Proofs.YtmklaccobbkebabW.PrintWords Go.Proofs.YtmklaccobbkebabW.PrintLast Go.Proofs.YtmklaccobbkebabW.PrintMore
set_option maxRecDepth 100000
set_option linter.unusedVariables false
set_option linter.unusedSimpArgs false
/-! base_spec -/
theorem e_spec_l00In (a b c : Int) : spec_l00In.f a b c = some (decide (b ≤ a ∧ a ≤ c)) := by
  unfold spec_l00In.f
  by_cases h : b ≤ a <;> simp [h]
theorem e_spec_l01Steps (a : Int) : spec_l01Steps.f a = some (decide (8 ≤ a ∧ a ≤ 360)) := by
  unfold spec_l01Steps.f; rw [e_spec_l00In]; rfl
theorem e_spec_l01Lift (a : Int) : spec_l01Lift.f a = some (decide (0 ≤ a ∧ a ≤ 10000)) := by
  unfold spec_l01Lift.f; rw [e_spec_l00In]; rfl
theorem e_spec_l01Ok (l : List Int) (h16 : I16 l) (hl : l.length ≤ 1048576) : Ev (fun k => spec_l01Ok.f k l) (decide (Valid l)) := by
  unfold spec_l01Ok.f
  simp only [e_spec_l01Steps, Option.bind_some]
  by_cases h : 8 ≤ (l.length : Int) ∧ (l.length : Int) ≤ 360
  · simp only [h, and_self, decide_true, if_true]
    have := ev_find (fun k j => spec_l01Ok.l0 k l (j : Int)) (fun j => decide (0 ≤ rd l (j : Int) ∧ rd l (j : Int) ≤ 10000)) l.length true (fun _ => false) ?_ ?_ ?_
    · rw [ff_all] at this
      refine eve this ?_
      apply decide_eq_decide.mpr
      unfold Valid
      constructor
      · intro hh; exact ⟨by omega, by omega, fun j hj => by simpa using hh j hj⟩
      · intro hh j hj; simpa using hh.2.2 j hj
    · intro j r hj hp ih
      refine evs ?_
      have hb := h16.rdb (j : Int)
      simp (disch := omega) only [spec_l01Ok.l0, if_pos, e_spec_l01Lift, Option.bind_some, w64]
      first | exact ih | (rw [hp]; simp only [if_true]; exact ih)
    · intro j hj hp
      refine evs ?_
      have hb := h16.rdb (j : Int)
      simp (disch := omega) only [spec_l01Ok.l0, if_pos, e_spec_l01Lift, Option.bind_some, w64]
      first | exact evo rfl | (rw [hp]; exact evo rfl)
    · refine evs ?_
      simp (disch := omega) only [spec_l01Ok.l0, if_neg]
      exact evo rfl
  · rw [decide_eq_false h]
    simp only [Bool.false_eq_true, if_false]
    exact evo (decide_eq_false (fun hv => h ⟨by have := hv.1; omega, by have := hv.2.1; omega⟩)).symm

/-! spec_at -/
theorem e_spec_l01At (l : List Int) (h16 : I16 l) (h0 : 0 < l.length) (hl : l.length ≤ 1048576) (a : Int) (ha : -1000000000000 ≤ a) (hb : a ≤ 1000000000000) : spec_l01At.f l a = some (atz l a) := by
  unfold spec_l01At.f atz
  have hn : (0 : Int) < l.length := by omega
  have b := tmod_b a hn
  rw [if_neg (by omega), w64 (by omega) (by omega), two_mods a hn]
  have c := emod_b a hn
  rw [if_pos c.1, if_pos c.2]
  have := h16.rdb (a % (l.length : Int))
  rw [w64 (by omega) (by omega)]

/-! shp -/
/-- The shape of a motion: how far along, as a fraction. -/
def shp (c k n : Int) : Int × Int :=
  if c = 1 then (if 2 * k ≤ n then (2 * k * k, n * n) else (n * n - 2 * (n - k) * (n - k), n * n))
  else if c = 2 then (3 * k * k * n - 2 * k * k * k, n * n * n)
  else if c = 3 then (k * k * k * (10 * n * n - 15 * k * n + 6 * k * k), n * n * n * n * n)
  else (k, n)
theorem sq_b {a b A B : Int} (a0 : 0 ≤ a) (a1 : a ≤ A) (b0 : -B ≤ b) (b1 : b ≤ B) : -(A * B) ≤ a * b ∧ a * b ≤ A * B := by
  have hB : 0 ≤ B := by omega
  have h1 := Int.mul_le_mul_of_nonneg_left b1 a0
  have h2 := Int.mul_le_mul_of_nonneg_left b0 a0
  have h3 := Int.mul_le_mul_of_nonneg_right a1 hB
  rw [Int.mul_neg] at h2
  exact ⟨by omega, by omega⟩
theorem shp_b (c k n : Int) (hk : 0 ≤ k) (hkn : k ≤ n) (hn : 1 ≤ n) (hn2 : n ≤ 360) :
    (1 ≤ (shp c k n).2 ∧ (shp c k n).2 ≤ 6046617600000) ∧ -97977600000000 ≤ (shp c k n).1 ∧ (shp c k n).1 ≤ 97977600000000 := by
  have n1 := mul_b (show 0 ≤ n by omega) hn2 (show 0 ≤ n by omega) hn2
  have n2 := mul_b n1.1 n1.2 (show 0 ≤ n by omega) hn2
  have n3 := mul_b n2.1 n2.2 (show 0 ≤ n by omega) hn2
  have n4 := mul_b n3.1 n3.2 (show 0 ≤ n by omega) hn2
  have p1 := Int.mul_pos (show 0 < n by omega) (show 0 < n by omega)
  have p2 := Int.mul_pos p1 (show 0 < n by omega)
  have p3 := Int.mul_pos p2 (show 0 < n by omega)
  have p4 := Int.mul_pos p3 (show 0 < n by omega)
  have k1 := mul_b hk (show k ≤ 360 by omega) hk (show k ≤ 360 by omega)
  have k2 := mul_b k1.1 k1.2 hk (show k ≤ 360 by omega)
  have a1 := mul_b (show 0 ≤ 2 * k by omega) (show 2 * k ≤ 720 by omega) hk (show k ≤ 360 by omega)
  have a2 := mul_b (show 0 ≤ 2 * (n - k) by omega) (show 2 * (n - k) ≤ 720 by omega) (show 0 ≤ n - k by omega) (show n - k ≤ 360 by omega)
  have a3 := mul_b (show 0 ≤ 3 * k by omega) (show 3 * k ≤ 1080 by omega) hk (show k ≤ 360 by omega)
  have a4 := mul_b a3.1 a3.2 (show 0 ≤ n by omega) hn2
  have a5 := mul_b a1.1 a1.2 hk (show k ≤ 360 by omega)
  have a6 := mul_b (show 0 ≤ 10 * n by omega) (show 10 * n ≤ 3600 by omega) (show 0 ≤ n by omega) hn2
  have a7 := mul_b (show 0 ≤ 15 * k by omega) (show 15 * k ≤ 5400 by omega) (show 0 ≤ n by omega) hn2
  have a8 := mul_b (show 0 ≤ 6 * k by omega) (show 6 * k ≤ 2160 by omega) hk (show k ≤ 360 by omega)
  have a9 := sq_b (B := 2100000) k2.1 k2.2 (b := 10 * n * n - 15 * k * n + 6 * k * k) (by omega) (by omega)
  unfold shp
  split
  · split <;> (dsimp only; omega)
  · split
    · dsimp only; omega
    · split <;> (dsimp only; omega)

/-! shp_go -/
/-- Go's text of the shape tells the same, with no overflow. -/
theorem shp_wrapped (c k n : Int) (hk : 0 ≤ k) (hkn : k ≤ n) (hn : 1 ≤ n) (hn2 : n ≤ 360) :
    (wrap64 (2 * k) = 2 * k ∧ wrap64 (2 * k * k) = 2 * k * k ∧ wrap64 (n * n) = n * n ∧ wrap64 (n - k) = n - k ∧ wrap64 (2 * (n - k)) = 2 * (n - k) ∧ wrap64 (2 * (n - k) * (n - k)) = 2 * (n - k) * (n - k) ∧ wrap64 (n * n - 2 * (n - k) * (n - k)) = n * n - 2 * (n - k) * (n - k)) ∧
    (wrap64 (3 * k) = 3 * k ∧ wrap64 (3 * k * k) = 3 * k * k ∧ wrap64 (3 * k * k * n) = 3 * k * k * n ∧ wrap64 (2 * k * k * k) = 2 * k * k * k ∧ wrap64 (3 * k * k * n - 2 * k * k * k) = 3 * k * k * n - 2 * k * k * k ∧ wrap64 (n * n * n) = n * n * n) ∧
    (wrap64 (k * k) = k * k ∧ wrap64 (k * k * k) = k * k * k ∧ wrap64 (10 * n) = 10 * n ∧ wrap64 (10 * n * n) = 10 * n * n ∧ wrap64 (15 * k) = 15 * k ∧ wrap64 (15 * k * n) = 15 * k * n ∧ wrap64 (6 * k) = 6 * k ∧ wrap64 (6 * k * k) = 6 * k * k ∧ wrap64 (10 * n * n - 15 * k * n) = 10 * n * n - 15 * k * n ∧ wrap64 (10 * n * n - 15 * k * n + 6 * k * k) = 10 * n * n - 15 * k * n + 6 * k * k ∧ wrap64 (k * k * k * (10 * n * n - 15 * k * n + 6 * k * k)) = k * k * k * (10 * n * n - 15 * k * n + 6 * k * k) ∧ wrap64 (n * n * n * n) = n * n * n * n ∧ wrap64 (n * n * n * n * n) = n * n * n * n * n) := by
  have n1 := mul_b (show 0 ≤ n by omega) hn2 (show 0 ≤ n by omega) hn2
  have n2 := mul_b n1.1 n1.2 (show 0 ≤ n by omega) hn2
  have n3 := mul_b n2.1 n2.2 (show 0 ≤ n by omega) hn2
  have n4 := mul_b n3.1 n3.2 (show 0 ≤ n by omega) hn2
  have k1 := mul_b hk (show k ≤ 360 by omega) hk (show k ≤ 360 by omega)
  have k2 := mul_b k1.1 k1.2 hk (show k ≤ 360 by omega)
  have a1 := mul_b (show 0 ≤ 2 * k by omega) (show 2 * k ≤ 720 by omega) hk (show k ≤ 360 by omega)
  have a2 := mul_b (show 0 ≤ 2 * (n - k) by omega) (show 2 * (n - k) ≤ 720 by omega) (show 0 ≤ n - k by omega) (show n - k ≤ 360 by omega)
  have a3 := mul_b (show 0 ≤ 3 * k by omega) (show 3 * k ≤ 1080 by omega) hk (show k ≤ 360 by omega)
  have a4 := mul_b a3.1 a3.2 (show 0 ≤ n by omega) hn2
  have a5 := mul_b a1.1 a1.2 hk (show k ≤ 360 by omega)
  have a6 := mul_b (show 0 ≤ 10 * n by omega) (show 10 * n ≤ 3600 by omega) (show 0 ≤ n by omega) hn2
  have a7 := mul_b (show 0 ≤ 15 * k by omega) (show 15 * k ≤ 5400 by omega) (show 0 ≤ n by omega) hn2
  have a8 := mul_b (show 0 ≤ 6 * k by omega) (show 6 * k ≤ 2160 by omega) hk (show k ≤ 360 by omega)
  have a9 := sq_b (B := 2100000) k2.1 k2.2 (b := 10 * n * n - 15 * k * n + 6 * k * k) (by omega) (by omega)
  refine ⟨⟨?_, ?_, ?_, ?_, ?_, ?_, ?_⟩, ⟨?_, ?_, ?_, ?_, ?_, ?_⟩, ⟨?_, ?_, ?_, ?_, ?_, ?_, ?_, ?_, ?_, ?_, ?_, ?_, ?_⟩⟩ <;> exact w64 (by omega) (by omega)

/-! base_impl -/
theorem e_impl_inRange (a b c : Int) : impl_inRange.f a b c = some (decide (b ≤ a ∧ a ≤ c)) := by
  unfold impl_inRange.f
  by_cases h : b ≤ a <;> simp [h]
theorem e_impl_isSteps (a : Int) : impl_isSteps.f a = some (decide (8 ≤ a ∧ a ≤ 360)) := by
  unfold impl_isSteps.f; rw [e_impl_inRange]; rfl
theorem e_impl_isLift (a : Int) : impl_isLift.f a = some (decide (0 ≤ a ∧ a ≤ 10000)) := by
  unfold impl_isLift.f; rw [e_impl_inRange]; rfl
theorem e_impl_Cam_steps (l : List Int) : impl_Cam_steps.f l = some (l.length : Int) := rfl
theorem e_impl_ValidCam (l : List Int) (h16 : I16 l) (hl : l.length ≤ 1048576) : Ev (fun k => impl_ValidCam.f k l) (decide (Valid l)) := by
  unfold impl_ValidCam.f
  simp only [e_impl_Cam_steps, e_impl_isSteps, Option.bind_some]
  by_cases h : 8 ≤ (l.length : Int) ∧ (l.length : Int) ≤ 360
  · simp only [h, and_self, decide_true, if_true]
    unfold slices_ContainsFunc_at_impl_ValidCam_c1.f slices_IndexFunc_at_impl_ValidCam_c1.f
    have := ev_find (fun k j => slices_IndexFunc_at_impl_ValidCam_c1.l0 k l (l.length : Int) (j : Int)) (fun j => decide (0 ≤ rd l (j : Int) ∧ rd l (j : Int) ≤ 10000)) l.length (-1) (fun j => (j : Int)) ?_ ?_ ?_
    · refine Ev.bind (Ev.bind this (evo rfl)) (evo ?_)
      rcases ff_eq (fun j => decide (0 ≤ rd l (j : Int) ∧ rd l (j : Int) ≤ 10000)) (-1 : Int) (fun j => (j : Int)) l.length with ⟨hh, e⟩ | ⟨m, hm, hf, _, e⟩
      · rw [e, decide_eq_true (show Valid l from ⟨by omega, by omega, fun j hj => by simpa using hh j hj⟩)]; rfl
      · rw [e, decide_eq_false (show ¬ Valid l from fun hv => by rw [decide_eq_true (hv.2.2 m hm)] at hf; cases hf)]
        simp
    · intro j r hj hp ih
      refine evs ?_
      have hb := h16.rdb (j : Int)
      simp (disch := omega) only [slices_IndexFunc_at_impl_ValidCam_c1.l0, impl_ValidCam_c1.f, if_pos, e_impl_isLift, Option.bind_some, w64]
      first | exact ih | (rw [hp]; simp only [Bool.not_true, Bool.false_eq_true, if_false]; exact ih)
    · intro j hj hp
      refine evs ?_
      have hb := h16.rdb (j : Int)
      simp (disch := omega) only [slices_IndexFunc_at_impl_ValidCam_c1.l0, impl_ValidCam_c1.f, if_pos, e_impl_isLift, Option.bind_some, w64]
      first | exact evo rfl | (rw [hp]; exact evo rfl)
    · refine evs ?_
      simp (disch := omega) only [slices_IndexFunc_at_impl_ValidCam_c1.l0, if_neg]
      exact evo rfl
  · rw [decide_eq_false h]
    simp only [Bool.false_eq_true, if_false]
    exact evo (decide_eq_false (fun hv => h ⟨by have := hv.1; omega, by have := hv.2.1; omega⟩)).symm

/-! impl_mod -/
theorem e_impl_floorDiv (a n : Int) (h : 0 < n) (ha : -9223372036854775807 ≤ a) (hb : a ≤ 9223372036854775807) : impl_floorDiv.f a n = some (a / n) := by
  unfold impl_floorDiv.f
  have := tdiv_b a h 9223372036854775807 ha hb
  rw [if_neg (by omega), ← floor_tdiv a h]
  by_cases c : Int.tmod a n < 0
  · simp (disch := omega) only [if_pos c, w64]
  · simp (disch := omega) only [if_neg c, w64]
theorem e_impl_mod (a n : Int) (h : 0 < n) (hn : n ≤ 1048576) (ha : -1000000000000 ≤ a) (hb : a ≤ 1000000000000) : impl_mod.f a n = some (a % n) := by
  unfold impl_mod.f
  rw [e_impl_floorDiv a n h (by omega) (by omega)]
  have e := Int.emod_add_mul_ediv a n
  have b := emod_b a h
  simp (disch := omega) only [Option.bind_some, w64, mod_ediv]

/-! near -/
theorem e_spec_l01Near (a b : Int) (hb : 0 < b) (hb1 : b ≤ 1000000000000000000) (h0 : -4000000000000000000 ≤ a) (h1 : a ≤ 4000000000000000000) : spec_l01Near.f a b = some (near a b) := by
  unfold spec_l01Near.f near
  have b3 := tdiv_b (2 * a + b) (n := 2 * b) (by omega) 9200000000000000000 (by omega) (by omega)
  simp (disch := omega) only [w64]
  rw [if_neg (by omega), ← floor_tdiv _ (show 0 < 2 * b by omega)]
  split <;> rfl
theorem e_impl_nearest (a b : Int) (hb : 0 < b) (hb1 : b ≤ 1000000000000000000) (h0 : -4000000000000000000 ≤ a) (h1 : a ≤ 4000000000000000000) : impl_nearest.f a b = some (near a b) := by
  unfold impl_nearest.f near
  simp (disch := omega) only [w64, e_impl_floorDiv, Option.bind_some]

/-! spec_lift -/
def liftv (a b c k n : Int) : Int := near (a * (shp c k n).2 + (b - a) * (shp c k n).1) (shp c k n).2
theorem e_spec_l02Shape (c k n : Int) (hk : 0 ≤ k) (hkn : k ≤ n) (hn : 1 ≤ n) (hn2 : n ≤ 360) : spec_l02Shape.f c k n = some (shp c k n) := by
  obtain ⟨⟨e1, e2, e3, e4, e5, e6, e7⟩, ⟨f1, f2, f3, f4, f5, f6⟩, ⟨g1, g2, g3, g4, g5, g6, g7, g8, g9, g10, g11, g12, g13⟩⟩ := shp_wrapped c k n hk hkn hn hn2
  unfold spec_l02Shape.f shp
  simp only [e1, e2, e3, e4, e5, e6, e7, f1, f2, f3, f4, f5, f6, g1, g2, g3, g4, g5, g6, g7, g8, g9, g10, g11, g12, g13]
  split
  · split <;> rfl
  · split
    · rfl
    · split <;> rfl
theorem lift_arg_b (a b c k n : Int) (ha : 0 ≤ a ∧ a ≤ 10000) (hb : 0 ≤ b ∧ b ≤ 10000) (hk : 0 ≤ k) (hkn : k ≤ n) (hn : 1 ≤ n) (hn2 : n ≤ 360) :
    (0 ≤ a * (shp c k n).2 ∧ a * (shp c k n).2 ≤ 60466176000000000) ∧ -979776000000000000 ≤ (b - a) * (shp c k n).1 ∧ (b - a) * (shp c k n).1 ≤ 979776000000000000 := by
  have s := shp_b c k n hk hkn hn hn2
  have h1 := mul_b ha.1 ha.2 (show 0 ≤ (shp c k n).2 by omega) s.1.2
  refine ⟨⟨h1.1, by omega⟩, ?_⟩
  by_cases h : a ≤ b
  · have h2 := sq_b (A := 10000) (B := 97977600000000) (show 0 ≤ b - a by omega) (by omega) s.2.1 s.2.2
    omega
  · have h2 := sq_b (A := 10000) (B := 97977600000000) (show 0 ≤ a - b by omega) (by omega) s.2.1 s.2.2
    have e : (b - a) * (shp c k n).1 = -((a - b) * (shp c k n).1) := by rw [← Int.neg_mul]; congr 1; omega
    omega
theorem e_spec_l02Lift (a b c k n : Int) (ha : 0 ≤ a ∧ a ≤ 10000) (hb : 0 ≤ b ∧ b ≤ 10000) (hk : 0 ≤ k) (hkn : k ≤ n) (hn : 1 ≤ n) (hn2 : n ≤ 360) : spec_l02Lift.f a b c k n = some (liftv a b c k n) := by
  have s := shp_b c k n hk hkn hn hn2
  have h := lift_arg_b a b c k n ha hb hk hkn hn hn2
  unfold spec_l02Lift.f liftv
  simp only [e_spec_l02Shape c k n hk hkn hn hn2, Option.bind_some]
  simp (disch := omega) only [w64, e_spec_l01Near, Option.bind_some]

/-! find2 -/
theorem ev_find2 {ρ : Type} (L : Nat → Nat → Option ρ) (p : Nat → Bool) (n : Nat) (r1 : ρ) (r2 : Nat → ρ)
    (ht : ∀ j r, j < n → p j = true → Ev (fun k => L k (j + 1)) r → Ev (fun k => L k j) r) (hf : ∀ j, j < n → p j = false → Ev (fun k => L k j) (r2 j))
    (he : (∀ j, j < n → p j = true) → Ev (fun k => L k n) r1) : Ev (fun k => L k 0) (ff p r1 r2 n 0) := by
  suffices H : ∀ d j, j + d = n → (∀ i, i < j → p i = true) → Ev (fun k => L k j) (ff p r1 r2 d j) from H n 0 (by omega) (fun i hi => by omega)
  intro d
  induction d with
  | zero => intro j hj hp; obtain rfl : j = n := by omega
            exact he hp
  | succ d ih =>
    intro j hj hp
    unfold ff
    by_cases c : p j = true
    · rw [if_pos c]; exact ht j _ (by omega) c (ih (j + 1) (by omega) (fun i hi => by by_cases e : i = j; · rw [e]; exact c
                                                                                      · exact hp i (by omega)))
    · rw [if_neg c]; exact hf j (by omega) (by simpa using c)
theorem ff_map {ρ σ : Type} (f : ρ → σ) (p : Nat → Bool) (r1 : ρ) (r2 : Nat → ρ) (d j : Nat) : f (ff p r1 r2 d j) = ff p (f r1) (fun i => f (r2 i)) d j := by
  induction d generalizing j with
  | zero => rfl
  | succ d ih => unfold ff; split
                 · exact ih _
                 · rfl

/-! impl_lift -/
theorem e_impl_shape (c k n : Int) (hc : 0 ≤ c ∧ c ≤ 3) (hk : 0 ≤ k) (hkn : k ≤ n) (hn : 1 ≤ n) (hn2 : n ≤ 360) : impl_shape.f c k n = some (shp c k n) := by
  obtain ⟨⟨e1, e2, e3, e4, e5, e6, e7⟩, ⟨f1, f2, f3, f4, f5, f6⟩, ⟨g1, g2, g3, g4, g5, g6, g7, g8, g9, g10, g11, g12, g13⟩⟩ := shp_wrapped c k n hk hkn hn hn2
  unfold impl_shape.f shp
  simp only [e1, e2, e3, e4, e5, e6, e7, f1, f2, f3, f4, f5, f6, g1, g2, g3, g4, g5, g6, g7, g8, g9, g10, g11, g12, g13]
  by_cases h1 : c = 1
  · subst h1; simp (disch := omega) only [if_neg, if_true]; split <;> rfl
  by_cases h2 : c = 2
  · subst h2; simp (disch := omega) only [if_neg, if_true]
  by_cases h3 : c = 3
  · subst h3; simp (disch := omega) only [if_neg, if_true]
  have h0 : c = 0 := by omega
  subst h0; simp (disch := omega) only [if_neg, if_true]
theorem e_impl_liftIn (a b c k n : Int) (hc : 0 ≤ c ∧ c ≤ 3) (ha : 0 ≤ a ∧ a ≤ 10000) (hb : 0 ≤ b ∧ b ≤ 10000) (hk : 0 ≤ k) (hkn : k ≤ n) (hn : 1 ≤ n) (hn2 : n ≤ 360) : impl_liftIn.f a b c k n = some (liftv a b c k n) := by
  have s := shp_b c k n hk hkn hn hn2
  have h := lift_arg_b a b c k n ha hb hk hkn hn hn2
  unfold impl_liftIn.f liftv
  simp only [e_impl_shape c k n hc hk hkn hn hn2, Option.bind_some]
  simp (disch := omega) only [w64, e_impl_nearest, Option.bind_some]

/-! impl_at -/
theorem e_impl_Cam_at (l : List Int) (h16 : I16 l) (h0 : 0 < l.length) (hl : l.length ≤ 1048576) (a : Int) (ha : -1000000000000 ≤ a) (hb : a ≤ 1000000000000) : impl_Cam_at.f l a = some (atz l a) := by
  unfold impl_Cam_at.f atz
  have hn : (0 : Int) < l.length := by omega
  have c := emod_b a hn
  rw [e_impl_Cam_steps, Option.bind_some, e_impl_mod a _ hn (by omega) ha hb, Option.bind_some, if_pos c.1, if_pos c.2]
  have := h16.rdb (a % (l.length : Int))
  rw [w64 (by omega) (by omega)]

/-! fit -/
/-- Whether a law of motion goes through the steps between. -/
def fitB (l : List Int) (c s n : Int) : Bool := decide (∀ j, j < (n - 1).toNat → decide (liftv (atz l s) (atz l (s + n)) c ((j : Int) + 1) n = atz l (s + ((j : Int) + 1))) = true)
def fitV (l : List Int) (s n : Int) : Int := ff (fun c : Nat => !fitB l (c : Int) s n) (-1 : Int) (fun c => (c : Int)) 4 0
theorem e_spec_l02Fit (l : List Int) (h16 : I16 l) (hv : Valid l) (s n : Int) (hs : 0 ≤ s ∧ s ≤ 1000) (hn : 1 ≤ n ∧ n ≤ 360) : Ev (fun k => spec_l02Fit.f k l s n) (fitV l s n) := by
  have hl := hv.1
  have hl2 := hv.2.1
  unfold spec_l02Fit.f fitV
  simp (disch := omega) only [w64, e_spec_l01At l h16, Option.bind_some]
  have inner : ∀ (c : Nat) (r : Int), c < 4 → (Ev (fun k => if fitB l (c : Int) s n = true then some (c : Int) else spec_l02Fit.l0 k l s n (atz l s) (atz l (s + n)) ((c : Int) + 1)) r) → Ev (fun k => spec_l02Fit.l0 k l s n (atz l s) (atz l (s + n)) (c : Int)) r := by
    intro c r hc hk
    refine evs ?_
    simp (disch := omega) only [spec_l02Fit.l0, if_pos]
    have := ev_loop (fun k j => spec_l02Fit.l1 k l s n (atz l s) (atz l (s + n)) (c : Int) (decide (∀ i, i < j → decide (liftv (atz l s) (atz l (s + n)) (c : Int) ((i : Int) + 1) n = atz l (s + ((i : Int) + 1))) = true)) ((j : Int) + 1)) (n - 1).toNat r ?_ ?_
    · rw [show (decide (∀ i : Nat, i < 0 → decide (liftv (atz l s) (atz l (s + n)) (c : Int) ((i : Int) + 1) n = atz l (s + ((i : Int) + 1))) = true)) = true from decide_eq_true (fun i hi => absurd hi (Nat.not_lt_zero _))] at this
      exact this
    · intro j hj ih
      refine evs ?_
      have e : ((j + 1 : Nat) : Int) + 1 = (j : Int) + 1 + 1 := by omega
      rw [e] at ih
      by_cases d : ∀ i : Nat, i < j → decide (liftv (atz l s) (atz l (s + n)) (c : Int) ((i : Int) + 1) n = atz l (s + ((i : Int) + 1))) = true
      · rw [decide_eq_true d]
        have b1 := hv.atzb s
        have b2 := hv.atzb (s + n)
        simp (disch := omega) only [spec_l02Fit.l1, if_pos, if_true, w64, e_spec_l01At l h16, e_spec_l02Lift, Option.bind_some]
        have e2 : (atz l (s + ((j : Int) + 1)) == liftv (atz l s) (atz l (s + n)) (c : Int) ((j : Int) + 1) n) = decide (∀ i : Nat, i < j + 1 → decide (liftv (atz l s) (atz l (s + n)) (c : Int) ((i : Int) + 1) n = atz l (s + ((i : Int) + 1))) = true) := by
          by_cases q : liftv (atz l s) (atz l (s + n)) (c : Int) ((j : Int) + 1) n = atz l (s + ((j : Int) + 1))
          · rw [q, beq_self_eq_true]
            exact (decide_eq_true (fun i hi => by
              by_cases hij : i = j
              · rw [hij]; exact decide_eq_true q
              · exact d i (by omega))).symm
          · rw [show (atz l (s + ((j : Int) + 1)) == liftv (atz l s) (atz l (s + n)) (c : Int) ((j : Int) + 1) n) = false from by rw [beq_eq_false_iff_ne]; exact fun h => q h.symm]
            exact (decide_eq_false (fun hh => q (of_decide_eq_true (hh j (by omega))))).symm
        rw [e2]
        exact ih
      · rw [decide_eq_false d]
        simp (disch := omega) only [spec_l02Fit.l1, if_pos, w64, Bool.false_eq_true, if_false]
        rw [show decide (∀ i : Nat, i < j + 1 → decide (liftv (atz l s) (atz l (s + n)) (c : Int) ((i : Int) + 1) n = atz l (s + ((i : Int) + 1))) = true) = false from decide_eq_false (fun hh => d (fun i hi => hh i (by omega)))] at ih
        exact ih
    · refine evs ?_
      simp (disch := omega) only [spec_l02Fit.l1, if_neg, w64]
      exact hk
  refine ev_find (fun k c => spec_l02Fit.l0 k l s n (atz l s) (atz l (s + n)) (c : Int)) (fun c : Nat => !fitB l (c : Int) s n) 4 (-1 : Int) (fun c => (c : Int)) ?_ ?_ ?_
  · intro c r hc hp ih
    refine inner c r hc ?_
    rw [Bool.not_eq_true'] at hp
    rw [hp]
    exact ih
  · intro c hc hp
    refine inner c _ hc ?_
    rw [Bool.not_eq_false'] at hp
    rw [hp]
    exact evo rfl
  · refine evs ?_
    simp (disch := omega) only [spec_l02Fit.l0, if_neg]
    exact evo rfl
theorem e_impl_fits (l : List Int) (h16 : I16 l) (hv : Valid l) (c s n : Int) (hc : 0 ≤ c ∧ c ≤ 3) (hs : 0 ≤ s ∧ s ≤ 1000) (hn : 1 ≤ n ∧ n ≤ 360) : Ev (fun k => impl_Cam_fits.f k l c s n) (fitB l c s n) := by
  have hl := hv.1
  have hl2 := hv.2.1
  have b1 := hv.atzb s
  have b2 := hv.atzb (s + n)
  unfold impl_Cam_fits.f
  simp (disch := omega) only [w64, e_impl_Cam_at l h16, Option.bind_some]
  unfold fitB
  rw [← ff_all]
  refine ev_find (fun k j => impl_Cam_fits.l0 k l c s n (atz l s) (atz l (s + n)) ((j : Int) + 1)) (fun j : Nat => decide (liftv (atz l s) (atz l (s + n)) c ((j : Int) + 1) n = atz l (s + ((j : Int) + 1)))) (n - 1).toNat true (fun _ => false) ?_ ?_ ?_
  · intro j r hj hp ih
    refine evs ?_
    have hp' := of_decide_eq_true hp
    simp (disch := omega) only [impl_Cam_fits.l0, if_pos, w64, e_impl_Cam_at l h16, e_impl_liftIn, Option.bind_some]
    exact ih
  · intro j hj hp
    refine evs ?_
    have hp' := of_decide_eq_false hp
    simp (disch := omega) only [impl_Cam_fits.l0, if_pos, w64, e_impl_Cam_at l h16, e_impl_liftIn, Option.bind_some]
    simp only [if_neg hp']
    exact evo rfl
  · refine evs ?_
    simp (disch := omega) only [impl_Cam_fits.l0, if_neg]
    exact evo rfl
theorem e_impl_isLaw (c : Int) : impl_isLaw.f c = some (decide (0 ≤ c ∧ c ≤ 3)) := by
  unfold impl_isLaw.f; rw [e_impl_inRange]; rfl
theorem e_impl_fitMotion (l : List Int) (h16 : I16 l) (hv : Valid l) (s n : Int) (hs : 0 ≤ s ∧ s ≤ 1000) (hn : 1 ≤ n ∧ n ≤ 360) : Ev (fun k => impl_Cam_fitMotion.f k l s n) (fitV l s n) := by
  unfold impl_Cam_fitMotion.f fitV
  refine ev_find (fun k c => impl_Cam_fitMotion.l0 k l s n (c : Int)) (fun c : Nat => !fitB l (c : Int) s n) 4 (-1 : Int) (fun c => (c : Int)) ?_ ?_ ?_
  · intro c r hc hp ih
    refine evs ?_
    simp only [impl_Cam_fitMotion.l0, e_impl_isLaw, Option.bind_some, decide_eq_true (show 0 ≤ (c : Int) ∧ (c : Int) ≤ 3 by omega), if_true]
    refine Ev.bind (e_impl_fits l h16 hv c s n (by omega) hs hn) ?_
    rw [w64 (by omega) (by omega)]
    rw [Bool.not_eq_true'] at hp
    rw [hp]
    exact ih
  · intro c hc hp
    refine evs ?_
    simp only [impl_Cam_fitMotion.l0, e_impl_isLaw, Option.bind_some, decide_eq_true (show 0 ≤ (c : Int) ∧ (c : Int) ≤ 3 by omega), if_true]
    refine Ev.bind (e_impl_fits l h16 hv c s n (by omega) hs hn) ?_
    rw [Bool.not_eq_false'] at hp
    rw [hp]
    exact evo rfl
  · refine evs ?_
    simp only [impl_Cam_fitMotion.l0, e_impl_isLaw, Option.bind_some]
    exact evo rfl

/-! FitMotion -/
def fmR (l : List Int) (s n : Int) : Int × Int := if Valid l then (if (0 ≤ s ∧ s ≤ (l.length : Int) - 1) ∧ (1 ≤ n ∧ n ≤ (l.length : Int)) then (if fitV l s n < 0 then (0, 6) else (fitV l s n, 0)) else (0, 2)) else (0, 1)
theorem e_spec_FitMotion (l : List Int) (h16 : I16 l) (hl : l.length ≤ 1048576) (s n : Int) : Ev (fun k => spec_FitMotion.f k l s n) (fmR l s n) := by
  unfold spec_FitMotion.f fmR
  refine Ev.bind (e_spec_l01Ok l h16 hl) ?_
  by_cases hv : Valid l
  · simp (disch := omega) only [hv, decide_true, if_true, e_spec_l00In, Option.bind_some, w64]
    have h1 := hv.1
    have h2 := hv.2.1
    by_cases ha : 0 ≤ s ∧ s ≤ (l.length : Int) - 1
    · simp only [decide_eq_true ha, if_true, ha, and_self, true_and]
      refine evs ?_
      by_cases hb : 1 ≤ n ∧ n ≤ (l.length : Int)
      · simp only [decide_eq_true hb, if_pos hb, spec_FitMotion.j0, Bool.not_true, Bool.false_eq_true, if_false]
        refine Ev.bind (e_spec_l02Fit l h16 hv s n (by omega) (by omega)) ?_
        by_cases c : fitV l s n < 0
        · simp only [if_pos c]; exact evo rfl
        · simp only [if_neg c]; exact evo rfl
      · simp only [decide_eq_false hb, if_neg hb, spec_FitMotion.j0, Bool.not_false, if_true]; exact evo rfl
    · have hab : ¬ ((0 ≤ s ∧ s ≤ (l.length : Int) - 1) ∧ (1 ≤ n ∧ n ≤ (l.length : Int))) := fun h => ha h.1
      simp only [decide_eq_false ha, Bool.false_eq_true, if_false, if_neg hab]
      refine evs ?_
      simp only [spec_FitMotion.j0, if_true]; exact evo rfl
  · simp only [hv, decide_false, if_false]; exact evo rfl
theorem e_impl_FitMotion (l : List Int) (h16 : I16 l) (hl : l.length ≤ 1048576) (s n : Int) : Ev (fun k => impl_FitMotion.f k l s n) (fmR l s n) := by
  unfold impl_FitMotion.f fmR
  refine Ev.bind (e_impl_ValidCam l h16 hl) ?_
  by_cases hv : Valid l
  · simp (disch := omega) only [hv, decide_true, if_true, impl_isPlace.f, e_impl_inRange, e_impl_Cam_steps, Option.bind_some, w64]
    have h1 := hv.1
    have h2 := hv.2.1
    by_cases ha : 0 ≤ s ∧ s ≤ (l.length : Int) - 1
    · simp only [decide_eq_true ha, if_true, ha, and_self, true_and]
      refine evs ?_
      by_cases hb : 1 ≤ n ∧ n ≤ (l.length : Int)
      · simp only [decide_eq_true hb, if_pos hb, impl_FitMotion.j0, Bool.not_true, Bool.false_eq_true, if_false]
        refine Ev.bind (e_impl_fitMotion l h16 hv s n (by omega) (by omega)) ?_
        by_cases c : fitV l s n < 0
        · simp only [if_pos c]; exact evo rfl
        · simp only [if_neg c]; exact evo rfl
      · simp only [decide_eq_false hb, if_neg hb, impl_FitMotion.j0, Bool.not_false, if_true]; exact evo rfl
    · have hab : ¬ ((0 ≤ s ∧ s ≤ (l.length : Int) - 1) ∧ (1 ≤ n ∧ n ≤ (l.length : Int))) := fun h => ha h.1
      simp only [decide_eq_false ha, Bool.false_eq_true, if_false, if_neg hab]
      refine evs ?_
      simp only [impl_FitMotion.j0, if_true]; exact evo rfl
  · simp only [hv, decide_false, if_false]; exact evo rfl

/-! laws_cam -/
theorem e_laws_toCam (l : List Int) (hl : l.length ≤ 1048576) : Ev (fun k => laws_toCam.f k l) l := by
  unfold laws_toCam.f
  simp (disch := omega) only [if_pos]
  have := ev_loop (fun k j => laws_toCam.l0 k l (l.take j ++ List.replicate (l.length - j) 0) (j : Int)) l.length l ?_ ?_
  · simpa using this
  · intro j hj ih
    refine evs ?_
    have e : ((l.take j ++ List.replicate (l.length - j) 0).length : Int) = l.length := by simp; omega
    simp (disch := omega) only [laws_toCam.l0, if_pos, e, w64]
    have e2 : (l.take j ++ List.replicate (l.length - j) 0).set ((j : Int)).toNat (rd l (j : Int)) = l.take (j + 1) ++ List.replicate (l.length - (j + 1)) 0 := by
      have e3 : l.length - j = (l.length - (j + 1)) + 1 := by omega
      rw [e3, List.replicate_succ, Int.toNat_natCast, set_app _ _ _ _ _ (by simp; omega), rd_nat, List.take_succ_eq_append_getElem hj]
      have e4 : l.getD j 0 = l[j] := by simp [List.getD_eq_getElem?_getD, hj]
      rw [e4, List.append_assoc, List.singleton_append]
    rw [e2]
    exact ih
  · refine evs ?_
    simp (disch := omega) only [laws_toCam.l0, if_neg]
    exact evo (by simp)
theorem e_laws_eqCam (l : List Int) (hl : l.length ≤ 1048576) : Ev (fun k => laws_eqCam.f k l l) true := by
  unfold laws_eqCam.f
  simp only [if_true]
  have := ev_loop (fun k j => laws_eqCam.l0 k l l (j : Int)) l.length true ?_ ?_
  · exact this
  · intro j hj ih
    refine evs ?_
    simp (disch := omega) only [laws_eqCam.l0, if_pos, if_true, w64]
    exact ih
  · refine evs ?_
    simp (disch := omega) only [laws_eqCam.l0, if_neg]
    exact evo rfl

set_option maxHeartbeats 4000000 in
theorem FnExactFitMotion : laws_FnExactFitMotion.Pure := by
  intro l0 a1 a2 _ _ w0 v1 v2
  have h0 := I16.of_wf w0
  have i1 := wf_i64 v1
  have i2 := wf_i64 v2
  refine ev_rounds ?_
  unfold laws_FnExactFitMotion.f
  by_cases b0 : (l0.length : Int) > 1048576
  · simp only [if_pos b0]; exact evo rfl
  simp only [if_neg b0]
  have b0 : l0.length ≤ 1048576 := by omega
  have T0 := e_laws_toCam l0 b0
  have Q0 := e_laws_eqCam l0 b0
  have A := e_spec_FitMotion l0 h0 b0 a1 a2
  have B := e_impl_FitMotion l0 h0 b0 a1 a2
  revert A B
  generalize (fmR l0 a1 a2) = RR
  obtain ⟨c0, c1⟩ := RR
  intro A B
  repeat (first | exact evo rfl | (with_reducible refine Ev.bind T0 ?_) | (with_reducible refine Ev.bind Q0 ?_) | (with_reducible refine Ev.bind A ?_) | (with_reducible refine Ev.bind B ?_) | ((with_reducible refine ev_pos ?s1 ?_); (case s1 => first | rfl | omega | (dsimp only; omega))) | ((with_reducible refine ev_neg ?s1 ?_); (case s1 => first | omega | (dsimp only; omega) | (simp; done))) | (refine evs ?_; simp only [laws_FnExactFitMotion.j0]))


end Go.Proofs.Ytmklaccobbkebab.Pure
