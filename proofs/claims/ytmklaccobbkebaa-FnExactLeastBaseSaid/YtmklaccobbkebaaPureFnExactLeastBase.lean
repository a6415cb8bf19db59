/- The pure statement of the law FnExactLeastBase: the program's function and the reference's tell the same of every input, by plain lemmas on numbers, lists and rounds; no further condition. -/
import Derived.Test.YtmklaccobbkebaaXFnExactLeastBasex
import Derived.Test.YtmklaccobbkebaaXLib
namespace Go.Proofs.Ytmklaccobbkebaa.Pure
open Go.RowKit Go.Proofs.Ytmklaccobbkebaa.XFnExactLeastBase Go.Proofs.Ytmklaccobbkebaa.XLib Go.Proofs.YtmklaccobbkebaaW.PrintWords Go.Proofs.YtmklaccobbkebaaW.PrintLast Go.Proofs.YtmklaccobbkebaaW.PrintMore
set_option maxRecDepth 100000
set_option linter.unusedVariables false
set_option linter.unusedSimpArgs false
/-! base_spec -/
theorem e_spec_l00In (a b c : Int) : spec_l00In.f a b c = some (decide (b ≤ a ∧ a ≤ c)) := by
  unfold spec_l00In.f
  by_cases h : b ≤ a <;> simp [h]
theorem e_spec_l01Steps (a : Int) : spec_l01Steps.f a = some (decide (8 ≤ a ∧ a ≤ 360)) := by
  unfold spec_l01Steps.f; rw [e_spec_l00In]; rfl
theorem e_spec_l01Lift (a : Int) : spec_l01Lift.f a = some (decide (0 ≤ a ∧ a ≤ 10000)) := by
  unfold spec_l01Lift.f; rw [e_spec_l00In]; rfl
theorem e_spec_l01Ok (l : List Int) (h16 : I16 l) (hl : l.length ≤ 1048576) : Ev (fun k => spec_l01Ok.f k l) (decide (Valid l)) := by
  unfold spec_l01Ok.f
  simp only [e_spec_l01Steps, Option.bind_some]
  by_cases h : 8 ≤ (l.length : Int) ∧ (l.length : Int) ≤ 360
  · simp only [h, and_self, decide_true, if_true]
    have := ev_find (fun k j => spec_l01Ok.l0 k l (j : Int)) (fun j => decide (0 ≤ rd l (j : Int) ∧ rd l (j : Int) ≤ 10000)) l.length true (fun _ => false) ?_ ?_ ?_
    · rw [ff_all] at this
      refine eve this ?_
      apply decide_eq_decide.mpr
      unfold Valid
      constructor
      · intro hh; exact ⟨by omega, by omega, fun j hj => by simpa using hh j hj⟩
      · intro hh j hj; simpa using hh.2.2 j hj
    · intro j r hj hp ih
      refine evs ?_
      have hb := h16.rdb (j : Int)
      simp (disch := omega) only [spec_l01Ok.l0, if_pos, e_spec_l01Lift, Option.bind_some, w64]
      first | exact ih | (rw [hp]; simp only [if_true]; exact ih)
    · intro j hj hp
      refine evs ?_
      have hb := h16.rdb (j : Int)
      simp (disch := omega) only [spec_l01Ok.l0, if_pos, e_spec_l01Lift, Option.bind_some, w64]
      first | exact evo rfl | (rw [hp]; exact evo rfl)
    · refine evs ?_
      simp (disch := omega) only [spec_l01Ok.l0, if_neg]
      exact evo rfl
  · rw [decide_eq_false h]
    simp only [Bool.false_eq_true, if_false]
    exact evo (decide_eq_false (fun hv => h ⟨by have := hv.1; omega, by have := hv.2.1; omega⟩)).symm

/-! gcd -/
theorem gcd_loop (L : Nat → Int → Int → Option Int) (hL : ∀ k a b, L (k + 1) a b = if b = 0 then some a else L k b (Int.tmod a b)) (a b : Nat) : Ev (fun k => L k (a : Int) (b : Int)) ((Nat.gcd a b : Nat) : Int) := by
  induction b using Nat.strongRecOn generalizing a with
  | _ b ih =>
    refine evs ?_
    by_cases h : b = 0
    · subst h
      simp only [hL, Int.natCast_zero, if_true]
      exact evo (by rw [Nat.gcd_zero_right])
    · have hb : (b : Int) ≠ 0 := by omega
      simp only [hL, if_neg hb]
      have e : Int.tmod (a : Int) (b : Int) = ((a % b : Nat) : Int) := by rw [tmod_pos (by omega)]; exact (Int.natCast_emod a b).symm
      rw [e]
      have := ih (a % b) (Nat.mod_lt _ (by omega)) b
      rw [show Nat.gcd a b = Nat.gcd b (a % b) by rw [Nat.gcd_comm, Nat.gcd_rec, Nat.gcd_comm]]
      exact this

/-! spec_at -/
theorem e_spec_l01At (l : List Int) (h16 : I16 l) (h0 : 0 < l.length) (hl : l.length ≤ 1048576) (a : Int) (ha : -1000000000000 ≤ a) (hb : a ≤ 1000000000000) : spec_l01At.f l a = some (atz l a) := by
  unfold spec_l01At.f atz
  have hn : (0 : Int) < l.length := by omega
  have b := tmod_b a hn
  rw [if_neg (by omega), w64 (by omega) (by omega), two_mods a hn]
  have c := emod_b a hn
  rw [if_pos c.1, if_pos c.2]
  have := h16.rdb (a % (l.length : Int))
  rw [w64 (by omega) (by omega)]

/-! base_impl -/
theorem e_impl_inRange (a b c : Int) : impl_inRange.f a b c = some (decide (b ≤ a ∧ a ≤ c)) := by
  unfold impl_inRange.f
  by_cases h : b ≤ a <;> simp [h]
theorem e_impl_isSteps (a : Int) : impl_isSteps.f a = some (decide (8 ≤ a ∧ a ≤ 360)) := by
  unfold impl_isSteps.f; rw [e_impl_inRange]; rfl
theorem e_impl_isLift (a : Int) : impl_isLift.f a = some (decide (0 ≤ a ∧ a ≤ 10000)) := by
  unfold impl_isLift.f; rw [e_impl_inRange]; rfl
theorem e_impl_Cam_steps (l : List Int) : impl_Cam_steps.f l = some (l.length : Int) := rfl
theorem e_impl_ValidCam (l : List Int) (h16 : I16 l) (hl : l.length ≤ 1048576) : Ev (fun k => impl_ValidCam.f k l) (decide (Valid l)) := by
  unfold impl_ValidCam.f
  simp only [e_impl_Cam_steps, e_impl_isSteps, Option.bind_some]
  by_cases h : 8 ≤ (l.length : Int) ∧ (l.length : Int) ≤ 360
  · simp only [h, and_self, decide_true, if_true]
    unfold slices_ContainsFunc_at_impl_ValidCam_c1.f slices_IndexFunc_at_impl_ValidCam_c1.f
    have := ev_find (fun k j => slices_IndexFunc_at_impl_ValidCam_c1.l0 k l (l.length : Int) (j : Int)) (fun j => decide (0 ≤ rd l (j : Int) ∧ rd l (j : Int) ≤ 10000)) l.length (-1) (fun j => (j : Int)) ?_ ?_ ?_
    · refine Ev.bind (Ev.bind this (evo rfl)) (evo ?_)
      rcases ff_eq (fun j => decide (0 ≤ rd l (j : Int) ∧ rd l (j : Int) ≤ 10000)) (-1 : Int) (fun j => (j : Int)) l.length with ⟨hh, e⟩ | ⟨m, hm, hf, _, e⟩
      · rw [e, decide_eq_true (show Valid l from ⟨by omega, by omega, fun j hj => by simpa using hh j hj⟩)]; rfl
      · rw [e, decide_eq_false (show ¬ Valid l from fun hv => by rw [decide_eq_true (hv.2.2 m hm)] at hf; cases hf)]
        simp
    · intro j r hj hp ih
      refine evs ?_
      have hb := h16.rdb (j : Int)
      simp (disch := omega) only [slices_IndexFunc_at_impl_ValidCam_c1.l0, impl_ValidCam_c1.f, if_pos, e_impl_isLift, Option.bind_some, w64]
      first | exact ih | (rw [hp]; simp only [Bool.not_true, Bool.false_eq_true, if_false]; exact ih)
    · intro j hj hp
      refine evs ?_
      have hb := h16.rdb (j : Int)
      simp (disch := omega) only [slices_IndexFunc_at_impl_ValidCam_c1.l0, impl_ValidCam_c1.f, if_pos, e_impl_isLift, Option.bind_some, w64]
      first | exact evo rfl | (rw [hp]; exact evo rfl)
    · refine evs ?_
      simp (disch := omega) only [slices_IndexFunc_at_impl_ValidCam_c1.l0, if_neg]
      exact evo rfl
  · rw [decide_eq_false h]
    simp only [Bool.false_eq_true, if_false]
    exact evo (decide_eq_false (fun hv => h ⟨by have := hv.1; omega, by have := hv.2.1; omega⟩)).symm

/-! impl_mod -/
theorem e_impl_floorDiv (a n : Int) (h : 0 < n) (ha : -9223372036854775807 ≤ a) (hb : a ≤ 9223372036854775807) : impl_floorDiv.f a n = some (a / n) := by
  unfold impl_floorDiv.f
  have := tdiv_b a h 9223372036854775807 ha hb
  rw [if_neg (by omega), ← floor_tdiv a h]
  by_cases c : Int.tmod a n < 0
  · simp (disch := omega) only [if_pos c, w64]
  · simp (disch := omega) only [if_neg c, w64]
theorem e_impl_mod (a n : Int) (h : 0 < n) (hn : n ≤ 1048576) (ha : -1000000000000 ≤ a) (hb : a ≤ 1000000000000) : impl_mod.f a n = some (a % n) := by
  unfold impl_mod.f
  rw [e_impl_floorDiv a n h (by omega) (by omega)]
  have e := Int.emod_add_mul_ediv a n
  have b := emod_b a h
  simp (disch := omega) only [Option.bind_some, w64, mod_ediv]

/-! impl_at -/
theorem e_impl_Cam_at (l : List Int) (h16 : I16 l) (h0 : 0 < l.length) (hl : l.length ≤ 1048576) (a : Int) (ha : -1000000000000 ≤ a) (hb : a ≤ 1000000000000) : impl_Cam_at.f l a = some (atz l a) := by
  unfold impl_Cam_at.f atz
  have hn : (0 : Int) < l.length := by omega
  have c := emod_b a hn
  rw [e_impl_Cam_steps, Option.bind_some, e_impl_mod a _ hn (by omega) ha hb, Option.bind_some, if_pos c.1, if_pos c.2]
  have := h16.rdb (a % (l.length : Int))
  rw [w64 (by omega) (by omega)]

/-! spec_size -/
def sz (a : Int) : Int := if a < 0 then -a else a
theorem e_spec_l01Size (a : Int) (h0 : -9223372036854775807 ≤ a) (h1 : a ≤ 9223372036854775807) : spec_l01Size.f a = some (sz a) := by
  unfold spec_l01Size.f sz
  split
  · rw [w64 (by omega) (by omega)]
  · rfl

/-! impl_abs -/
theorem e_impl_abs (a : Int) (h0 : -9223372036854775807 ≤ a) (h1 : a ≤ 9223372036854775807) : impl_abs.f a = some (sz a) := by
  unfold impl_abs.f sz mx
  rw [w64 (by omega) (by omega)]
  congr 1
  split <;> split <;> omega

/-! slope -/
/-- The slope at a step, in lowest terms. -/
def slpN (l : List Int) (i : Int) : Int := (atz l (i + 1) - atz l i) * (l.length : Int) * 7
def slpD (l : List Int) (b i : Int) : Int := 44 * (b + atz l i)
def slpG (l : List Int) (b i : Int) : Int := ((Nat.gcd (sz (slpN l i)).toNat (slpD l b i).toNat : Nat) : Int)
def slp (l : List Int) (b i : Int) : Int × Int := (wrap64 (Int.tdiv (slpN l i) (slpG l b i)), wrap64 (Int.tdiv (slpD l b i) (slpG l b i)))
theorem slpN_b (l : List Int) (hv : Valid l) (i : Int) : (-10000 ≤ atz l (i + 1) - atz l i ∧ atz l (i + 1) - atz l i ≤ 10000) ∧ (-3600000 ≤ (atz l (i + 1) - atz l i) * (l.length : Int) ∧ (atz l (i + 1) - atz l i) * (l.length : Int) ≤ 3600000) ∧ -25200000 ≤ slpN l i ∧ slpN l i ≤ 25200000 := by
  have a := hv.atzb (i + 1)
  have b := hv.atzb i
  have c := hv.2.1
  have d := sub_mul_b (K := 360) b.1 b.2 a.1 a.2 (show (0 : Int) ≤ (l.length : Int) by omega) (by omega)
  unfold slpN
  omega
theorem slpD_b (l : List Int) (hv : Valid l) (b i : Int) (hb : 1 ≤ b ∧ b ≤ 1000000) : 44 ≤ slpD l b i ∧ slpD l b i ≤ 44440000 := by
  have a := hv.atzb i
  unfold slpD
  omega
theorem slpG_b (l : List Int) (hv : Valid l) (b i : Int) (hb : 1 ≤ b ∧ b ≤ 1000000) : 1 ≤ slpG l b i := by
  have d := slpD_b l hv b i hb
  have : 0 < Nat.gcd (sz (slpN l i)).toNat (slpD l b i).toNat := Nat.gcd_pos_of_pos_right _ (by omega)
  unfold slpG; omega
theorem sz_nn (a : Int) : 0 ≤ sz a := by unfold sz; split <;> omega
theorem e_spec_l03Slope (l : List Int) (h16 : I16 l) (hv : Valid l) (b i : Int) (hb : 1 ≤ b ∧ b ≤ 1000000) (hi : -1 ≤ i ∧ i ≤ 100000) : Ev (fun k => spec_l03Slope.f k l b i) (slp l b i) := by
  have hn := hv.1
  have hn2 := hv.2.1
  obtain ⟨n1, n2, n3⟩ := slpN_b l hv i
  have d := slpD_b l hv b i hb
  have a0 := hv.atzb i
  unfold spec_l03Slope.f
  have eN : (atz l (i + 1) - atz l i) * (l.length : Int) * 7 = slpN l i := rfl
  have eD : 44 * (b + atz l i) = slpD l b i := rfl
  simp (disch := omega) only [w64, e_spec_l01At l h16, Option.bind_some, eN, eD, e_spec_l01Size]
  have := gcd_loop spec_l03Gcd.l0 (fun k a b => by simp only [spec_l03Gcd.l0]) (sz (slpN l i)).toNat (slpD l b i).toNat
  rw [Int.toNat_of_nonneg (sz_nn _), Int.toNat_of_nonneg (by omega)] at this
  unfold spec_l03Gcd.f
  refine Ev.bind this ?_
  have g := slpG_b l hv b i hb
  unfold slpG at g
  refine ev_neg (by omega) (evo rfl)

/-! steep -/
theorem slp_b (l : List Int) (hv : Valid l) (b i : Int) (hb : 1 ≤ b ∧ b ≤ 1000000) : (-25200000 ≤ (slp l b i).1 ∧ (slp l b i).1 ≤ 25200000) ∧ 0 ≤ (slp l b i).2 ∧ (slp l b i).2 ≤ 44440000 := by
  obtain ⟨_, _, n3⟩ := slpN_b l hv i
  have d := slpD_b l hv b i hb
  have g := slpG_b l hv b i hb
  have t1 := tdiv_b (slpN l i) (n := slpG l b i) (by omega) 25200000 (by omega) (by omega)
  have t2 := tdiv_b (slpD l b i) (n := slpG l b i) (by omega) 44440000 (by omega) (by omega)
  have t3 : 0 ≤ Int.tdiv (slpD l b i) (slpG l b i) := Int.tdiv_nonneg (by omega) (by omega)
  unfold slp
  dsimp only
  rw [w64 (by omega) (by omega), w64 (by omega) (by omega)]
  exact ⟨⟨by omega, by omega⟩, t3, by omega⟩
def cmpS (x y : Int × Int) : Int := if wrap64 (sz x.1 * y.2) < wrap64 (sz y.1 * x.2) then -1 else if wrap64 (sz x.1 * y.2) > wrap64 (sz y.1 * x.2) then 1 else 0
theorem cmpS_self (x : Int × Int) : cmpS x x = 0 := by
  unfold cmpS; rw [if_neg (by omega), if_neg (by omega)]
def bst (l : List Int) (b : Int) : Nat → Int
  | 0 => 0
  | j + 1 => if cmpS (slp l b ((j : Int) + 1)) (slp l b (bst l b j)) > 0 then (j : Int) + 1 else bst l b j
theorem bst_s (l : List Int) (b : Int) (j : Nat) : bst l b (j + 1) = if cmpS (slp l b ((j : Int) + 1)) (slp l b (bst l b j)) > 0 then (j : Int) + 1 else bst l b j := rfl
theorem e_spec_l03Cmp (x y : Int × Int) (hx : -9223372036854775807 ≤ x.1 ∧ x.1 ≤ 9223372036854775807) (hy : -9223372036854775807 ≤ y.1 ∧ y.1 ≤ 9223372036854775807) : spec_l03Cmp.f x.1 x.2 y.1 y.2 = some (cmpS x y) := by
  unfold spec_l03Cmp.f cmpS
  rw [e_spec_l01Size _ hx.1 hx.2, e_spec_l01Size _ hy.1 hy.2]
  simp only [Option.bind_some]
  split
  · rfl
  · split <;> rfl
theorem e_spec_l03Steepest (l : List Int) (h16 : I16 l) (hv : Valid l) (b : Int) (hb : 1 ≤ b ∧ b ≤ 1000000) : Ev (fun k => spec_l03Steepest.f k l b) (bst l b (l.length - 1), slp l b (bst l b (l.length - 1))) := by
  have hn := hv.1
  have hn2 := hv.2.1
  unfold spec_l03Steepest.f
  refine Ev.bind (e_spec_l03Slope l h16 hv b 0 hb (by omega)) ?_
  have := ev_loop (fun k j => spec_l03Steepest.l0 k l b (bst l b j) ((j : Int) + 1) (slp l b (bst l b j)).1 (slp l b (bst l b j)).2) (l.length - 1) (bst l b (l.length - 1), slp l b (bst l b (l.length - 1))) ?_ ?_
  · exact this
  · intro j hj ih
    refine evs ?_
    simp (disch := omega) only [spec_l03Steepest.l0, if_pos, w64]
    refine Ev.bind (e_spec_l03Slope l h16 hv b _ hb (by omega)) ?_
    have s1 := slp_b l hv b ((j : Int) + 1) hb
    have s2 := slp_b l hv b (bst l b j) hb
    rw [e_spec_l03Cmp (slp l b ((j : Int) + 1)) (slp l b (bst l b j)) (by omega) (by omega)]
    simp only [Option.bind_some]
    rw [bst_s] at ih
    by_cases c : cmpS (slp l b ((j : Int) + 1)) (slp l b (bst l b j)) > 0
    · simp only [if_pos c] at ih ⊢; exact ih
    · simp only [if_neg c] at ih ⊢; exact ih
  · refine evs ?_
    simp (disch := omega) only [spec_l03Steepest.l0, if_neg]
    exact evo rfl

/-! find2 -/
theorem ev_find2 {ρ : Type} (L : Nat → Nat → Option ρ) (p : Nat → Bool) (n : Nat) (r1 : ρ) (r2 : Nat → ρ)
    (ht : ∀ j r, j < n → p j = true → Ev (fun k => L k (j + 1)) r → Ev (fun k => L k j) r) (hf : ∀ j, j < n → p j = false → Ev (fun k => L k j) (r2 j))
    (he : (∀ j, j < n → p j = true) → Ev (fun k => L k n) r1) : Ev (fun k => L k 0) (ff p r1 r2 n 0) := by
  suffices H : ∀ d j, j + d = n → (∀ i, i < j → p i = true) → Ev (fun k => L k j) (ff p r1 r2 d j) from H n 0 (by omega) (fun i hi => by omega)
  intro d
  induction d with
  | zero => intro j hj hp; obtain rfl : j = n := by omega
            exact he hp
  | succ d ih =>
    intro j hj hp
    unfold ff
    by_cases c : p j = true
    · rw [if_pos c]; exact ht j _ (by omega) c (ih (j + 1) (by omega) (fun i hi => by by_cases e : i = j; · rw [e]; exact c
                                                                                      · exact hp i (by omega)))
    · rw [if_neg c]; exact hf j (by omega) (by simpa using c)
theorem ff_map {ρ σ : Type} (f : ρ → σ) (p : Nat → Bool) (r1 : ρ) (r2 : Nat → ρ) (d j : Nat) : f (ff p r1 r2 d j) = ff p (f r1) (fun i => f (r2 i)) d j := by
  induction d generalizing j with
  | zero => rfl
  | succ d ih => unfold ff; split
                 · exact ih _
                 · rfl

/-! LeastBase -/
/-- A fraction is at most another; denominators are positive. -/
def fle (x y : Int × Int) : Prop := sz x.1 * y.2 ≤ sz y.1 * x.2
instance (x y : Int × Int) : Decidable (fle x y) := by unfold fle; infer_instance
theorem fle_trans {x y z : Int × Int} (hy : 0 < y.2) (hx : 0 ≤ x.2) (hz : 0 ≤ z.2) (h1 : fle x y) (h2 : fle y z) : fle x z := by
  unfold fle at *
  have a1 := Int.mul_le_mul_of_nonneg_right h1 hz
  have a2 := Int.mul_le_mul_of_nonneg_right h2 hx
  apply Int.le_of_mul_le_mul_left (a := y.2) _ hy
  calc y.2 * (sz x.1 * z.2) = sz x.1 * y.2 * z.2 := by rw [← Int.mul_assoc, Int.mul_comm y.2]
    _ ≤ sz y.1 * x.2 * z.2 := a1
    _ = sz y.1 * z.2 * x.2 := by rw [Int.mul_assoc, Int.mul_comm x.2, ← Int.mul_assoc]
    _ ≤ sz z.1 * y.2 * x.2 := a2
    _ = y.2 * (sz z.1 * x.2) := by rw [Int.mul_comm (sz z.1), Int.mul_assoc]
theorem fle_total (x y : Int × Int) (h : ¬ fle x y) : fle y x := by unfold fle at *; omega
theorem fle_refl (x : Int × Int) : fle x x := Int.le_refl _
theorem sz_nn' (a : Int) : 0 ≤ sz a := by unfold sz; split <;> omega
theorem sz_le {a m : Int} (h0 : -m ≤ a) (h1 : a ≤ m) : sz a ≤ m := by unfold sz; split <;> omega
theorem cmpS_fle (x y : Int × Int) (hx : -1000000000 ≤ x.1 ∧ x.1 ≤ 1000000000) (hy : -1000000000 ≤ y.1 ∧ y.1 ≤ 1000000000) (hx2 : 0 ≤ x.2 ∧ x.2 ≤ 1000000000) (hy2 : 0 ≤ y.2 ∧ y.2 ≤ 1000000000) : (cmpS x y ≤ 0 ↔ fle x y) ∧ (cmpS x y > 0 ↔ ¬ fle x y) := by
  have a := mul_b (sz_nn' x.1) (sz_le (m := 1000000000) hx.1 hx.2) hy2.1 hy2.2
  have b := mul_b (sz_nn' y.1) (sz_le (m := 1000000000) hy.1 hy.2) hx2.1 hx2.2
  unfold cmpS fle
  rw [w64 (by omega) (by omega), w64 (by omega) (by omega)]
  constructor
  · split
    · omega
    · split <;> omega
  · split
    · omega
    · split <;> omega
theorem bst_b (l : List Int) (b : Int) (j : Nat) : 0 ≤ bst l b j ∧ bst l b j ≤ j := by
  induction j with
  | zero => simp [bst]
  | succ j ih => rw [bst_s]; split <;> omega
theorem slp_pos (l : List Int) (hv : Valid l) (b i : Int) (hb : 1 ≤ b ∧ b ≤ 1000000) : sz (slp l b i).1 * slpG l b i = sz (slpN l i) ∧ (slp l b i).2 * slpG l b i = slpD l b i ∧ 1 ≤ slpG l b i := by
  obtain ⟨_, _, n3⟩ := slpN_b l hv i
  have d := slpD_b l hv b i hb
  have g := slpG_b l hv b i hb
  have t1 := tdiv_b (slpN l i) (n := slpG l b i) (by omega) 25200000 (by omega) (by omega)
  have t2 := tdiv_b (slpD l b i) (n := slpG l b i) (by omega) 44440000 (by omega) (by omega)
  have dv1 : slpG l b i ∣ ((sz (slpN l i)).toNat : Int) := by unfold slpG; exact Int.natCast_dvd_natCast.mpr (Nat.gcd_dvd_left _ _)
  have dv2 : slpG l b i ∣ ((slpD l b i).toNat : Int) := by unfold slpG; exact Int.natCast_dvd_natCast.mpr (Nat.gcd_dvd_right _ _)
  rw [Int.toNat_of_nonneg (sz_nn _)] at dv1
  rw [Int.toNat_of_nonneg (by omega)] at dv2
  have dvN : slpG l b i ∣ slpN l i := by
    unfold sz at dv1; split at dv1
    · exact (Int.dvd_neg).mp dv1
    · exact dv1
  have e1 : Int.tdiv (slpN l i) (slpG l b i) * slpG l b i = slpN l i := Int.tdiv_mul_cancel dvN
  have e2 : Int.tdiv (slpD l b i) (slpG l b i) * slpG l b i = slpD l b i := Int.tdiv_mul_cancel dv2
  unfold slp
  dsimp only
  rw [w64 (by omega) (by omega), w64 (by omega) (by omega)]
  refine ⟨?_, e2, g⟩
  generalize Int.tdiv (slpN l i) (slpG l b i) = q at e1 ⊢
  rw [← e1]
  generalize slpG l b i = gg at g ⊢
  unfold sz
  by_cases hq : q < 0
  · rw [if_pos hq, if_pos (Int.mul_neg_of_neg_of_pos hq (by omega)), Int.neg_mul]
  · have := Int.mul_nonneg (show 0 ≤ q by omega) (show 0 ≤ gg by omega)
    rw [if_neg hq, if_neg (by omega)]
theorem slp2_pos (l : List Int) (hv : Valid l) (b i : Int) (hb : 1 ≤ b ∧ b ≤ 1000000) : 0 < (slp l b i).2 := by
  obtain ⟨_, e2, g⟩ := slp_pos l hv b i hb
  have d := slpD_b l hv b i hb
  apply Int.lt_of_not_ge; intro h
  have := Int.mul_le_mul_of_nonneg_right h (show 0 ≤ slpG l b i by omega)
  rw [Int.zero_mul] at this; omega
theorem bst_max (l : List Int) (hv : Valid l) (b : Int) (hb : 1 ≤ b ∧ b ≤ 1000000) (j : Nat) : ∀ i : Nat, i ≤ j → fle (slp l b (i : Int)) (slp l b (bst l b j)) := by
  induction j with
  | zero => intro i hi; obtain rfl : i = 0 := by omega
            exact fle_refl _
  | succ j ih =>
    intro i hi
    have s1 := slp_b l hv b ((j : Int) + 1) hb
    have s2 := slp_b l hv b (bst l b j) hb
    have c := cmpS_fle (slp l b ((j : Int) + 1)) (slp l b (bst l b j)) (by omega) (by omega) (by omega) (by omega)
    rw [bst_s]
    by_cases q : cmpS (slp l b ((j : Int) + 1)) (slp l b (bst l b j)) > 0
    · rw [if_pos q]
      have f1 := fle_total _ _ (c.2.mp q)
      by_cases e : i = j + 1
      · subst e; exact fle_refl _
      · exact fle_trans (slp2_pos l hv b _ hb) (by have := slp_b l hv b (i : Int) hb; omega) (by omega) (ih i (by omega)) f1
    · rw [if_neg q]
      by_cases e : i = j + 1
      · subst e; exact c.1.mp (by omega)
      · exact ih i (by omega)
/-- The base is wide enough for the slope at a step. -/
def okI (l : List Int) (t : Int × Int) (b i : Int) : Prop := sz (slpN l i) * t.2 ≤ t.1 * slpD l b i
theorem fle_okI (l : List Int) (hv : Valid l) (t : Int × Int) (ht : 1 ≤ t.1) (b i : Int) (hb : 1 ≤ b ∧ b ≤ 1000000) : fle (slp l b i) t ↔ okI l t b i := by
  obtain ⟨e1, e2, g⟩ := slp_pos l hv b i hb
  unfold fle okI
  have es : sz t.1 = t.1 := by unfold sz; rw [if_neg (by omega)]
  rw [es, ← e1, ← e2]
  have h1 : sz (slp l b i).1 * slpG l b i * t.2 = sz (slp l b i).1 * t.2 * slpG l b i := by rw [Int.mul_assoc, Int.mul_comm (slpG l b i), ← Int.mul_assoc]
  have h2 : t.1 * ((slp l b i).2 * slpG l b i) = t.1 * (slp l b i).2 * slpG l b i := by rw [Int.mul_assoc]
  rw [h1, h2]
  constructor
  · intro h; exact Int.mul_le_mul_of_nonneg_right h (by omega)
  · intro h; exact Int.le_of_mul_le_mul_right h (by omega)
theorem steep_ok (l : List Int) (hv : Valid l) (t : Int × Int) (ht : 1 ≤ t.1 ∧ t.1 ≤ 1000000000) (ht2 : 1 ≤ t.2 ∧ t.2 ≤ 1000000000) (b : Int) (hb : 1 ≤ b ∧ b ≤ 1000000) :
    cmpS (slp l b (bst l b (l.length - 1))) t ≤ 0 ↔ ∀ i : Nat, i < l.length → okI l t b (i : Int) := by
  have hn := hv.1
  have s2 := slp_b l hv b (bst l b (l.length - 1)) hb
  have bb := bst_b l b (l.length - 1)
  rw [(cmpS_fle _ t (by omega) (by omega) (by omega) (by omega)).1]
  constructor
  · intro h i hi
    rw [← fle_okI l hv t ht.1 b i hb]
    exact fle_trans (slp2_pos l hv b _ hb) (by have := slp_b l hv b (i : Int) hb; omega) (by omega) (bst_max l hv b hb (l.length - 1) i (by omega)) h
  · intro h
    have := h (bst l b (l.length - 1)).toNat (by omega)
    rw [Int.toNat_of_nonneg bb.1] at this
    exact (fle_okI l hv t ht.1 b _ hb).mpr this
/-- The least base for a step. -/
def cI (l : List Int) (t : Int × Int) (i : Int) : Int := -((-(sz (slpN l i) * t.2)) / (44 * t.1)) - atz l i
theorem okI_c (l : List Int) (t : Int × Int) (ht : 1 ≤ t.1) (b i : Int) : okI l t b i ↔ cI l t i ≤ b := by
  unfold okI cI slpD
  have e : t.1 * (44 * (b + atz l i)) = (b + atz l i) * (44 * t.1) := by rw [Int.mul_comm (b + atz l i), ← Int.mul_assoc, Int.mul_comm t.1 44]
  rw [e]
  have k := Int.le_ediv_iff_mul_le (a := -(b + atz l i)) (b := -(sz (slpN l i) * t.2)) (c := 44 * t.1) (by omega)
  rw [Int.neg_mul] at k
  constructor
  · intro h
    have := k.mpr (by omega)
    omega
  · intro h
    have := k.mp (by omega)
    omega
def mB (l : List Int) (t : Int × Int) : Nat → Int
  | 0 => 1
  | j + 1 => mx (mB l t j) (cI l t (j : Int))
theorem mB_s (l : List Int) (t : Int × Int) (j : Nat) : mB l t (j + 1) = mx (mB l t j) (cI l t (j : Int)) := rfl
theorem mB_le (l : List Int) (t : Int × Int) (b : Int) (j : Nat) : mB l t j ≤ b ↔ 1 ≤ b ∧ ∀ i : Nat, i < j → cI l t (i : Int) ≤ b := by
  induction j with
  | zero => exact ⟨fun h => ⟨h, fun i hi => by omega⟩, fun h => h.1⟩
  | succ j ih =>
    rw [mB_s]
    have e : mx (mB l t j) (cI l t (j : Int)) ≤ b ↔ mB l t j ≤ b ∧ cI l t (j : Int) ≤ b := by unfold mx; split <;> omega
    rw [e, ih]
    constructor
    · rintro ⟨⟨h1, h2⟩, h3⟩
      exact ⟨h1, fun i hi => by by_cases c : i = j
                                · rw [c]; exact h3
                                · exact h2 i (by omega)⟩
    · rintro ⟨h1, h2⟩
      exact ⟨⟨h1, fun i hi => h2 i (by omega)⟩, h2 j (by omega)⟩
def lbR (l : List Int) (p q : Int) : Int × Int := if Valid l ∧ (1 ≤ q ∧ q ≤ 1000000000) ∧ (-1000000000 ≤ p ∧ p ≤ 1000000000) then (if p ≤ 0 then (0, 2) else (if mB l (p, q) l.length > 20000 then (0, 6) else (mB l (p, q) l.length, 0))) else (0, 1)
theorem e_lb_search (l : List Int) (h16 : I16 l) (hv : Valid l) (p q : Int) (hp : 1 ≤ p ∧ p ≤ 1000000000) (hq : 1 ≤ q ∧ q ≤ 1000000000) (d : Nat) (lo hi : Int) (hd : hi - lo ≤ d) (h0 : 1 ≤ lo) (h1 : lo ≤ hi) (h2 : hi ≤ 20001) (hB : lo ≤ mB l (p, q) l.length) (hB2 : mB l (p, q) l.length ≤ hi ∨ (hi = 20001 ∧ mB l (p, q) l.length > 20000)) :
    Ev (fun k => spec_LeastBase.l0 k l lo hi p q) (if mB l (p, q) l.length > 20000 then (0, 6) else (mB l (p, q) l.length, 0)) := by
  have hn := hv.1
  induction d generalizing lo hi with
  | zero =>
    refine evs ?_
    simp (disch := omega) only [spec_LeastBase.l0, if_neg]
    by_cases c : lo > 20000
    · simp (disch := omega) only [if_pos]; exact evo rfl
    · have e : mB l (p, q) l.length = lo := by omega
      rw [e]
      simp (disch := omega) only [if_neg]; exact evo rfl
  | succ d ih =>
    by_cases hc : lo < hi
    · refine evs ?_
      have em : Int.tdiv (lo + hi) 2 = (lo + hi) / 2 := tdiv_pos (by omega)
      have hm1 : lo ≤ (lo + hi) / 2 := by omega
      have hm2 : (lo + hi) / 2 < hi := by omega
      simp (disch := omega) only [spec_LeastBase.l0, if_pos, w64, em]
      refine Ev.bind (e_spec_l03Steepest l h16 hv ((lo + hi) / 2) ⟨by omega, by omega⟩) ?_
      have s2 := slp_b l hv ((lo + hi) / 2) (bst l ((lo + hi) / 2) (l.length - 1)) ⟨by omega, by omega⟩
      have ec := e_spec_l03Cmp (slp l ((lo + hi) / 2) (bst l ((lo + hi) / 2) (l.length - 1))) (p, q) (by omega) ⟨by dsimp only; omega, by dsimp only; omega⟩
      dsimp only at ec
      dsimp only
      rw [ec]
      simp only [Option.bind_some]
      have ok := steep_ok l hv (p, q) hp hq ((lo + hi) / 2) ⟨by omega, by omega⟩
      have eb : (∀ i : Nat, i < l.length → okI l (p, q) ((lo + hi) / 2) (i : Int)) ↔ mB l (p, q) l.length ≤ (lo + hi) / 2 := by
        rw [mB_le]
        constructor
        · intro h; exact ⟨by omega, fun i hi' => (okI_c l (p, q) hp.1 _ _).mp (h i hi')⟩
        · intro h i hi'; exact (okI_c l (p, q) hp.1 _ _).mpr (h.2 i hi')
      rw [eb] at ok
      by_cases c : cmpS (slp l ((lo + hi) / 2) (bst l ((lo + hi) / 2) (l.length - 1))) (p, q) ≤ 0
      · simp only [if_pos c]
        exact ih lo ((lo + hi) / 2) (by omega) h0 hm1 (by omega) hB (.inl (ok.mp c))
      · simp only [if_neg c]
        have := fun h => c (ok.mpr h)
        refine ih ((lo + hi) / 2 + 1) hi (by omega) (by omega) (by omega) h2 (by omega) hB2
    · refine evs ?_
      simp (disch := omega) only [spec_LeastBase.l0, if_neg]
      by_cases c : lo > 20000
      · simp (disch := omega) only [if_pos]; exact evo rfl
      · have e : mB l (p, q) l.length = lo := by omega
        rw [e]
        simp (disch := omega) only [if_neg]; exact evo rfl
theorem mB_ge (l : List Int) (t : Int × Int) (j : Nat) : 1 ≤ mB l t j := ((mB_le l t _ j).mp (Int.le_refl _)).1
theorem e_spec_LeastBase (l : List Int) (h16 : I16 l) (hl : l.length ≤ 1048576) (p q : Int) : Ev (fun k => spec_LeastBase.f k l p q) (lbR l p q) := by
  unfold spec_LeastBase.f lbR
  refine Ev.bind (e_spec_l01Ok l h16 hl) ?_
  by_cases v : Valid l
  · simp only [v, decide_true, if_true, true_and, spec_l03Told.f, e_spec_l00In, Option.bind_some]
    by_cases c1 : 1 ≤ q ∧ q ≤ 1000000000
    · simp only [decide_eq_true c1, if_true, Option.bind_some]
      refine evs ?_
      by_cases c2 : -1000000000 ≤ p ∧ p ≤ 1000000000
      · rw [if_pos ⟨c1, c2⟩]
        simp only [decide_eq_true c2, spec_LeastBase.j0, Bool.not_true, Bool.false_eq_true, if_false]
        by_cases c3 : p ≤ 0
        · simp only [if_pos c3]; exact evo rfl
        · simp only [if_neg c3]
          exact e_lb_search l h16 v p q ⟨by omega, c2.2⟩ c1 20000 1 20001 (by omega) (by omega) (by omega) (by omega) (mB_ge _ _ _) (by omega)
      · rw [if_neg (fun h => c2 h.2)]
        simp only [decide_eq_false c2, spec_LeastBase.j0, Bool.not_false, if_true]; exact evo rfl
    · have hneg : ¬ ((1 ≤ q ∧ q ≤ 1000000000) ∧ (-1000000000 ≤ p ∧ p ≤ 1000000000)) := fun h => c1 h.1
      rw [if_neg hneg]
      simp only [decide_eq_false c1, Bool.false_eq_true, if_false, Option.bind_some]
      refine evs ?_
      simp only [spec_LeastBase.j0, Bool.not_false, if_true]; exact evo rfl
  · rw [if_neg (fun h => v h.1)]
    simp only [v, decide_false, Bool.false_eq_true, if_false]
    refine evs ?_
    simp only [spec_LeastBase.j0, if_true]; exact evo rfl
theorem sz_chg (l : List Int) (i : Int) : sz (slpN l i) = sz (atz l (i + 1) - atz l i) * (l.length : Int) * 7 := by
  unfold slpN
  generalize atz l (i + 1) - atz l i = c
  have hn : 0 ≤ (l.length : Int) := by omega
  unfold sz
  by_cases h : c < 0
  · rw [if_pos h, Int.neg_mul, Int.neg_mul]
    by_cases z : c * (l.length : Int) * 7 < 0
    · rw [if_pos z]
    · have := Int.mul_le_mul_of_nonneg_right (show c ≤ 0 by omega) hn
      rw [Int.zero_mul] at this
      rw [if_neg z]; omega
  · rw [if_neg h]
    have := Int.mul_nonneg (show 0 ≤ c by omega) hn
    rw [if_neg (by omega)]
theorem e_impl_LeastBase (l : List Int) (h16 : I16 l) (hl : l.length ≤ 1048576) (p q : Int) : Ev (fun k => impl_LeastBase.f k l p q) (lbR l p q) := by
  unfold impl_LeastBase.f lbR
  refine Ev.bind (e_impl_ValidCam l h16 hl) ?_
  by_cases v : Valid l
  · simp only [v, decide_true, if_true, true_and, impl_isSlope.f, e_impl_inRange, Option.bind_some]
    by_cases c1 : 1 ≤ q ∧ q ≤ 1000000000
    · simp only [decide_eq_true c1, if_true, Option.bind_some]
      refine evs ?_
      by_cases c2 : -1000000000 ≤ p ∧ p ≤ 1000000000
      · rw [if_pos ⟨c1, c2⟩]
        simp only [decide_eq_true c2, impl_LeastBase.j0, Bool.not_true, Bool.false_eq_true, if_false]
        by_cases c3 : p ≤ 0
        · simp only [if_pos c3]; exact evo rfl
        · simp only [if_neg c3, e_impl_Cam_steps, Option.bind_some]
          have hn := v.1
          have hn2 := v.2.1
          have := ev_loop (fun k j => impl_LeastBase.l0 k l (mB l (p, q) j) (l.length : Int) (j : Int) p q) l.length (if mB l (p, q) l.length > 20000 then ((0 : Int), (6 : Int)) else (mB l (p, q) l.length, (0 : Int))) ?_ ?_
          · exact this
          · intro j hj ih
            refine evs ?_
            have a := v.atzb ((j : Int) + 1)
            have b := v.atzb (j : Int)
            have sc := sz_nn' (atz l ((j : Int) + 1) - atz l (j : Int))
            have sc2 := sz_le (a := atz l ((j : Int) + 1) - atz l (j : Int)) (m := 10000) (by omega) (by omega)
            have m1 := mul_b sc sc2 (show (0 : Int) ≤ (l.length : Int) by omega) (show (l.length : Int) ≤ 360 by omega)
            have m2 := mul_b (A := 25200000) (show 0 ≤ sz (atz l ((j : Int) + 1) - atz l (j : Int)) * (l.length : Int) * 7 by omega) (by omega) (show 0 ≤ q by omega) c1.2
            have e1 : -sz (atz l ((j : Int) + 1) - atz l (j : Int)) * (l.length : Int) = -(sz (atz l ((j : Int) + 1) - atz l (j : Int)) * (l.length : Int)) := Int.neg_mul _ _
            have e2 : -(sz (atz l ((j : Int) + 1) - atz l (j : Int)) * (l.length : Int)) * 7 = -(sz (atz l ((j : Int) + 1) - atz l (j : Int)) * (l.length : Int) * 7) := Int.neg_mul _ _
            have e3 : -(sz (atz l ((j : Int) + 1) - atz l (j : Int)) * (l.length : Int) * 7) * q = -(sz (atz l ((j : Int) + 1) - atz l (j : Int)) * (l.length : Int) * 7 * q) := Int.neg_mul _ _
            have db := ediv_b (-(sz (atz l ((j : Int) + 1) - atz l (j : Int)) * (l.length : Int) * 7 * q)) (n := 44 * p) (by omega) 25200000000000000 (by omega) (by omega)
            unfold impl_LeastBase.l0 impl_Cam_change.f
            simp (disch := omega) only [if_pos, w64, e_impl_Cam_at l h16, e_impl_abs, e_impl_Cam_steps, Option.bind_some, e1, e2, e3, e_impl_floorDiv]
            rw [mB_s] at ih
            unfold cI at ih
            rw [sz_chg] at ih
            exact ih
          · refine evs ?_
            simp (disch := omega) only [impl_LeastBase.l0, if_neg]
            by_cases c : mB l (p, q) l.length > 20000
            · simp only [if_pos c]; exact evo rfl
            · simp only [if_neg c]; exact evo rfl
      · rw [if_neg (fun h => c2 h.2)]
        simp only [decide_eq_false c2, impl_LeastBase.j0, Bool.not_false, if_true]; exact evo rfl
    · have hneg : ¬ ((1 ≤ q ∧ q ≤ 1000000000) ∧ (-1000000000 ≤ p ∧ p ≤ 1000000000)) := fun h => c1 h.1
      rw [if_neg hneg]
      simp only [decide_eq_false c1, Bool.false_eq_true, if_false, Option.bind_some]
      refine evs ?_
      simp only [impl_LeastBase.j0, Bool.not_false, if_true]; exact evo rfl
  · rw [if_neg (fun h => v h.1)]
    simp only [v, decide_false, Bool.false_eq_true, if_false]
    refine evs ?_
    simp only [impl_LeastBase.j0, if_true]; exact evo rfl

/-! laws_cam -/
theorem e_laws_toCam (l : List Int) (hl : l.length ≤ 1048576) : Ev (fun k => laws_toCam.f k l) l := by
  unfold laws_toCam.f
  simp (disch := omega) only [if_pos]
  have := ev_loop (fun k j => laws_toCam.l0 k l (l.take j ++ List.replicate (l.length - j) 0) (j : Int)) l.length l ?_ ?_
  · simpa using this
  · intro j hj ih
    refine evs ?_
    have e : ((l.take j ++ List.replicate (l.length - j) 0).length : Int) = l.length := by simp; omega
    simp (disch := omega) only [laws_toCam.l0, if_pos, e, w64]
    have e2 : (l.take j ++ List.replicate (l.length - j) 0).set ((j : Int)).toNat (rd l (j : Int)) = l.take (j + 1) ++ List.replicate (l.length - (j + 1)) 0 := by
      have e3 : l.length - j = (l.length - (j + 1)) + 1 := by omega
      rw [e3, List.replicate_succ, Int.toNat_natCast, set_app _ _ _ _ _ (by simp; omega), rd_nat, List.take_succ_eq_append_getElem hj]
      have e4 : l.getD j 0 = l[j] := by simp [List.getD_eq_getElem?_getD, hj]
      rw [e4, List.append_assoc, List.singleton_append]
    rw [e2]
    exact ih
  · refine evs ?_
    simp (disch := omega) only [laws_toCam.l0, if_neg]
    exact evo (by simp)
theorem e_laws_eqCam (l : List Int) (hl : l.length ≤ 1048576) : Ev (fun k => laws_eqCam.f k l l) true := by
  unfold laws_eqCam.f
  simp only [if_true]
  have := ev_loop (fun k j => laws_eqCam.l0 k l l (j : Int)) l.length true ?_ ?_
  · exact this
  · intro j hj ih
    refine evs ?_
    simp (disch := omega) only [laws_eqCam.l0, if_pos, if_true, w64]
    exact ih
  · refine evs ?_
    simp (disch := omega) only [laws_eqCam.l0, if_neg]
    exact evo rfl

set_option maxHeartbeats 4000000 in
theorem FnExactLeastBase : ∀ (l0 : List Int) (a1_0 : Int) (a1_1 : Int), (l0.length ≤ maxLen ∧ ∀ x2 ∈ l0, (Lit.int .i16 x2).wf = true) → (Lit.int .i64 a1_0).wf = true → (Lit.int .i64 a1_1).wf = true → ∃ k, laws_FnExactLeastBase.f k l0 a1_0 a1_1 = some true := by
  rintro l0 a1_0 a1_1 ⟨_, w0⟩ v1 v2
  have h0 := I16.of_wf w0
  have i1 := wf_i64 v1
  have i2 := wf_i64 v2
  refine ev_rounds ?_
  unfold laws_FnExactLeastBase.f
  by_cases b0 : (l0.length : Int) > 1048576
  · simp only [if_pos b0]; exact evo rfl
  simp only [if_neg b0]
  have b0 : l0.length ≤ 1048576 := by omega
  have T0 := e_laws_toCam l0 b0
  have Q0 := e_laws_eqCam l0 b0
  have A := e_spec_LeastBase l0 h0 b0 a1_0 a1_1
  have B := e_impl_LeastBase l0 h0 b0 a1_0 a1_1
  revert A B
  generalize (lbR l0 a1_0 a1_1) = RR
  obtain ⟨c0, c1⟩ := RR
  intro A B
  repeat (first | exact evo rfl | (simp only [laws_toSlope.f, Option.bind_some]) | (with_reducible refine Ev.bind T0 ?_) | (with_reducible refine Ev.bind Q0 ?_) | (with_reducible refine Ev.bind A ?_) | (with_reducible refine Ev.bind B ?_) | ((with_reducible refine ev_pos ?s1 ?_); (case s1 => first | rfl | trivial | omega | (dsimp only; omega))) | ((with_reducible refine ev_neg ?s1 ?_); (case s1 => first | omega | (dsimp only; omega) | (simp; done))) | (refine evs ?_; simp only [laws_FnExactLeastBase.j0]))


end Go.Proofs.Ytmklaccobbkebaa.Pure
