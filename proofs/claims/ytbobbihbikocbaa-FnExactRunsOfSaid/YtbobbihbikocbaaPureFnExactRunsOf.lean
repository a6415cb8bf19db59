/- The pure statement of the law FnExactRunsOf: the program's function and the reference's tell the same of every input, by plain lemmas on numbers, lists and rounds; no further condition. -/
import Derived.Test.YtbobbihbikocbaaXFnExactRunsOfx6
import Derived.Test.YtbobbihbikocbaaXLib
namespace Go.Proofs.Ytbobbihbikocbaa.Pure
open Go.RowKit Go.Proofs.Ytbobbihbikocbaa.XFnExactRunsOf Go.Proofs.Ytbobbihbikocbaa.XLib Go.Proofs.YtbobbihbikocbaaW.PrintWords Go.Proofs.YtbobbihbikocbaaW.PrintLast Go.Proofs.YtbobbihbikocbaaW.PrintMore
set_option maxRecDepth 100000
set_option linter.unusedVariables false
set_option linter.unusedSimpArgs false
/-! base_spec -/
theorem e_spec_l00In (a b c : Int) : spec_l00In.f a b c = some (decide (b ≤ a ∧ a ≤ c)) := by
  unfold spec_l00In.f
  by_cases h : b ≤ a <;> simp [h]
theorem e_spec_l01Steps (a : Int) : spec_l01Steps.f a = some (decide (8 ≤ a ∧ a ≤ 360)) := by
  unfold spec_l01Steps.f; rw [e_spec_l00In]; rfl
theorem e_spec_l01Lift (a : Int) : spec_l01Lift.f a = some (decide (0 ≤ a ∧ a ≤ 10000)) := by
  unfold spec_l01Lift.f; rw [e_spec_l00In]; rfl
theorem e_spec_l01Ok (l : List Int) (h16 : I16 l) (hl : l.length ≤ 1048576) : Ev (fun k => spec_l01Ok.f k l) (decide (Valid l)) := by
  unfold spec_l01Ok.f
  simp only [e_spec_l01Steps, Option.bind_some]
  by_cases h : 8 ≤ (l.length : Int) ∧ (l.length : Int) ≤ 360
  · simp only [h, and_self, decide_true, if_true]
    have := ev_find (fun k j => spec_l01Ok.l0 k l (j : Int)) (fun j => decide (0 ≤ rd l (j : Int) ∧ rd l (j : Int) ≤ 10000)) l.length true (fun _ => false) ?_ ?_ ?_
    · rw [ff_all] at this
      refine eve this ?_
      apply decide_eq_decide.mpr
      unfold Valid
      constructor
      · intro hh; exact ⟨by omega, by omega, fun j hj => by simpa using hh j hj⟩
      · intro hh j hj; simpa using hh.2.2 j hj
    · intro j r hj hp ih
      refine evs ?_
      have hb := h16.rdb (j : Int)
      simp (disch := omega) only [spec_l01Ok.l0, if_pos, e_spec_l01Lift, Option.bind_some, w64]
      first | exact ih | (rw [hp]; simp only [if_true]; exact ih)
    · intro j hj hp
      refine evs ?_
      have hb := h16.rdb (j : Int)
      simp (disch := omega) only [spec_l01Ok.l0, if_pos, e_spec_l01Lift, Option.bind_some, w64]
      first | exact evo rfl | (rw [hp]; exact evo rfl)
    · refine evs ?_
      simp (disch := omega) only [spec_l01Ok.l0, if_neg]
      exact evo rfl
  · rw [decide_eq_false h]
    simp only [Bool.false_eq_true, if_false]
    exact evo (decide_eq_false (fun hv => h ⟨by have := hv.1; omega, by have := hv.2.1; omega⟩)).symm

/-! base_impl -/
theorem e_impl_inRange (a b c : Int) : impl_inRange.f a b c = some (decide (b ≤ a ∧ a ≤ c)) := by
  unfold impl_inRange.f
  by_cases h : b ≤ a <;> simp [h]
theorem e_impl_isSteps (a : Int) : impl_isSteps.f a = some (decide (8 ≤ a ∧ a ≤ 360)) := by
  unfold impl_isSteps.f; rw [e_impl_inRange]; rfl
theorem e_impl_isLift (a : Int) : impl_isLift.f a = some (decide (0 ≤ a ∧ a ≤ 10000)) := by
  unfold impl_isLift.f; rw [e_impl_inRange]; rfl
theorem e_impl_Cam_steps (l : List Int) : impl_Cam_steps.f l = some (l.length : Int) := rfl
theorem e_impl_ValidCam (l : List Int) (h16 : I16 l) (hl : l.length ≤ 1048576) : Ev (fun k => impl_ValidCam.f k l) (decide (Valid l)) := by
  unfold impl_ValidCam.f
  simp only [e_impl_Cam_steps, e_impl_isSteps, Option.bind_some]
  by_cases h : 8 ≤ (l.length : Int) ∧ (l.length : Int) ≤ 360
  · simp only [h, and_self, decide_true, if_true]
    unfold slices_ContainsFunc_at_impl_ValidCam_c1.f slices_IndexFunc_at_impl_ValidCam_c1.f
    have := ev_find (fun k j => slices_IndexFunc_at_impl_ValidCam_c1.l0 k l (l.length : Int) (j : Int)) (fun j => decide (0 ≤ rd l (j : Int) ∧ rd l (j : Int) ≤ 10000)) l.length (-1) (fun j => (j : Int)) ?_ ?_ ?_
    · refine Ev.bind (Ev.bind this (evo rfl)) (evo ?_)
      rcases ff_eq (fun j => decide (0 ≤ rd l (j : Int) ∧ rd l (j : Int) ≤ 10000)) (-1 : Int) (fun j => (j : Int)) l.length with ⟨hh, e⟩ | ⟨m, hm, hf, _, e⟩
      · rw [e, decide_eq_true (show Valid l from ⟨by omega, by omega, fun j hj => by simpa using hh j hj⟩)]; rfl
      · rw [e, decide_eq_false (show ¬ Valid l from fun hv => by rw [decide_eq_true (hv.2.2 m hm)] at hf; cases hf)]
        simp
    · intro j r hj hp ih
      refine evs ?_
      have hb := h16.rdb (j : Int)
      simp (disch := omega) only [slices_IndexFunc_at_impl_ValidCam_c1.l0, impl_ValidCam_c1.f, if_pos, e_impl_isLift, Option.bind_some, w64]
      first | exact ih | (rw [hp]; simp only [Bool.not_true, Bool.false_eq_true, if_false]; exact ih)
    · intro j hj hp
      refine evs ?_
      have hb := h16.rdb (j : Int)
      simp (disch := omega) only [slices_IndexFunc_at_impl_ValidCam_c1.l0, impl_ValidCam_c1.f, if_pos, e_impl_isLift, Option.bind_some, w64]
      first | exact evo rfl | (rw [hp]; exact evo rfl)
    · refine evs ?_
      simp (disch := omega) only [slices_IndexFunc_at_impl_ValidCam_c1.l0, if_neg]
      exact evo rfl
  · rw [decide_eq_false h]
    simp only [Bool.false_eq_true, if_false]
    exact evo (decide_eq_false (fun hv => h ⟨by have := hv.1; omega, by have := hv.2.1; omega⟩)).symm

/-! spec_at -/
theorem e_spec_l01At (l : List Int) (h16 : I16 l) (h0 : 0 < l.length) (hl : l.length ≤ 1048576) (a : Int) (ha : -1000000000000 ≤ a) (hb : a ≤ 1000000000000) : spec_l01At.f l a = some (atz l a) := by
  unfold spec_l01At.f atz
  have hn : (0 : Int) < l.length := by omega
  have b := tmod_b a hn
  rw [if_neg (by omega), w64 (by omega) (by omega), two_mods a hn]
  have c := emod_b a hn
  rw [if_pos c.1, if_pos c.2]
  have := h16.rdb (a % (l.length : Int))
  rw [w64 (by omega) (by omega)]

/-! impl_mod -/
theorem e_impl_floorDiv (a n : Int) (h : 0 < n) (ha : -9223372036854775807 ≤ a) (hb : a ≤ 9223372036854775807) : impl_floorDiv.f a n = some (a / n) := by
  unfold impl_floorDiv.f
  have := tdiv_b a h 9223372036854775807 ha hb
  rw [if_neg (by omega), ← floor_tdiv a h]
  by_cases c : Int.tmod a n < 0
  · simp (disch := omega) only [if_pos c, w64]
  · simp (disch := omega) only [if_neg c, w64]
theorem e_impl_mod (a n : Int) (h : 0 < n) (hn : n ≤ 1048576) (ha : -1000000000000 ≤ a) (hb : a ≤ 1000000000000) : impl_mod.f a n = some (a % n) := by
  unfold impl_mod.f
  rw [e_impl_floorDiv a n h (by omega) (by omega)]
  have e := Int.emod_add_mul_ediv a n
  have b := emod_b a h
  simp (disch := omega) only [Option.bind_some, w64, mod_ediv]

/-! impl_at -/
theorem e_impl_Cam_at (l : List Int) (h16 : I16 l) (h0 : 0 < l.length) (hl : l.length ≤ 1048576) (a : Int) (ha : -1000000000000 ≤ a) (hb : a ≤ 1000000000000) : impl_Cam_at.f l a = some (atz l a) := by
  unfold impl_Cam_at.f atz
  have hn : (0 : Int) < l.length := by omega
  have c := emod_b a hn
  rw [e_impl_Cam_steps, Option.bind_some, e_impl_mod a _ hn (by omega) ha hb, Option.bind_some, if_pos c.1, if_pos c.2]
  have := h16.rdb (a % (l.length : Int))
  rw [w64 (by omega) (by omega)]

/-! find2 -/
theorem ev_find2 {ρ : Type} (L : Nat → Nat → Option ρ) (p : Nat → Bool) (n : Nat) (r1 : ρ) (r2 : Nat → ρ)
    (ht : ∀ j r, j < n → p j = true → Ev (fun k => L k (j + 1)) r → Ev (fun k => L k j) r) (hf : ∀ j, j < n → p j = false → Ev (fun k => L k j) (r2 j))
    (he : (∀ j, j < n → p j = true) → Ev (fun k => L k n) r1) : Ev (fun k => L k 0) (ff p r1 r2 n 0) := by
  suffices H : ∀ d j, j + d = n → (∀ i, i < j → p i = true) → Ev (fun k => L k j) (ff p r1 r2 d j) from H n 0 (by omega) (fun i hi => by omega)
  intro d
  induction d with
  | zero => intro j hj hp; obtain rfl : j = n := by omega
            exact he hp
  | succ d ih =>
    intro j hj hp
    unfold ff
    by_cases c : p j = true
    · rw [if_pos c]; exact ht j _ (by omega) c (ih (j + 1) (by omega) (fun i hi => by by_cases e : i = j; · rw [e]; exact c
                                                                                      · exact hp i (by omega)))
    · rw [if_neg c]; exact hf j (by omega) (by simpa using c)
theorem ff_map {ρ σ : Type} (f : ρ → σ) (p : Nat → Bool) (r1 : ρ) (r2 : Nat → ρ) (d j : Nat) : f (ff p r1 r2 d j) = ff p (f r1) (fun i => f (r2 i)) d j := by
  induction d generalizing j with
  | zero => rfl
  | succ d ih => unfold ff; split
                 · exact ih _
                 · rfl

/-! runs -/
def sgn (a : Int) : Int := if a > 0 then 1 else if a < 0 then -1 else 0
def chv (l : List Int) (i : Int) : Int := atz l (i + 1) - atz l i
def kdv (l : List Int) (i : Int) : Int := sgn (chv l i)
theorem atz_per (l : List Int) (i : Int) : atz l (i % (l.length : Int)) = atz l i := by unfold atz; rw [Int.emod_emod_of_dvd _ (Int.dvd_refl _)]
theorem kdv_mod (l : List Int) (i : Int) : kdv l (i % (l.length : Int)) = kdv l i := by
  unfold kdv chv
  have e : atz l (i % (l.length : Int) + 1) = atz l (i + 1) := by unfold atz; rw [Int.emod_add_emod]
  rw [e, atz_per]
theorem kdv_congr (l : List Int) (i j : Int) (h : i % (l.length : Int) = j % (l.length : Int)) : kdv l i = kdv l j := by
  rw [← kdv_mod l i, ← kdv_mod l j, h]
/-- How long a run is: from x on, at most m. -/
def rlen (l : List Int) (x : Int) (m : Nat) : Nat := ff (fun j : Nat => decide (kdv l (x + ((j : Int) + 1)) = kdv l x)) m (fun j => j + 1) (m - 1) 0
theorem rlen_e (l : List Int) (x : Int) (m : Nat) (hm : 1 ≤ m) : 1 ≤ rlen l x m ∧ rlen l x m ≤ m ∧ (∀ j, j + 1 < rlen l x m → kdv l (x + ((j : Int) + 1)) = kdv l x) ∧ (rlen l x m < m → kdv l (x + (rlen l x m : Int)) ≠ kdv l x) := by
  unfold rlen
  rcases ff_eq (fun j : Nat => decide (kdv l (x + ((j : Int) + 1)) = kdv l x)) m (fun j => j + 1) (m - 1) with ⟨h, e⟩ | ⟨q, hq, hf, hp, e⟩
  · rw [e]; exact ⟨hm, Nat.le_refl _, fun j hj => of_decide_eq_true (h j (by omega)), fun hh => by omega⟩
  · rw [e]; exact ⟨by omega, by omega, fun j hj => of_decide_eq_true (hp j (by omega)), fun _ => by
      have := of_decide_eq_false hf
      rw [show ((q + 1 : Nat) : Int) = (q : Int) + 1 from rfl]; exact this⟩
theorem rlen_congr (l : List Int) (x y : Int) (m : Nat) (h : x % (l.length : Int) = y % (l.length : Int)) : rlen l x m = rlen l y m := by
  have e : (fun j : Nat => decide (kdv l (x + ((j : Int) + 1)) = kdv l x)) = fun j : Nat => decide (kdv l (y + ((j : Int) + 1)) = kdv l y) := by
    funext j
    rw [kdv_congr l x y h, kdv_congr l (x + ((j : Int) + 1)) (y + ((j : Int) + 1)) (by rw [Int.add_emod, h, ← Int.add_emod])]
  unfold rlen; rw [e]
def rns (l : List Int) : Nat → Int → Nat → List S137
  | 0, _, _ => []
  | f + 1, x, m => if m = 0 then [] else ⟨kdv l x, x % (l.length : Int), (rlen l x m : Int)⟩ :: rns l f (x + (rlen l x m : Int)) (m - rlen l x m)
theorem rns_congr (l : List Int) (f : Nat) (x y : Int) (m : Nat) (h : x % (l.length : Int) = y % (l.length : Int)) : rns l f x m = rns l f y m := by
  induction f generalizing x y m with
  | zero => rfl
  | succ f ih =>
    unfold rns
    rw [kdv_congr l x y h, h, rlen_congr l x y m h, ih (x + (rlen l y m : Int)) (y + (rlen l y m : Int)) _ (by rw [Int.add_emod, h, ← Int.add_emod])]
theorem rns_len (l : List Int) (f : Nat) (x : Int) (m : Nat) : (rns l f x m).length ≤ f := by
  induction f generalizing x m with
  | zero => exact Nat.le_refl _
  | succ f ih =>
    unfold rns
    split
    · exact Nat.zero_le _
    · simp only [List.length_cons]; have := ih (x + (rlen l x m : Int)) (m - rlen l x m); omega
def chL (l : List Int) : List Int := (List.range l.length).map fun i : Nat => chv l i
theorem chL_len (l : List Int) : (chL l).length = l.length := by simp [chL]
theorem chL_rd (l : List Int) (i : Int) (h0 : 0 ≤ i) (h1 : i < l.length) : rd (chL l) i = chv l i := by
  unfold chL; rw [rd_map _ _ _ h0 h1, Int.toNat_of_nonneg h0]
theorem e_spec_l01Changes (l : List Int) (h16 : I16 l) (hv : Valid l) : Ev (fun k => spec_l01Changes.f k l) (chL l) := by
  have hn := hv.1
  have hn2 := hv.2.1
  unfold spec_l01Changes.f
  have := ev_loop (fun k j => spec_l01Changes.l0 k l ((List.range j).map fun i : Nat => chv l i) (j : Int)) l.length (chL l) ?_ ?_
  · exact this
  · intro j hj ih
    refine evs ?_
    have a := hv.atzb ((j : Int) + 1)
    have b := hv.atzb (j : Int)
    have e1 : ((List.range j).map fun i : Nat => chv l i).length = j := by simp
    simp (disch := omega) only [spec_l01Changes.l0, if_pos, e_spec_l01At l h16, Option.bind_some, e1, w64]
    rw [show atz l ((j : Int) + 1) - atz l (j : Int) = chv l (j : Int) from rfl, ← map_snoc (fun i : Nat => chv l i)]
    exact ih
  · refine evs ?_
    simp (disch := omega) only [spec_l01Changes.l0, if_neg]
    exact evo rfl
theorem e_spec_l01Kind (a : Int) : spec_l01Kind.f a = some (sgn a) := by
  unfold spec_l01Kind.f sgn; split
  · rfl
  · split <;> rfl
/-- A single run begins at the cam's begin. -/
def fin1 (r : List S137) : List S137 := if r.length = 1 then r.set 0 ⟨(rd_T137 r 0).f0, 0, (rd_T137 r 0).f2⟩ else r
theorem e_spec_runs1 (l : List Int) (hv : Valid l) (s : Int) (f m : Nat) (out : List S137) (x : Int) (hf : m ≤ f) (hm : m ≤ l.length) (ho : out.length ≤ 1000 - m) (hx : 0 ≤ x) (hx2 : x + m ≤ 2 * (l.length : Int)) :
    Ev (fun k => spec_l01Runs.l1 k (chL l) (l.length : Int) out x (m : Int)) (fin1 (out ++ rns l f x m)) := by
  have hn := hv.1
  have hn2 := hv.2.1
  induction f generalizing m out x with
  | zero =>
    obtain rfl : m = 0 := by omega
    refine evs ?_
    unfold rns
    simp (disch := omega) only [spec_l01Runs.l1, if_neg, List.append_nil]
    unfold fin1
    by_cases c : out.length = 1
    · simp (disch := omega) only [if_pos]; exact evo rfl
    · simp (disch := omega) only [if_neg]; exact evo rfl
  | succ f ih =>
    by_cases h0 : m = 0
    · subst h0
      refine evs ?_
      unfold rns
      simp (disch := omega) only [spec_l01Runs.l1, if_neg, if_true, List.append_nil]
      unfold fin1
      by_cases c : out.length = 1
      · simp (disch := omega) only [if_pos]; exact evo rfl
      · simp (disch := omega) only [if_neg]; exact evo rfl
    · obtain ⟨r1, r2, r3, r4⟩ := rlen_e l x m (by omega)
      refine evs ?_
      simp (disch := omega) only [spec_l01Runs.l1, if_pos]
      have hR : rns l (f + 1) x m = ⟨kdv l x, x % (l.length : Int), (rlen l x m : Int)⟩ :: rns l f (x + (rlen l x m : Int)) (m - rlen l x m) := by
        conv => lhs; unfold rns
        rw [if_neg h0]
      have hnext := ih (m - rlen l x m) (out ++ [⟨kdv l x, x % (l.length : Int), (rlen l x m : Int)⟩]) (x + (rlen l x m : Int)) (by omega) (by omega) (by simp; omega) (by omega) (by omega)
      rw [List.append_assoc, List.singleton_append, ← hR] at hnext
      have mx := emod_b x (show (0 : Int) < l.length by omega)
      have ck : ∀ y : Int, 0 ≤ y → spec_l01Kind.f (rd (chL l) (y % (l.length : Int))) = some (kdv l y) := by
        intro y hy
        have my := emod_b y (show (0 : Int) < l.length by omega)
        rw [chL_rd l _ my.1 my.2, e_spec_l01Kind]
        exact congrArg some (kdv_mod l y)
      have := ev_loop (fun k j => spec_l01Runs.l2 k (chL l) (l.length : Int) out x (m : Int) ((j : Int) + 1)) (rlen l x m - 1) (fin1 (out ++ rns l (f + 1) x m)) ?_ ?_
      · exact this
      · intro j hj ih2
        refine evs ?_
        have my := emod_b (x + ((j : Int) + 1)) (show (0 : Int) < l.length by omega)
        have e := chL_len l
        have hk := r3 j (by omega)
        simp (disch := omega) only [spec_l01Runs.l2, if_pos, if_neg, w64, tmod_pos, e, ck, Option.bind_some, hk]
        exact ih2
      · refine evs ?_
        have e := chL_len l
        have ej : ((rlen l x m - 1 : Nat) : Int) + 1 = (rlen l x m : Int) := by omega
        rw [ej]
        by_cases c : rlen l x m < m
        · have my := emod_b (x + (rlen l x m : Int)) (show (0 : Int) < l.length by omega)
          have hk := r4 c
          simp (disch := omega) only [spec_l01Runs.l2, if_pos, if_neg, w64, tmod_pos, e, ck, Option.bind_some]
          simp (disch := omega) only [if_neg hk, if_pos, w16]
          rw [show (m : Int) - (rlen l x m : Int) = ((m - rlen l x m : Nat) : Int) by omega]
          exact hnext
        · simp (disch := omega) only [spec_l01Runs.l2, if_pos, if_neg, w64, tmod_pos, e, ck, Option.bind_some, w16]
          rw [show (m : Int) - (rlen l x m : Int) = ((m - rlen l x m : Nat) : Int) by omega]
          exact hnext
/-- How many steps before the first are of its kind. -/
def bk (l : List Int) : Nat := ff (fun j : Nat => decide (kdv l (-((j : Int) + 1)) = kdv l 0)) (l.length - 1) (fun j => j) (l.length - 1) 0
theorem bk_e (l : List Int) (hn : 1 ≤ l.length) : bk l ≤ l.length - 1 ∧ (∀ j, j < bk l → kdv l (-((j : Int) + 1)) = kdv l 0) ∧ (bk l < l.length - 1 → kdv l (-((bk l : Int) + 1)) ≠ kdv l 0) := by
  unfold bk
  rcases ff_eq (fun j : Nat => decide (kdv l (-((j : Int) + 1)) = kdv l 0)) (l.length - 1) (fun j => j) (l.length - 1) with ⟨h, e⟩ | ⟨q, hq, hf, hp, e⟩
  · rw [e]; exact ⟨Nat.le_refl _, fun j hj => of_decide_eq_true (h j hj), fun hh => by omega⟩
  · rw [e]; exact ⟨by omega, fun j hj => of_decide_eq_true (hp j hj), fun _ => of_decide_eq_false hf⟩
def st0 (l : List Int) : Int := if bk l = 0 then 0 else (l.length : Int) - bk l
def runsV (l : List Int) : List S137 := fin1 (rns l l.length (st0 l) l.length)
theorem e_spec_l01Runs (l : List Int) (h16 : I16 l) (hv : Valid l) : Ev (fun k => spec_l01Runs.f k l) (runsV l) := by
  have hn := hv.1
  have hn2 := hv.2.1
  obtain ⟨b1, b2, b3⟩ := bk_e l (by omega)
  unfold spec_l01Runs.f
  refine Ev.bind (e_spec_l01Changes l h16 hv) ?_
  rw [chL_len]
  have ck : ∀ y : Int, 0 ≤ y → y < l.length → spec_l01Kind.f (rd (chL l) y) = some (kdv l y) := by
    intro y h0 h1; rw [chL_rd l _ h0 h1, e_spec_l01Kind]; rfl
  have e := chL_len l
  have hper : ∀ j : Nat, kdv l ((l.length : Int) - 1 - (j : Int)) = kdv l (-((j : Int) + 1)) := by
    intro j; refine kdv_congr l _ _ ?_
    rw [show (l.length : Int) - 1 - (j : Int) = -((j : Int) + 1) + (l.length : Int) by omega, Int.add_emod_right]
  have final : ∀ s : Int, s = st0 l → Ev (fun k => spec_l01Runs.j1 k (chL l) (l.length : Int) s) (runsV l) := by
    intro s hs
    refine evs ?_
    simp only [spec_l01Runs.j1]
    rw [hs]
    have h0 : 0 ≤ st0 l := by unfold st0; split <;> omega
    have h1 : st0 l ≤ l.length := by unfold st0; split <;> omega
    exact e_spec_runs1 l hv 0 l.length l.length [] (st0 l) (Nat.le_refl _) (Nat.le_refl _) (by simp) h0 (by omega)
  have := ev_loop (fun k j => spec_l01Runs.l0 k (chL l) (l.length : Int) (if j = 0 then 0 else (l.length : Int) - j) (j : Int)) (bk l) (runsV l) ?_ ?_
  · exact this
  · intro j hj ih
    refine evs ?_
    have hk := b2 j hj
    rw [← hper j] at hk
    simp (disch := omega) only [spec_l01Runs.l0, w64, if_pos, if_neg, tmod_pos, Int.emod_eq_of_lt, e, ck, Option.bind_some, hk]
    rw [if_neg (by omega), show (l.length : Int) - ((j + 1 : Nat) : Int) = (l.length : Int) - 1 - (j : Int) by omega] at ih
    exact ih
  · refine evs ?_
    by_cases c : bk l < l.length - 1
    · have hk := b3 c
      rw [← hper (bk l)] at hk
      simp (disch := omega) only [spec_l01Runs.l0, w64, if_pos, if_neg, tmod_pos, Int.emod_eq_of_lt, e, ck, Option.bind_some]
      try simp only [if_neg hk]
      exact final _ (by unfold st0; split <;> omega)
    · simp (disch := omega) only [spec_l01Runs.l0, w64, if_neg]
      exact final _ (by unfold st0; split <;> omega)

/-! impl_runs -/
theorem e_impl_runs_c1 (l : List Int) (h16 : I16 l) (hv : Valid l) (i : Int) (h0 : -10000 ≤ i) (h1 : i ≤ 10000) : impl_Cam_runs_c1.f i l = some (kdv l i) := by
  have a := hv.atzb (i + 1)
  have b := hv.atzb i
  have hn := hv.1
  have hn2 := hv.2.1
  unfold impl_Cam_runs_c1.f impl_Cam_change.f
  simp (disch := omega) only [e_impl_Cam_at l h16, Option.bind_some, w64]
  unfold impl_kindOf.f kdv sgn chv
  split
  · rfl
  · split <;> rfl
theorem e_impl_runs1 (l : List Int) (h16 : I16 l) (hv : Valid l) (z : Int) (f m : Nat) (out : List S137) (x : Int) (hf : m ≤ f) (hm : m ≤ l.length) (ho : out.length ≤ 1000 - m) (hz : x + m = z + l.length) (hz0 : -1000 ≤ z) (hz1 : z ≤ 0) :
    Ev (fun k => impl_Cam_runs.l1 k (l.length : Int) z out x l) (out ++ rns l f x m) := by
  have hn := hv.1
  have hn2 := hv.2.1
  induction f generalizing m out x with
  | zero =>
    obtain rfl : m = 0 := by omega
    refine evs ?_
    unfold rns
    simp (disch := omega) only [impl_Cam_runs.l1, w64, if_neg, List.append_nil]
    exact evo rfl
  | succ f ih =>
    by_cases h0 : m = 0
    · subst h0
      refine evs ?_
      unfold rns
      simp (disch := omega) only [impl_Cam_runs.l1, w64, if_neg, if_true, List.append_nil]
      exact evo rfl
    · obtain ⟨r1, r2, r3, r4⟩ := rlen_e l x m (by omega)
      refine evs ?_
      simp (disch := omega) only [impl_Cam_runs.l1, w64, if_pos]
      have hR : rns l (f + 1) x m = ⟨kdv l x, x % (l.length : Int), (rlen l x m : Int)⟩ :: rns l f (x + (rlen l x m : Int)) (m - rlen l x m) := by
        conv => lhs; unfold rns
        rw [if_neg h0]
      have hnext := ih (m - rlen l x m) (out ++ [⟨kdv l x, x % (l.length : Int), (rlen l x m : Int)⟩]) (x + (rlen l x m : Int)) (by omega) (by omega) (by simp; omega) (by omega)
      rw [List.append_assoc, List.singleton_append, ← hR] at hnext
      have mx := emod_b x (show (0 : Int) < l.length by omega)
      have := ev_loop (fun k j => impl_Cam_runs.l2 k (l.length : Int) z out x (x + (j : Int)) l) (rlen l x m) (out ++ rns l (f + 1) x m) ?_ ?_
      · rw [show x + ((0 : Nat) : Int) = x by omega] at this; exact this
      · intro j hj ih2
        refine evs ?_
        have hk : kdv l (x + (j : Int)) = kdv l x := by
          by_cases c : j = 0
          · subst c; rw [show x + ((0 : Nat) : Int) = x by omega]
          · have := r3 (j - 1) (by omega)
            rw [show x + (((j - 1 : Nat) : Int) + 1) = x + (j : Int) by omega] at this
            exact this
        simp (disch := omega) only [impl_Cam_runs.l2, w64, if_pos, e_impl_runs_c1 l h16 hv, Option.bind_some, hk]
        rw [show x + ((j + 1 : Nat) : Int) = x + (j : Int) + 1 by omega] at ih2
        exact ih2
      · refine evs ?_
        by_cases c : rlen l x m < m
        · have hk := r4 c
          simp (disch := omega) only [impl_Cam_runs.l2, w64, if_pos, e_impl_runs_c1 l h16 hv, Option.bind_some]
          simp only [if_neg hk]
          simp (disch := omega) only [e_impl_mod, Option.bind_some, if_pos, w16]
          rw [show x + (rlen l x m : Int) - x = (rlen l x m : Int) by omega]
          try simp (disch := omega) only [w16]
          exact hnext
        · simp (disch := omega) only [impl_Cam_runs.l2, w64, if_neg, e_impl_runs_c1 l h16 hv, Option.bind_some]
          simp (disch := omega) only [e_impl_mod, Option.bind_some, if_pos, w16]
          rw [show x + (rlen l x m : Int) - x = (rlen l x m : Int) by omega]
          try simp (disch := omega) only [w16]
          exact hnext
theorem all_same (l : List Int) (hn : 1 ≤ l.length) (h : bk l = l.length - 1) (i : Int) : kdv l i = kdv l 0 := by
  obtain ⟨b1, b2, b3⟩ := bk_e l hn
  have m := emod_b i (show (0 : Int) < l.length by omega)
  rw [← kdv_mod l i]
  by_cases c : i % (l.length : Int) = 0
  · rw [c]
  · have := b2 (l.length - 1 - (i % (l.length : Int)).toNat) (by omega)
    rw [← this]
    refine kdv_congr l _ _ ?_
    rw [show -(((l.length - 1 - (i % (l.length : Int)).toNat : Nat) : Int) + 1) = i % (l.length : Int) - (l.length : Int) by omega, Int.sub_emod_right]
theorem rns_one (l : List Int) (hn : 2 ≤ l.length) (h : bk l = l.length - 1) : fin1 (rns l l.length (st0 l) l.length) = [⟨kdv l 0, 0, (l.length : Int)⟩] := by
  obtain ⟨n, hl⟩ : ∃ n, l.length = n + 1 := ⟨l.length - 1, by omega⟩
  have hr : rlen l (st0 l) l.length = l.length := by
    obtain ⟨r1, r2, r3, r4⟩ := rlen_e l (st0 l) l.length (by omega)
    apply Nat.le_antisymm r2
    apply Nat.le_of_not_lt; intro c
    exact r4 c (by rw [all_same l (by omega) h, all_same l (by omega) h (st0 l)])
  have e1 : rns l l.length (st0 l) l.length = [⟨kdv l (st0 l), st0 l % (l.length : Int), (l.length : Int)⟩] := by
    conv => lhs; rw [show rns l l.length = rns l (n + 1) by rw [hl]]
    unfold rns
    rw [if_neg (by omega), hr, Nat.sub_self]
    cases n <;> rfl
  rw [e1]
  unfold fin1
  rw [all_same l (by omega) h (st0 l)]
  rfl
theorem rns_two (l : List Int) (hn : 2 ≤ l.length) (h : bk l < l.length - 1) : (rns l l.length (st0 l) l.length).length ≠ 1 := by
  obtain ⟨b1, b2, b3⟩ := bk_e l (by omega)
  obtain ⟨n, hl⟩ : ∃ n, l.length = n + 2 := ⟨l.length - 2, by omega⟩
  have hr : rlen l (st0 l) l.length < l.length := by
    obtain ⟨r1, r2, r3, r4⟩ := rlen_e l (st0 l) l.length (by omega)
    apply Nat.lt_of_not_le; intro c
    have k1 := r3 (l.length - 2) (by omega)
    have k2 := b3 h
    have e1 : kdv l (st0 l + (((l.length - 2 : Nat) : Int) + 1)) = kdv l (-((bk l : Int) + 1)) := by
      refine kdv_congr l _ _ ?_
      unfold st0
      split
      · rename_i h0; rw [h0, show (0 : Int) + (((l.length - 2 : Nat) : Int) + 1) = -(((0 : Nat) : Int) + 1) + (l.length : Int) by omega, Int.add_emod_right]
      · rw [show (l.length : Int) - (bk l : Int) + (((l.length - 2 : Nat) : Int) + 1) = -((bk l : Int) + 1) + (l.length : Int) + (l.length : Int) by omega, Int.add_emod_right, Int.add_emod_right]
    have e2 : kdv l (st0 l) = kdv l 0 := by
      unfold st0
      split
      · rfl
      · rename_i h0
        have := b2 (bk l - 1) (by omega)
        rw [← this]
        refine kdv_congr l _ _ ?_
        rw [show (l.length : Int) - (bk l : Int) = -(((bk l - 1 : Nat) : Int) + 1) + (l.length : Int) by omega, Int.add_emod_right]
    rw [e1, e2] at k1
    exact k2 k1
  have hr1 := (rlen_e l (st0 l) l.length (by omega)).1
  rw [show rns l l.length = rns l (n + 2) by rw [hl]]
  unfold rns
  rw [if_neg (by omega)]
  unfold rns
  rw [if_neg (by omega)]
  simp
theorem e_impl_runs (l : List Int) (h16 : I16 l) (hv : Valid l) : Ev (fun k => impl_Cam_runs.f k l) (runsV l) := by
  have hn := hv.1
  have hn2 := hv.2.1
  obtain ⟨b1, b2, b3⟩ := bk_e l (by omega)
  unfold impl_Cam_runs.f
  simp only [e_impl_Cam_steps, Option.bind_some]
  have := ev_loop (fun k j => impl_Cam_runs.l0 k (l.length : Int) (-(j : Int)) l) (bk l) (runsV l) ?_ ?_
  · rw [show -((0 : Nat) : Int) = 0 by omega] at this; exact this
  · intro j hj ih
    refine evs ?_
    have hk := b2 j hj
    rw [show -((j : Int) + 1) = -(j : Int) - 1 by omega] at hk
    simp (disch := omega) only [impl_Cam_runs.l0, w64, if_pos, e_impl_runs_c1 l h16 hv, Option.bind_some, hk]
    rw [show -((j + 1 : Nat) : Int) = -(j : Int) - 1 by omega] at ih
    exact ih
  · refine evs ?_
    by_cases c : bk l < l.length - 1
    · have hk := b3 c
      rw [show -((bk l : Int) + 1) = -(bk l : Int) - 1 by omega] at hk
      simp (disch := omega) only [impl_Cam_runs.l0, w64, if_pos, e_impl_runs_c1 l h16 hv, Option.bind_some]
      simp only [if_neg hk]
      refine evs ?_
      simp (disch := omega) only [impl_Cam_runs.j1, w64, if_neg]
      have := e_impl_runs1 l h16 hv (-(bk l : Int)) l.length l.length [] (-(bk l : Int)) (Nat.le_refl _) (Nat.le_refl _) (by simp) (by omega) (by omega) (by omega)
      refine eve this ?_
      rw [List.nil_append]
      unfold runsV fin1
      rw [if_neg (rns_two l (by omega) c)]
      refine rns_congr l _ _ _ _ ?_
      unfold st0
      split
      · rename_i h0; rw [h0]; rfl
      · rw [show (l.length : Int) - (bk l : Int) = -(bk l : Int) + (l.length : Int) by omega, Int.add_emod_right]
    · have hb : bk l = l.length - 1 := by omega
      have hk := all_same l (by omega) hb (-(bk l : Int) - 1)
      simp (disch := omega) only [impl_Cam_runs.l0, w64, if_pos, e_impl_runs_c1 l h16 hv, Option.bind_some, hk]
      refine evs ?_
      simp (disch := omega) only [impl_Cam_runs.l0, w64, if_neg]
      refine evs ?_
      simp (disch := omega) only [impl_Cam_runs.j1, w64, w16, if_pos, e_impl_runs_c1 l h16 hv, Option.bind_some]
      exact evo (rns_one l (by omega) hb).symm

/-! RunsOf -/
def roR (l : List Int) : List S137 × Int := if Valid l then (runsV l, 0) else ([], 1)
theorem roR_len (l : List Int) : (roR l).1.length ≤ 1048576 := by
  unfold roR
  by_cases v : Valid l
  · rw [if_pos v]
    have h2 := v.2.1
    have := rns_len l l.length (st0 l) l.length
    show (fin1 _).length ≤ _
    unfold fin1
    split
    · rw [List.length_set]; omega
    · omega
  · rw [if_neg v]; exact Nat.zero_le _
theorem e_spec_RunsOf (l : List Int) (h16 : I16 l) (hl : l.length ≤ 1048576) : Ev (fun k => spec_RunsOf.f k l) (roR l) := by
  unfold spec_RunsOf.f roR
  refine Ev.bind (e_spec_l01Ok l h16 hl) ?_
  by_cases v : Valid l
  · simp only [v, decide_true, if_true]
    exact Ev.bind (e_spec_l01Runs l h16 v) (evo rfl)
  · simp only [v, decide_false, Bool.false_eq_true, if_false]; exact evo rfl
theorem e_impl_RunsOf (l : List Int) (h16 : I16 l) (hl : l.length ≤ 1048576) : Ev (fun k => impl_RunsOf.f k l) (roR l) := by
  unfold impl_RunsOf.f roR
  refine Ev.bind (e_impl_ValidCam l h16 hl) ?_
  by_cases v : Valid l
  · simp only [v, decide_true, if_true]
    exact Ev.bind (e_impl_runs l h16 v) (evo rfl)
  · simp only [v, decide_false, Bool.false_eq_true, if_false]; exact evo rfl

/-! laws_cam -/
theorem e_laws_toCam (l : List Int) (hl : l.length ≤ 1048576) : Ev (fun k => laws_toCam.f k l) l := by
  unfold laws_toCam.f
  simp (disch := omega) only [if_pos]
  have := ev_loop (fun k j => laws_toCam.l0 k l (l.take j ++ List.replicate (l.length - j) 0) (j : Int)) l.length l ?_ ?_
  · simpa using this
  · intro j hj ih
    refine evs ?_
    have e : ((l.take j ++ List.replicate (l.length - j) 0).length : Int) = l.length := by simp; omega
    simp (disch := omega) only [laws_toCam.l0, if_pos, e, w64]
    have e2 : (l.take j ++ List.replicate (l.length - j) 0).set ((j : Int)).toNat (rd l (j : Int)) = l.take (j + 1) ++ List.replicate (l.length - (j + 1)) 0 := by
      have e3 : l.length - j = (l.length - (j + 1)) + 1 := by omega
      rw [e3, List.replicate_succ, Int.toNat_natCast, set_app _ _ _ _ _ (by simp; omega), rd_nat, List.take_succ_eq_append_getElem hj]
      have e4 : l.getD j 0 = l[j] := by simp [List.getD_eq_getElem?_getD, hj]
      rw [e4, List.append_assoc, List.singleton_append]
    rw [e2]
    exact ih
  · refine evs ?_
    simp (disch := omega) only [laws_toCam.l0, if_neg]
    exact evo (by simp)
theorem e_laws_eqCam (l : List Int) (hl : l.length ≤ 1048576) : Ev (fun k => laws_eqCam.f k l l) true := by
  unfold laws_eqCam.f
  simp only [if_true]
  have := ev_loop (fun k j => laws_eqCam.l0 k l l (j : Int)) l.length true ?_ ?_
  · exact this
  · intro j hj ih
    refine evs ?_
    simp (disch := omega) only [laws_eqCam.l0, if_pos, if_true, w64]
    exact ih
  · refine evs ?_
    simp (disch := omega) only [laws_eqCam.l0, if_neg]
    exact evo rfl

/-! marked -/
def marked (m : Int) (n : Nat) : List Int := (List.range n).map fun j : Nat => IntKind.i16.wrap (m + j)
theorem marked_len (m : Int) (n : Nat) : (marked m n).length = n := by simp [marked]

/-! laws_markonly -/
theorem e_laws_markCam (l : List Int) (hl : l.length ≤ 1048576) (m : Int) (h0 : 0 ≤ m) (h1 : m ≤ 1000000000) : Ev (fun k => laws_markCam.f k l m) (m + l.length, marked m l.length) := by
  unfold laws_markCam.f
  have := ev_loop (fun k j => laws_markCam.l0 k (marked m j ++ l.drop j) (m + j) (j : Int)) l.length (m + l.length, marked m l.length) ?_ ?_
  · simpa [marked] using this
  · intro j hj ih
    refine evs ?_
    have e : ((marked m j ++ l.drop j).length : Int) = l.length := by simp [marked_len]; omega
    have e2 : (marked m j ++ l.drop j).set ((j : Int)).toNat (IntKind.i16.wrap (m + j)) = marked m (j + 1) ++ l.drop (j + 1) := by
      rw [Int.toNat_natCast, List.drop_eq_getElem_cons hj, set_app _ _ _ _ _ (marked_len _ _)]
      unfold marked; rw [map_snoc]; simp
    simp (disch := omega) only [laws_markCam.l0, if_pos, e, w64]
    rw [e2, show m + (j : Int) + 1 = m + ((j + 1 : Nat) : Int) by omega]
    exact ih
  · refine evs ?_
    have e : ((marked m l.length ++ l.drop l.length).length : Int) = l.length := by simp [marked_len]
    simp (disch := omega) only [laws_markCam.l0, if_neg, e]
    exact evo (by simp)

/-! laws_run -/
theorem rdRN (l : List S137) (j : Nat) (h : j < l.length) : rd_T137 l (j : Int) = l[j] := by
  unfold rd_T137; rw [Int.toNat_natCast, List.getD_eq_getElem?_getD, List.getElem?_eq_getElem h]; rfl
theorem rdRN_map (f : Nat → S137) (n : Nat) (i : Int) (h0 : 0 ≤ i) (h1 : i < n) : rd_T137 ((List.range n).map f) i = f i.toNat := by
  unfold rd_T137
  have : i.toNat < n := by omega
  simp [List.getD_eq_getElem?_getD, this]
theorem e_laws_eqRunS (l : List S137) (hl : l.length ≤ 1048576) : Ev (fun k => laws_eqRunS.f k l l) true := by
  unfold laws_eqRunS.f
  simp only [if_true]
  have := ev_loop (fun k j => laws_eqRunS.l0 k l l (j : Int)) l.length true ?_ ?_
  · exact this
  · intro j hj ih
    refine evs ?_
    simp (disch := omega) only [laws_eqRunS.l0, laws_eqRun.f, if_pos, w64, if_true, Option.bind_some]
    exact ih
  · refine evs ?_
    simp (disch := omega) only [laws_eqRunS.l0, if_neg]
    exact evo rfl
def mkR (m : Int) : S137 := ⟨IntKind.i8.wrap m, IntKind.i16.wrap (m + 1), IntKind.i16.wrap (m + 1 + 1)⟩
def markR (m : Int) (n : Nat) : List S137 := (List.range n).map fun j : Nat => mkR (m + 3 * (j : Int))
theorem markR_len (m : Int) (n : Nat) : (markR m n).length = n := by simp [markR]
theorem e_laws_markRunS (l : List S137) (hl : l.length ≤ 1048576) (m : Int) (h0 : 0 ≤ m) (h1 : m ≤ 1000000000) : Ev (fun k => laws_markRunS.f k l m) (m + 3 * (l.length : Int), markR m l.length) := by
  unfold laws_markRunS.f
  have := ev_loop (fun k j => laws_markRunS.l0 k (markR m j ++ l.drop j) (m + 3 * (j : Int)) (j : Int)) l.length (m + 3 * (l.length : Int), markR m l.length) ?_ ?_
  · simpa [markR] using this
  · intro j hj ih
    refine evs ?_
    have e : ((markR m j ++ l.drop j).length : Int) = l.length := by simp [markR_len]; omega
    have ej : ∀ x : S137, (markR m j ++ l.drop j).set j x = markR m j ++ x :: l.drop (j + 1) := by
      intro x; rw [List.drop_eq_getElem_cons hj, set_app _ _ _ _ _ (markR_len _ _)]
    have ej2 : ∀ x y : S137, (markR m j ++ x :: l.drop (j + 1)).set j y = markR m j ++ y :: l.drop (j + 1) := by
      intro x y; rw [set_app _ _ _ _ _ (markR_len _ _)]
    have er : ∀ x : S137, rd_T137 (markR m j ++ x :: l.drop (j + 1)) (j : Int) = x := by
      intro x; rw [rdRN _ _ (by simp [markR_len]), List.getElem_append_right (by rw [markR_len]; omega)]; simp [markR_len]
    simp (disch := omega) only [laws_markRunS.l0, if_pos, e, Int.toNat_natCast, ej, er, ej2, Option.bind_some, w64]
    have e5 : markR m j ++ mkR (m + 3 * (j : Int)) :: l.drop (j + 1) = markR m (j + 1) ++ l.drop (j + 1) := by
      unfold markR; rw [map_snoc]; simp
    rw [show (⟨IntKind.i8.wrap (m + 3 * (j : Int)), IntKind.i16.wrap (m + 3 * (j : Int) + 1), IntKind.i16.wrap (m + 3 * (j : Int) + 1 + 1)⟩ : S137) = mkR (m + 3 * (j : Int)) from rfl, e5, show m + 3 * (j : Int) + 1 + 1 + 1 = m + 3 * ((j + 1 : Nat) : Int) by omega]
    exact ih
  · refine evs ?_
    have e : ((markR m l.length ++ l.drop l.length).length : Int) = l.length := by simp [markR_len]
    simp (disch := omega) only [laws_markRunS.l0, if_neg, e]
    exact evo (by simp)
theorem e_laws_heldRunS (n : Nat) (hl : n ≤ 1048576) (m : Int) (h0 : 0 ≤ m) (h1 : m ≤ 1000000000) : Ev (fun k => laws_heldRunS.f k (markR m n) m) (m + 3 * (n : Int)) := by
  unfold laws_heldRunS.f
  have e : ((markR m n).length : Int) = n := by rw [markR_len]
  have := ev_loop (fun k j => laws_heldRunS.l0 k (markR m n) (m + 3 * (j : Int)) (j : Int)) n (m + 3 * (n : Int)) ?_ ?_
  · simpa using this
  · intro j hj ih
    refine evs ?_
    have e2 : rd_T137 (markR m n) (j : Int) = ⟨IntKind.i8.wrap (m + 3 * (j : Int)), IntKind.i16.wrap (m + 3 * (j : Int) + 1), IntKind.i16.wrap (m + 3 * (j : Int) + 1 + 1)⟩ := by
      unfold markR; rw [rdRN_map _ _ _ (by omega) (by omega)]; simp [mkR]
    simp (disch := omega) only [laws_heldRunS.l0, if_pos, e, e2, if_true, w64]
    rw [show m + 3 * (j : Int) + 1 + 1 + 1 = m + 3 * ((j + 1 : Nat) : Int) by omega]
    exact ih
  · refine evs ?_
    simp (disch := omega) only [laws_heldRunS.l0, if_neg, e]
    exact evo rfl

set_option maxHeartbeats 4000000 in
theorem FnExactRunsOf : laws_FnExactRunsOf.Pure := by
  intro l0 _ _ w0
  have h0 := I16.of_wf w0
  refine ev_rounds ?_
  unfold laws_FnExactRunsOf.f
  by_cases b0 : (l0.length : Int) > 1048576
  · simp only [if_pos b0]; exact evo rfl
  simp only [if_neg b0]
  have b0 : l0.length ≤ 1048576 := by omega
  have T0 := e_laws_toCam l0 b0
  have Q0 := e_laws_eqCam l0 b0
  have M0 := e_laws_markCam l0 b0
  have A := e_spec_RunsOf l0 h0 b0
  have B := e_impl_RunsOf l0 h0 b0
  have hr : (roR l0).1.length ≤ 1048576 := roR_len l0
  revert A B hr
  generalize (roR l0) = RR
  obtain ⟨r, c1⟩ := RR
  intro A B hr
  have QR := e_laws_eqRunS r hr
  have MR := e_laws_markRunS r hr
  have HR := e_laws_heldRunS r.length hr
  repeat (first | exact evo rfl | (with_reducible refine Ev.bind T0 ?_) | (with_reducible refine Ev.bind Q0 ?_) | ((with_reducible refine Ev.bind (M0 _ ?s1 ?s2) ?_); (case s1 => first | omega | (dsimp only; omega)); (case s2 => first | omega | (dsimp only; omega))) | (with_reducible refine Ev.bind A ?_) | (with_reducible refine Ev.bind B ?_) | (with_reducible refine Ev.bind QR ?_) | ((with_reducible refine Ev.bind (MR 1 ?s1 ?s2) ?_); (case s1 => first | omega | (dsimp only; omega)); (case s2 => first | omega | (dsimp only; omega))) | ((with_reducible refine Ev.bind (HR 1 ?s1 ?s2) ?_); (case s1 => first | omega | (dsimp only; omega)); (case s2 => first | omega | (dsimp only; omega))) | ((with_reducible refine ev_pos ?s1 ?_); (case s1 => first | rfl | trivial | omega | (dsimp only; omega))) | ((with_reducible refine ev_neg ?s1 ?_); (case s1 => first | omega | (dsimp only; omega) | (simp; done))) | (refine evs ?_; simp only [laws_FnExactRunsOf.j0, laws_FnExactRunsOf.j1, laws_FnExactRunsOf.j2]))


end Go.Proofs.Ytbobbihbikocbaa.Pure
