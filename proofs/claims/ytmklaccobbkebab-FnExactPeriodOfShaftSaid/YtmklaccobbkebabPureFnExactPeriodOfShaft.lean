/- The pure statement of the law FnExactPeriodOfShaft: the program's function and the reference's tell the same of every input, by plain lemmas on numbers, lists and rounds; no further condition. -/
import Derived.Test.YtmklaccobbkebabXFnExactPeriodOfShaftx
import Derived.Test.YtmklaccobbkebabXLib
namespace Go.Proofs.Ytmklaccobbkebab.Pure
open Go.RowKit Go.Proofs.Ytmklaccobbkebab.XFnExactPeriodOfShaft Go.Proofs.Ytmklaccobbkebab.XLib Go.Proofs.YtmklaccobbkebabW.PrintWords Go.Proofs.YtmklaccobbkebabW.PrintLast Go.Proofs.YtmklaccobbkebabW.PrintMore
set_option maxRecDepth 100000
set_option linter.unusedVariables false
set_option linter.unusedSimpArgs false
/-! base_spec -/
theorem e_spec_l00In (a b c : Int) : spec_l00In.f a b c = some (decide (b ≤ a ∧ a ≤ c)) := by
  unfold spec_l00In.f
  by_cases h : b ≤ a <;> simp [h]
theorem e_spec_l01Steps (a : Int) : spec_l01Steps.f a = some (decide (8 ≤ a ∧ a ≤ 360)) := by
  unfold spec_l01Steps.f; rw [e_spec_l00In]; rfl
theorem e_spec_l01Lift (a : Int) : spec_l01Lift.f a = some (decide (0 ≤ a ∧ a ≤ 10000)) := by
  unfold spec_l01Lift.f; rw [e_spec_l00In]; rfl
theorem e_spec_l01Ok (l : List Int) (h16 : I16 l) (hl : l.length ≤ 1048576) : Ev (fun k => spec_l01Ok.f k l) (decide (Valid l)) := by
  unfold spec_l01Ok.f
  simp only [e_spec_l01Steps, Option.bind_some]
  by_cases h : 8 ≤ (l.length : Int) ∧ (l.length : Int) ≤ 360
  · simp only [h, and_self, decide_true, if_true]
    have := ev_find (fun k j => spec_l01Ok.l0 k l (j : Int)) (fun j => decide (0 ≤ rd l (j : Int) ∧ rd l (j : Int) ≤ 10000)) l.length true (fun _ => false) ?_ ?_ ?_
    · rw [ff_all] at this
      refine eve this ?_
      apply decide_eq_decide.mpr
      unfold Valid
      constructor
      · intro hh; exact ⟨by omega, by omega, fun j hj => by simpa using hh j hj⟩
      · intro hh j hj; simpa using hh.2.2 j hj
    · intro j r hj hp ih
      refine evs ?_
      have hb := h16.rdb (j : Int)
      simp (disch := omega) only [spec_l01Ok.l0, if_pos, e_spec_l01Lift, Option.bind_some, w64]
      first | exact ih | (rw [hp]; simp only [if_true]; exact ih)
    · intro j hj hp
      refine evs ?_
      have hb := h16.rdb (j : Int)
      simp (disch := omega) only [spec_l01Ok.l0, if_pos, e_spec_l01Lift, Option.bind_some, w64]
      first | exact evo rfl | (rw [hp]; exact evo rfl)
    · refine evs ?_
      simp (disch := omega) only [spec_l01Ok.l0, if_neg]
      exact evo rfl
  · rw [decide_eq_false h]
    simp only [Bool.false_eq_true, if_false]
    exact evo (decide_eq_false (fun hv => h ⟨by have := hv.1; omega, by have := hv.2.1; omega⟩)).symm

/-! base_impl -/
theorem e_impl_inRange (a b c : Int) : impl_inRange.f a b c = some (decide (b ≤ a ∧ a ≤ c)) := by
  unfold impl_inRange.f
  by_cases h : b ≤ a <;> simp [h]
theorem e_impl_isSteps (a : Int) : impl_isSteps.f a = some (decide (8 ≤ a ∧ a ≤ 360)) := by
  unfold impl_isSteps.f; rw [e_impl_inRange]; rfl
theorem e_impl_isLift (a : Int) : impl_isLift.f a = some (decide (0 ≤ a ∧ a ≤ 10000)) := by
  unfold impl_isLift.f; rw [e_impl_inRange]; rfl
theorem e_impl_Cam_steps (l : List Int) : impl_Cam_steps.f l = some (l.length : Int) := rfl
theorem e_impl_ValidCam (l : List Int) (h16 : I16 l) (hl : l.length ≤ 1048576) : Ev (fun k => impl_ValidCam.f k l) (decide (Valid l)) := by
  unfold impl_ValidCam.f
  simp only [e_impl_Cam_steps, e_impl_isSteps, Option.bind_some]
  by_cases h : 8 ≤ (l.length : Int) ∧ (l.length : Int) ≤ 360
  · simp only [h, and_self, decide_true, if_true]
    unfold slices_ContainsFunc_at_impl_ValidCam_c1.f slices_IndexFunc_at_impl_ValidCam_c1.f
    have := ev_find (fun k j => slices_IndexFunc_at_impl_ValidCam_c1.l0 k l (l.length : Int) (j : Int)) (fun j => decide (0 ≤ rd l (j : Int) ∧ rd l (j : Int) ≤ 10000)) l.length (-1) (fun j => (j : Int)) ?_ ?_ ?_
    · refine Ev.bind (Ev.bind this (evo rfl)) (evo ?_)
      rcases ff_eq (fun j => decide (0 ≤ rd l (j : Int) ∧ rd l (j : Int) ≤ 10000)) (-1 : Int) (fun j => (j : Int)) l.length with ⟨hh, e⟩ | ⟨m, hm, hf, _, e⟩
      · rw [e, decide_eq_true (show Valid l from ⟨by omega, by omega, fun j hj => by simpa using hh j hj⟩)]; rfl
      · rw [e, decide_eq_false (show ¬ Valid l from fun hv => by rw [decide_eq_true (hv.2.2 m hm)] at hf; cases hf)]
        simp
    · intro j r hj hp ih
      refine evs ?_
      have hb := h16.rdb (j : Int)
      simp (disch := omega) only [slices_IndexFunc_at_impl_ValidCam_c1.l0, impl_ValidCam_c1.f, if_pos, e_impl_isLift, Option.bind_some, w64]
      first | exact ih | (rw [hp]; simp only [Bool.not_true, Bool.false_eq_true, if_false]; exact ih)
    · intro j hj hp
      refine evs ?_
      have hb := h16.rdb (j : Int)
      simp (disch := omega) only [slices_IndexFunc_at_impl_ValidCam_c1.l0, impl_ValidCam_c1.f, if_pos, e_impl_isLift, Option.bind_some, w64]
      first | exact evo rfl | (rw [hp]; exact evo rfl)
    · refine evs ?_
      simp (disch := omega) only [slices_IndexFunc_at_impl_ValidCam_c1.l0, if_neg]
      exact evo rfl
  · rw [decide_eq_false h]
    simp only [Bool.false_eq_true, if_false]
    exact evo (decide_eq_false (fun hv => h ⟨by have := hv.1; omega, by have := hv.2.1; omega⟩)).symm

/-! find2 -/
theorem ev_find2 {ρ : Type} (L : Nat → Nat → Option ρ) (p : Nat → Bool) (n : Nat) (r1 : ρ) (r2 : Nat → ρ)
    (ht : ∀ j r, j < n → p j = true → Ev (fun k => L k (j + 1)) r → Ev (fun k => L k j) r) (hf : ∀ j, j < n → p j = false → Ev (fun k => L k j) (r2 j))
    (he : (∀ j, j < n → p j = true) → Ev (fun k => L k n) r1) : Ev (fun k => L k 0) (ff p r1 r2 n 0) := by
  suffices H : ∀ d j, j + d = n → (∀ i, i < j → p i = true) → Ev (fun k => L k j) (ff p r1 r2 d j) from H n 0 (by omega) (fun i hi => by omega)
  intro d
  induction d with
  | zero => intro j hj hp; obtain rfl : j = n := by omega
            exact he hp
  | succ d ih =>
    intro j hj hp
    unfold ff
    by_cases c : p j = true
    · rw [if_pos c]; exact ht j _ (by omega) c (ih (j + 1) (by omega) (fun i hi => by by_cases e : i = j; · rw [e]; exact c
                                                                                      · exact hp i (by omega)))
    · rw [if_neg c]; exact hf j (by omega) (by simpa using c)
theorem ff_map {ρ σ : Type} (f : ρ → σ) (p : Nat → Bool) (r1 : ρ) (r2 : Nat → ρ) (d j : Nat) : f (ff p r1 r2 d j) = ff p (f r1) (fun i => f (r2 i)) d j := by
  induction d generalizing j with
  | zero => rfl
  | succ d ih => unfold ff; split
                 · exact ih _
                 · rfl

/-! shaft -/
def ShOK (x : S112) : Prop := (1 ≤ x.f0 ∧ x.f0 ≤ 60) ∧ (1 ≤ x.f1 ∧ x.f1 ≤ 60) ∧ Valid x.f3 ∧ (0 ≤ x.f2 ∧ x.f2 ≤ (x.f3.length : Int) - 1)
instance (x : S112) : Decidable (ShOK x) := by unfold ShOK; infer_instance
/-- What is known of every shaft that comes in. -/
def ShW (x : S112) : Prop := (-32768 ≤ x.f0 ∧ x.f0 ≤ 32767) ∧ (-32768 ≤ x.f1 ∧ x.f1 ≤ 32767) ∧ (-32768 ≤ x.f2 ∧ x.f2 ≤ 32767) ∧ I16 x.f3 ∧ x.f3.length ≤ 1048576
def ShsB (l : List S112) : Bool := decide (1 ≤ (l.length : Int) ∧ (l.length : Int) ≤ 6) && ff (fun j : Nat => decide (ShOK (rd_T112 l (j : Int)))) true (fun _ => false) l.length 0
theorem rdSH (l : List S112) (j : Nat) (h : j < l.length) : rd_T112 l (j : Int) = l[j] := by
  unfold rd_T112; rw [Int.toNat_natCast, List.getD_eq_getElem?_getD, List.getElem?_eq_getElem h]; rfl
theorem ShsB_e {l : List S112} (h : ShsB l = true) : 1 ≤ l.length ∧ l.length ≤ 6 ∧ ∀ j, j < l.length → ShOK (rd_T112 l (j : Int)) := by
  unfold ShsB at h
  have h1 := (Bool.and_eq_true _ _).mp h
  have h2 := of_decide_eq_true h1.1
  have h3 := h1.2
  rw [ff_all] at h3
  exact ⟨by omega, by omega, fun j hj => of_decide_eq_true (of_decide_eq_true h3 j hj)⟩
theorem e_spec_l04Ok (l : List S112) (hw : ∀ x ∈ l, ShW x) (hl : l.length ≤ 1048576) : Ev (fun k => spec_l04Ok.f k l) (ShsB l) := by
  unfold spec_l04Ok.f ShsB
  simp only [e_spec_l00In, Option.bind_some]
  by_cases c : 1 ≤ (l.length : Int) ∧ (l.length : Int) ≤ 6
  · simp only [decide_eq_true c, if_true, Bool.true_and]
    have step : ∀ (j : Nat) (r : Bool), j < l.length → (Ev (fun k => if ShOK (rd_T112 l (j : Int)) then spec_l04Ok.l0 k l ((j : Int) + 1) else some false) r) → Ev (fun k => spec_l04Ok.l0 k l (j : Int)) r := by
      intro j r hj hk
      refine evs ?_
      have er := rdSH l j hj
      obtain ⟨a1, a2, a3, a4, a5⟩ := hw l[j] (List.getElem_mem hj)
      rw [← er] at a1 a2 a3 a4 a5
      clear er
      generalize hx : rd_T112 l (j : Int) = x at *
      simp (disch := omega) only [spec_l04Ok.l0, if_pos, w64, e_spec_l00In, Option.bind_some, hx]
      by_cases q0 : 1 ≤ x.f0 ∧ x.f0 ≤ 60
      · simp only [decide_eq_true q0, if_true]
        by_cases q1 : 1 ≤ x.f1 ∧ x.f1 ≤ 60
        · simp only [decide_eq_true q1, if_true]
          refine Ev.bind (e_spec_l01Ok x.f3 a4 a5) ?_
          by_cases q3 : Valid x.f3
          · simp only [q3, decide_true, if_true]
            by_cases q2 : 0 ≤ x.f2 ∧ x.f2 ≤ (x.f3.length : Int) - 1
            · simp only [decide_eq_true q2, if_true]
              simp only [if_pos (show ShOK x from ⟨q0, q1, q3, q2⟩)] at hk
              exact hk
            · simp only [decide_eq_false q2, Bool.false_eq_true, if_false]
              simp only [if_neg (show ¬ ShOK x from fun h => q2 h.2.2.2)] at hk
              exact hk
          · simp only [q3, decide_false, Bool.false_eq_true, if_false]
            simp only [if_neg (show ¬ ShOK x from fun h => q3 h.2.2.1)] at hk
            exact hk
        · simp only [decide_eq_false q1, Bool.false_eq_true, if_false]
          simp only [if_neg (show ¬ ShOK x from fun h => q1 h.2.1)] at hk
          exact hk
      · simp only [decide_eq_false q0, Bool.false_eq_true, if_false]
        simp only [if_neg (show ¬ ShOK x from fun h => q0 h.1)] at hk
        exact hk
    refine ev_find (fun k j => spec_l04Ok.l0 k l (j : Int)) (fun j : Nat => decide (ShOK (rd_T112 l (j : Int)))) l.length true (fun _ => false) ?_ ?_ ?_
    · intro j r hj hp ih
      refine step j r hj ?_
      simp only [if_pos (of_decide_eq_true hp)]; exact ih
    · intro j hj hp
      refine step j _ hj ?_
      simp only [if_neg (of_decide_eq_false hp)]; exact evo rfl
    · refine evs ?_
      simp (disch := omega) only [spec_l04Ok.l0, if_neg]
      exact evo rfl
  · simp only [decide_eq_false c, Bool.false_eq_true, if_false, Bool.false_and]; exact evo rfl
theorem e_impl_ValidShafts_c1 (x : S112) (hw : ShW x) : Ev (fun k => impl_ValidShafts_c1.f k x.f0 x.f1 x.f2 x.f3) (!decide (ShOK x)) := by
  obtain ⟨a1, a2, a3, a4, a5⟩ := hw
  unfold impl_ValidShafts_c1.f
  simp (disch := omega) only [w64, e_impl_inRange, Option.bind_some, impl_isPlace.f]
  by_cases q0 : 1 ≤ x.f0 ∧ x.f0 ≤ 60
  · simp only [decide_eq_true q0, if_true]
    by_cases q1 : 1 ≤ x.f1 ∧ x.f1 ≤ 60
    · simp only [decide_eq_true q1, if_true]
      refine Ev.bind (e_impl_ValidCam x.f3 a4 a5) ?_
      by_cases q3 : Valid x.f3
      · simp only [q3, decide_true, if_true]
        by_cases q2 : 0 ≤ x.f2 ∧ x.f2 ≤ (x.f3.length : Int) - 1
        · rw [decide_eq_true (show ShOK x from ⟨q0, q1, q3, q2⟩)]
          exact evo (by rw [decide_eq_true q2])
        · rw [decide_eq_false (show ¬ ShOK x from fun h => q2 h.2.2.2)]
          exact evo (by rw [decide_eq_false q2])
      · rw [decide_eq_false (show ¬ ShOK x from fun h => q3 h.2.2.1)]
        simp only [q3, decide_false, Bool.false_eq_true, if_false]; exact evo rfl
    · rw [decide_eq_false (show ¬ ShOK x from fun h => q1 h.2.1)]
      simp only [decide_eq_false q1, Bool.false_eq_true, if_false]; exact evo rfl
  · rw [decide_eq_false (show ¬ ShOK x from fun h => q0 h.1)]
    simp only [decide_eq_false q0, Bool.false_eq_true, if_false]; exact evo rfl
theorem e_impl_ValidShafts (l : List S112) (hw : ∀ x ∈ l, ShW x) (hl : l.length ≤ 1048576) : Ev (fun k => impl_ValidShafts.f k l) (ShsB l) := by
  unfold impl_ValidShafts.f ShsB
  simp only [e_impl_inRange, Option.bind_some]
  by_cases c : 1 ≤ (l.length : Int) ∧ (l.length : Int) ≤ 6
  · simp only [decide_eq_true c, if_true, Bool.true_and]
    unfold slices_ContainsFunc_at_impl_ValidShafts_c1.f slices_IndexFunc_at_impl_ValidShafts_c1.f
    have := ev_find (fun k j => slices_IndexFunc_at_impl_ValidShafts_c1.l0 k l (l.length : Int) (j : Int)) (fun j : Nat => decide (ShOK (rd_T112 l (j : Int)))) l.length (-1 : Int) (fun j => (j : Int)) ?_ ?_ ?_
    · refine Ev.bind (Ev.bind this (evo rfl)) (evo ?_)
      have e := ff_map (fun x : Int => !decide (x ≥ 0)) (fun j : Nat => decide (ShOK (rd_T112 l (j : Int)))) (-1 : Int) (fun j => (j : Int)) l.length 0
      rw [e]
      have e3 : (fun i : Nat => !decide ((i : Int) ≥ 0)) = fun _ : Nat => false := by
        funext i; rw [decide_eq_true (show (i : Int) ≥ 0 by omega)]; rfl
      rw [e3]; rfl
    · intro j r hj hp ih
      refine evs ?_
      have er := rdSH l j hj
      simp (disch := omega) only [slices_IndexFunc_at_impl_ValidShafts_c1.l0, if_pos, w64]
      refine Ev.bind (e_impl_ValidShafts_c1 (rd_T112 l (j : Int)) (by rw [er]; exact hw _ (List.getElem_mem hj))) ?_
      rw [hp]
      exact ih
    · intro j hj hp
      refine evs ?_
      have er := rdSH l j hj
      simp (disch := omega) only [slices_IndexFunc_at_impl_ValidShafts_c1.l0, if_pos, w64]
      refine Ev.bind (e_impl_ValidShafts_c1 (rd_T112 l (j : Int)) (by rw [er]; exact hw _ (List.getElem_mem hj))) ?_
      rw [hp]
      exact evo rfl
    · refine evs ?_
      simp (disch := omega) only [slices_IndexFunc_at_impl_ValidShafts_c1.l0, if_neg]
      exact evo rfl
  · simp only [decide_eq_false c, Bool.false_eq_true, if_false, Bool.false_and]; exact evo rfl

/-! shi -/
theorem rdSHi (l : List S112) (i : Int) (h0 : 0 ≤ i) (h1 : i < l.length) (p : S112 → Prop) (hp : ∀ x ∈ l, p x) : p (rd_T112 l i) := by
  obtain ⟨j, rfl⟩ := Int.eq_ofNat_of_zero_le h0
  rw [rdSH l j (by omega)]
  exact hp _ (List.getElem_mem _)
theorem ShsB_i {l : List S112} (h : ShsB l = true) (i : Int) (h0 : 0 ≤ i) (h1 : i < l.length) : ShOK (rd_T112 l i) := by
  obtain ⟨j, rfl⟩ := Int.eq_ofNat_of_zero_le h0
  exact (ShsB_e h).2.2 j (by omega)

/-! gcd -/
theorem gcd_loop (L : Nat → Int → Int → Option Int) (hL : ∀ k a b, L (k + 1) a b = if b = 0 then some a else L k b (Int.tmod a b)) (a b : Nat) : Ev (fun k => L k (a : Int) (b : Int)) ((Nat.gcd a b : Nat) : Int) := by
  induction b using Nat.strongRecOn generalizing a with
  | _ b ih =>
    refine evs ?_
    by_cases h : b = 0
    · subst h
      simp only [hL, Int.natCast_zero, if_true]
      exact evo (by rw [Nat.gcd_zero_right])
    · have hb : (b : Int) ≠ 0 := by omega
      simp only [hL, if_neg hb]
      have e : Int.tmod (a : Int) (b : Int) = ((a % b : Nat) : Int) := by rw [tmod_pos (by omega)]; exact (Int.natCast_emod a b).symm
      rw [e]
      have := ih (a % b) (Nat.mod_lt _ (by omega)) b
      rw [show Nat.gcd a b = Nat.gcd b (a % b) by rw [Nat.gcd_comm, Nat.gcd_rec, Nat.gcd_comm]]
      exact this

/-! own -/
def ownG (x : S112) : Int := ((Nat.gcd (x.f1 * (x.f3.length : Int)).toNat x.f0.toNat : Nat) : Int)
def ownP (x : S112) : Int := Int.tdiv (x.f1 * (x.f3.length : Int)) (ownG x)
theorem gcd_b (a b : Nat) (ha : 0 < a) : 1 ≤ ((Nat.gcd a b : Nat) : Int) ∧ ((Nat.gcd a b : Nat) : Int) ≤ a ∧ ((Nat.gcd a b : Nat) : Int) ∣ (a : Int) := by
  have h1 : 0 < Nat.gcd a b := Nat.gcd_pos_of_pos_left _ ha
  have h2 := Nat.gcd_dvd_left a b
  have h3 := Nat.le_of_dvd ha h2
  exact ⟨by omega, by omega, Int.natCast_dvd_natCast.mpr h2⟩
theorem tdiv_dvd_b (a g : Int) (ha : 1 ≤ a) (hg : 1 ≤ g) (hd : g ∣ a) : 1 ≤ Int.tdiv a g ∧ Int.tdiv a g ≤ a := by
  obtain ⟨q, rfl⟩ := hd
  rw [Int.mul_tdiv_cancel_left _ (by omega)]
  have hq : 1 ≤ q := by
    apply Int.le_of_not_gt; intro h
    have := Int.mul_le_mul_of_nonneg_left (show q ≤ 0 by omega) (show 0 ≤ g by omega)
    rw [Int.mul_zero] at this; omega
  have := Int.mul_le_mul_of_nonneg_right hg (show 0 ≤ q by omega)
  exact ⟨hq, by omega⟩
theorem own_b (x : S112) (h : ShOK x) : (1 ≤ x.f1 * (x.f3.length : Int) ∧ x.f1 * (x.f3.length : Int) ≤ 21600) ∧ 1 ≤ ownG x ∧ 1 ≤ ownP x ∧ ownP x ≤ 21600 := by
  have b1 := h.2.1
  have b3 := h.2.2.1.1
  have b4 := h.2.2.1.2.1
  have m := mul_b (A := 60) (B := 360) (show 0 ≤ x.f1 by omega) b1.2 (show (0 : Int) ≤ (x.f3.length : Int) by omega) (by omega)
  have p := Int.mul_pos (show 0 < x.f1 by omega) (show (0 : Int) < (x.f3.length : Int) by omega)
  have g := gcd_b (x.f1 * (x.f3.length : Int)).toNat x.f0.toNat (by omega)
  rw [Int.toNat_of_nonneg (by omega)] at g
  have t := tdiv_dvd_b (x.f1 * (x.f3.length : Int)) (ownG x) (by omega) g.1 g.2.2
  exact ⟨⟨by omega, by omega⟩, g.1, t.1, by unfold ownP; omega⟩
theorem e_spec_gcd (a b : Int) (ha : 0 ≤ a) (hb : 0 ≤ b) : Ev (fun k => spec_l04Gcd.f k a b) ((Nat.gcd a.toNat b.toNat : Nat) : Int) := by
  have := gcd_loop spec_l04Gcd.f (fun k a b => by simp only [spec_l04Gcd.f]; split <;> first | rfl | (cases spec_l04Gcd.f k b (Int.tmod a b) <;> rfl)) a.toNat b.toNat
  rw [Int.toNat_of_nonneg ha, Int.toNat_of_nonneg hb] at this
  exact this
theorem e_impl_common (a b : Int) (ha : 0 ≤ a) (hb : 0 ≤ b) : Ev (fun k => impl_common.f k a b) ((Nat.gcd a.toNat b.toNat : Nat) : Int) := by
  have := gcd_loop impl_common.l0 (fun k a b => by simp only [impl_common.l0]) a.toNat b.toNat
  rw [Int.toNat_of_nonneg ha, Int.toNat_of_nonneg hb] at this
  exact this
theorem e_spec_l04Own (x : S112) (hw : ShW x) (h : ShOK x) : Ev (fun k => spec_l04Own.f k x.f0 x.f1 x.f2 x.f3) (ownP x) := by
  obtain ⟨a1, a2, a3, a4, a5⟩ := hw
  obtain ⟨b1, b2, b3, b4⟩ := own_b x h
  have c0 := h.1
  unfold spec_l04Own.f
  simp (disch := omega) only [w64]
  refine Ev.bind (e_spec_gcd _ _ (by omega) (by omega)) ?_
  unfold ownG at b2
  refine ev_neg (by omega) (evo ?_)
  exact w64 (by unfold ownP ownG at b3; omega) (by unfold ownP ownG at b4; omega)
theorem e_impl_Shaft_period (x : S112) (hw : ShW x) (h : ShOK x) : Ev (fun k => impl_Shaft_period.f k x.f0 x.f1 x.f2 x.f3) (ownP x) := by
  obtain ⟨a1, a2, a3, a4, a5⟩ := hw
  obtain ⟨b1, b2, b3, b4⟩ := own_b x h
  have c0 := h.1
  unfold impl_Shaft_period.f
  simp (disch := omega) only [w64, e_impl_Cam_steps, Option.bind_some]
  refine Ev.bind (e_impl_common _ _ (by omega) (by omega)) ?_
  unfold ownG at b2
  refine ev_neg (by omega) (evo ?_)
  exact w64 (by unfold ownP ownG at b3; omega) (by unfold ownP ownG at b4; omega)

/-! impl_first -/
theorem e_impl_firstCode (l : List Int) (hl : l.length ≤ 10000000) : Ev (fun k => impl_firstCode.f k l) (fnz l) := by
  unfold impl_firstCode.f
  suffices H : ∀ d j, j + d = l.length → Ev (fun k => impl_firstCode.l0 k l (l.length : Int) (j : Int)) (fnz (l.drop j)) from by
    have := H l.length 0 (by omega); simpa using this
  intro d
  induction d with
  | zero =>
    intro j hj
    refine evs ?_
    simp (disch := omega) only [impl_firstCode.l0, if_neg]
    exact evo (by rw [List.drop_of_length_le (by omega)]; rfl)
  | succ d ih =>
    intro j hj
    refine evs ?_
    have hj2 : j < l.length := by omega
    simp (disch := omega) only [impl_firstCode.l0, if_pos, w64]
    have e : l.drop j = rd l (j : Int) :: l.drop (j + 1) := by
      rw [List.drop_eq_getElem_cons hj2, rd_nat]; simp [List.getD_eq_getElem?_getD, hj2]
    rw [e]; unfold fnz
    by_cases c : rd l (j : Int) = 0
    · simp only [if_pos c]; exact ih (j + 1) (by omega)
    · simp only [if_neg c]; exact evo rfl
theorem e_impl_codeIf (b : Bool) (c : Int) : impl_codeIf.f b c = some (if b = true then c else 0) := by
  unfold impl_codeIf.f; split <;> rfl

/-! PeriodOfShaft -/
def psR (l : List S112) (i : Int) : Int × Int := if ShsB l = true then (if 0 ≤ i ∧ i ≤ (l.length : Int) - 1 then (ownP (rd_T112 l i), 0) else (0, 2)) else (0, 1)
theorem e_spec_PeriodOfShaft (l : List S112) (hw : ∀ x ∈ l, ShW x) (hl : l.length ≤ 1048576) (i : Int) : Ev (fun k => spec_PeriodOfShaft.f k l i) (psR l i) := by
  unfold spec_PeriodOfShaft.f psR
  refine Ev.bind (e_spec_l04Ok l hw hl) ?_
  by_cases v : ShsB l = true
  · obtain ⟨n1, n2, _⟩ := ShsB_e v
    simp (disch := omega) only [if_pos v, spec_l04Index.f, e_spec_l00In, w64, Option.bind_some]
    by_cases p : 0 ≤ i ∧ i ≤ (l.length : Int) - 1
    · simp only [decide_eq_true p, if_true, if_pos p]
      have ok := ShsB_i v i p.1 (by omega)
      have w := rdSHi l i p.1 (by omega) ShW hw
      simp (disch := omega) only [if_pos]
      exact Ev.bind (e_spec_l04Own _ w ok) (evo rfl)
    · simp only [decide_eq_false p, if_neg p, Bool.false_eq_true, if_false]; exact evo rfl
  · simp only [if_neg v]; exact evo rfl
theorem e_impl_PeriodOfShaft (l : List S112) (hw : ∀ x ∈ l, ShW x) (hl : l.length ≤ 1048576) (i : Int) : Ev (fun k => impl_PeriodOfShaft.f k l i) (psR l i) := by
  unfold impl_PeriodOfShaft.f psR
  refine Ev.bind (e_impl_ValidShafts l hw hl) ?_
  simp (disch := omega) only [e_impl_codeIf, impl_isPlace.f, e_impl_inRange, w64, Option.bind_some]
  refine Ev.bind (e_impl_firstCode _ (by simp)) ?_
  by_cases v : ShsB l = true
  · obtain ⟨n1, n2, _⟩ := ShsB_e v
    by_cases p : 0 ≤ i ∧ i ≤ (l.length : Int) - 1
    · rw [if_pos v, if_pos p, v, decide_eq_true p]
      simp only [Bool.not_true, Bool.false_eq_true, if_false, fnz, if_true]
      have ok := ShsB_i v i p.1 (by omega)
      have w := rdSHi l i p.1 (by omega) ShW hw
      simp (disch := omega) only [if_pos]
      exact Ev.bind (e_impl_Shaft_period _ w ok) (evo rfl)
    · rw [if_pos v, if_neg p, v, decide_eq_false p]; exact evo rfl
  · rw [if_neg v, Bool.eq_false_iff.mpr v]; exact evo rfl

/-! laws_cam -/
theorem e_laws_toCam (l : List Int) (hl : l.length ≤ 1048576) : Ev (fun k => laws_toCam.f k l) l := by
  unfold laws_toCam.f
  simp (disch := omega) only [if_pos]
  have := ev_loop (fun k j => laws_toCam.l0 k l (l.take j ++ List.replicate (l.length - j) 0) (j : Int)) l.length l ?_ ?_
  · simpa using this
  · intro j hj ih
    refine evs ?_
    have e : ((l.take j ++ List.replicate (l.length - j) 0).length : Int) = l.length := by simp; omega
    simp (disch := omega) only [laws_toCam.l0, if_pos, e, w64]
    have e2 : (l.take j ++ List.replicate (l.length - j) 0).set ((j : Int)).toNat (rd l (j : Int)) = l.take (j + 1) ++ List.replicate (l.length - (j + 1)) 0 := by
      have e3 : l.length - j = (l.length - (j + 1)) + 1 := by omega
      rw [e3, List.replicate_succ, Int.toNat_natCast, set_app _ _ _ _ _ (by simp; omega), rd_nat, List.take_succ_eq_append_getElem hj]
      have e4 : l.getD j 0 = l[j] := by simp [List.getD_eq_getElem?_getD, hj]
      rw [e4, List.append_assoc, List.singleton_append]
    rw [e2]
    exact ih
  · refine evs ?_
    simp (disch := omega) only [laws_toCam.l0, if_neg]
    exact evo (by simp)
theorem e_laws_eqCam (l : List Int) (hl : l.length ≤ 1048576) : Ev (fun k => laws_eqCam.f k l l) true := by
  unfold laws_eqCam.f
  simp only [if_true]
  have := ev_loop (fun k j => laws_eqCam.l0 k l l (j : Int)) l.length true ?_ ?_
  · exact this
  · intro j hj ih
    refine evs ?_
    simp (disch := omega) only [laws_eqCam.l0, if_pos, if_true, w64]
    exact ih
  · refine evs ?_
    simp (disch := omega) only [laws_eqCam.l0, if_neg]
    exact evo rfl

/-! laws_shaft -/
def shConv (x : S105) : S112 := ⟨x.f0, x.f1, x.f2, x.f3⟩
theorem rdSHIN (l : List S105) (j : Nat) (h : j < l.length) : rd_T105 l (j : Int) = l[j] := by
  unfold rd_T105; rw [Int.toNat_natCast, List.getD_eq_getElem?_getD, List.getElem?_eq_getElem h]; rfl
theorem e_laws_szShaftS (l : List S105) (hl : l.length ≤ maxLen) (hx : ∀ x ∈ l, x.f3.length ≤ maxLen) : ∃ r, Ev (fun k => laws_szShaftS.f k l 1048576) r ∧ (0 ≤ r → l.length ≤ 1048576 ∧ ∀ x ∈ l, x.f3.length ≤ 1048576) := by
  have hm : maxLen ≤ 9223372036854775807 := by decide
  unfold laws_szShaftS.f
  rw [w64 (by omega) (by omega)]
  by_cases c : 1048576 - (l.length : Int) < 0
  · exact ⟨-1, ev_pos c (evo rfl), fun h => by omega⟩
  · have key : ∀ d j : Nat, j + d = l.length → ∀ m : Int, 0 ≤ m → m ≤ 1048576 → ∃ r, Ev (fun k => laws_szShaftS.l0 k l m (j : Int)) r ∧ (0 ≤ r → ∀ i, j ≤ i → (h : i < l.length) → l[i].f3.length ≤ 1048576) := by
      intro d
      induction d with
      | zero =>
        intro j hj m h0 h1
        refine ⟨m, evs ?_, fun _ i hi hi2 => by omega⟩
        simp (disch := omega) only [laws_szShaftS.l0, if_neg]
        exact evo rfl
      | succ d ih =>
        intro j hj m h0 h1
        have hj2 : j < l.length := by omega
        have er := rdSHIN l j hj2
        have hlen := hx l[j] (List.getElem_mem hj2)
        have es : laws_szShaft.f (rd_T105 l (j : Int)).f0 (rd_T105 l (j : Int)).f1 (rd_T105 l (j : Int)).f2 (rd_T105 l (j : Int)).f3 m = some (if m - (l[j].f3.length : Int) < 0 then -1 else m - (l[j].f3.length : Int)) := by
          rw [er]
          unfold laws_szShaft.f laws_szCam.f
          rw [w64 (by omega) (by omega)]
          by_cases q : m - (l[j].f3.length : Int) < 0
          · simp only [if_pos q, Option.bind_some]; rfl
          · simp only [if_neg q, Option.bind_some]
        by_cases q : m - (l[j].f3.length : Int) < 0
        · refine ⟨-1, evs ?_, fun h => by omega⟩
          simp (disch := omega) only [laws_szShaftS.l0, if_pos]
          rw [es]
          simp (disch := omega) only [if_pos q, Option.bind_some, if_pos]
          exact evo rfl
        · obtain ⟨r, hr, hb⟩ := ih (j + 1) (by omega) (m - (l[j].f3.length : Int)) (by omega) (by omega)
          refine ⟨r, evs ?_, fun h i hi hi2 => ?_⟩
          · simp (disch := omega) only [laws_szShaftS.l0, if_pos, w64]
            rw [es]
            simp (disch := omega) only [if_neg q, Option.bind_some]
            exact hr
          · by_cases e : i = j
            · subst e; omega
            · exact hb h i (by omega) hi2
    obtain ⟨r, hr, hb⟩ := key l.length 0 (by omega) (1048576 - (l.length : Int)) (by omega) (by omega)
    refine ⟨r, ev_neg c hr, fun h => ⟨by omega, fun x hx' => ?_⟩⟩
    obtain ⟨i, hi, rfl⟩ := List.getElem_of_mem hx'
    exact hb h i (by omega) hi
theorem e_laws_toShaftS (l : List S105) (hl : l.length ≤ 1048576) (hx : ∀ x ∈ l, x.f3.length ≤ 1048576) : Ev (fun k => laws_toShaftS.f k l) (l.map shConv) := by
  unfold laws_toShaftS.f
  simp (disch := omega) only [if_pos]
  have := ev_loop (fun k j => laws_toShaftS.l0 k l ((l.map shConv).take j ++ List.replicate (l.length - j) z112) (j : Int)) l.length (l.map shConv) ?_ ?_
  · simpa using this
  · intro j hj ih
    refine evs ?_
    have er := rdSHIN l j hj
    have e : (((l.map shConv).take j ++ List.replicate (l.length - j) z112).length : Int) = l.length := by simp; omega
    have e2 : ((l.map shConv).take j ++ List.replicate (l.length - j) z112).set ((j : Int)).toNat (shConv l[j]) = (l.map shConv).take (j + 1) ++ List.replicate (l.length - (j + 1)) z112 := by
      have e3 : l.length - j = (l.length - (j + 1)) + 1 := by omega
      rw [e3, List.replicate_succ, Int.toNat_natCast, set_app _ _ _ _ _ (by simp; omega), List.take_succ_eq_append_getElem (by simpa using hj), List.append_assoc, List.singleton_append, List.getElem_map]
    simp (disch := omega) only [laws_toShaftS.l0, if_pos, er, w64]
    refine Ev.bind (a := (l[j].f0, l[j].f1, l[j].f2, l[j].f3)) ?_ ?_
    · unfold laws_toShaft.f
      exact Ev.bind (e_laws_toCam l[j].f3 (hx _ (List.getElem_mem hj))) (evo rfl)
    · simp (disch := omega) only [if_pos]
      rw [show (⟨l[j].f0, l[j].f1, l[j].f2, l[j].f3⟩ : S112) = shConv l[j] from rfl, e2]
      exact ih
  · refine evs ?_
    simp (disch := omega) only [laws_toShaftS.l0, if_neg]
    exact evo (by simp [List.take_of_length_le])
theorem e_laws_eqShaftS (l : List S112) (hl : l.length ≤ 1048576) (hx : ∀ x ∈ l, x.f3.length ≤ 1048576) : Ev (fun k => laws_eqShaftS.f k l l) true := by
  unfold laws_eqShaftS.f
  simp only [if_true]
  have := ev_loop (fun k j => laws_eqShaftS.l0 k l l (j : Int)) l.length true ?_ ?_
  · exact this
  · intro j hj ih
    refine evs ?_
    have er := rdSH l j hj
    simp (disch := omega) only [laws_eqShaftS.l0, if_pos, w64, er]
    refine Ev.bind (a := true) ?_ ?_
    · unfold laws_eqShaft.f
      simp only [if_true]
      exact Ev.bind (e_laws_eqCam l[j].f3 (hx _ (List.getElem_mem hj))) (evo rfl)
    · simp only [if_true]; exact ih
  · refine evs ?_
    simp (disch := omega) only [laws_eqShaftS.l0, if_neg]
    exact evo rfl
theorem shConv_w (l : List S105) (h : ∀ x ∈ l, (-32768 ≤ x.f0 ∧ x.f0 ≤ 32767) ∧ (-32768 ≤ x.f1 ∧ x.f1 ≤ 32767) ∧ (-32768 ≤ x.f2 ∧ x.f2 ≤ 32767) ∧ I16 x.f3) (hx : ∀ x ∈ l, x.f3.length ≤ 1048576) : ∀ y ∈ l.map shConv, ShW y := by
  intro y hy
  obtain ⟨x, hx', rfl⟩ := List.mem_map.1 hy
  obtain ⟨a, b, c, d⟩ := h x hx'
  exact ⟨a, b, c, d, hx x hx'⟩
theorem wf_i16 {x : Int} (h : (Lit.int .i16 x).wf = true) : -32768 ≤ x ∧ x ≤ 32767 := by simpa [Lit.wf, IntKind.min, IntKind.max, IntKind.bits, IntKind.signed] using h

set_option maxHeartbeats 4000000 in
theorem FnExactPeriodOfShaft : ∀ (l0 : List (S105)) (a1 : Int), (l0.length ≤ maxLen ∧ ∀ x2 ∈ l0, ((Lit.int .i16 x2.f0).wf = true ∧ (Lit.int .i16 x2.f1).wf = true ∧ (Lit.int .i16 x2.f2).wf = true ∧ (x2.f3.length ≤ maxLen ∧ ∀ x6 ∈ x2.f3, (Lit.int .i16 x6).wf = true))) → (Lit.int .i64 a1).wf = true → ∃ k, laws_FnExactPeriodOfShaft.f k l0 a1 = some true := by
  rintro l a1 ⟨hm, w⟩ v0
  have w16 : ∀ x ∈ l, (-32768 ≤ x.f0 ∧ x.f0 ≤ 32767) ∧ (-32768 ≤ x.f1 ∧ x.f1 ≤ 32767) ∧ (-32768 ≤ x.f2 ∧ x.f2 ≤ 32767) ∧ I16 x.f3 := fun x hx => ⟨wf_i16 (w x hx).1, wf_i16 (w x hx).2.1, wf_i16 (w x hx).2.2.1, I16.of_wf (w x hx).2.2.2.2⟩
  obtain ⟨r, hr, hb⟩ := e_laws_szShaftS l hm (fun x hx => (w x hx).2.2.2.1)
  refine ev_rounds ?_
  unfold laws_FnExactPeriodOfShaft.f
  refine Ev.bind hr ?_
  by_cases c : r < 0
  · exact ev_pos c (evo rfl)
  refine ev_neg c ?_
  obtain ⟨hl, hx⟩ := hb (by omega)
  have T := e_laws_toShaftS l hl hx
  have hW := shConv_w l w16 hx
  have hl2 : (l.map shConv).length ≤ 1048576 := by rw [List.length_map]; exact hl
  have i0 := wf_i64 v0
  have A := e_spec_PeriodOfShaft (l.map shConv) hW hl2 a1
  have B := e_impl_PeriodOfShaft (l.map shConv) hW hl2 a1
  have Q := e_laws_eqShaftS (l.map shConv) hl2 (fun x hx => (hW x hx).2.2.2.2)
  revert A B
  generalize (psR (l.map shConv) a1) = RR
  obtain ⟨c0, c1⟩ := RR
  intro A B
  repeat (first | exact evo rfl | (with_reducible refine Ev.bind T ?_) | (with_reducible refine Ev.bind Q ?_) | (with_reducible refine Ev.bind A ?_) | (with_reducible refine Ev.bind B ?_) | ((with_reducible refine ev_pos ?s1 ?_); (case s1 => first | rfl | trivial | omega | (dsimp only; omega))) | ((with_reducible refine ev_neg ?s1 ?_); (case s1 => first | omega | (dsimp only; omega) | (simp; done))) | (refine evs ?_; simp only [laws_FnExactPeriodOfShaft.j0]))


end Go.Proofs.Ytmklaccobbkebab.Pure
