/- The pure statement of the law FnExactWasteOf: the program's function and the reference's tell the same of every input, by plain lemmas on numbers, lists and rounds; no further condition. -/
import Derived.Test.YtboicfocaoohmaaXFnExactWasteOfx7
import Derived.Test.YtboicfocaoohmaaXLib
namespace Go.Proofs.Ytboicfocaoohmaa.Pure
open Go.RowKit Go.Proofs.Ytboicfocaoohmaa.XFnExactWasteOf Go.Proofs.Ytboicfocaoohmaa.XLib Go.Proofs.YtboicfocaoohmaaW.PrintWords Go.Proofs.YtboicfocaoohmaaW.PrintLast Go.Proofs.YtboicfocaoohmaaW.PrintMore
set_option maxRecDepth 100000
set_option linter.unusedVariables false
set_option linter.unusedSimpArgs false
/-! base_spec -/
theorem e_spec_l00In (a b c : Int) : spec_l00In.f a b c = some (decide (b ≤ a ∧ a ≤ c)) := by
  unfold spec_l00In.f
  by_cases h : b ≤ a <;> simp [h]
theorem e_spec_l01Steps (a : Int) : spec_l01Steps.f a = some (decide (8 ≤ a ∧ a ≤ 360)) := by
  unfold spec_l01Steps.f; rw [e_spec_l00In]; rfl
theorem e_spec_l01Lift (a : Int) : spec_l01Lift.f a = some (decide (0 ≤ a ∧ a ≤ 10000)) := by
  unfold spec_l01Lift.f; rw [e_spec_l00In]; rfl
theorem e_spec_l01Ok (l : List Int) (h16 : I16 l) (hl : l.length ≤ 1048576) : Ev (fun k => spec_l01Ok.f k l) (decide (Valid l)) := by
  unfold spec_l01Ok.f
  simp only [e_spec_l01Steps, Option.bind_some]
  by_cases h : 8 ≤ (l.length : Int) ∧ (l.length : Int) ≤ 360
  · simp only [h, and_self, decide_true, if_true]
    have := ev_find (fun k j => spec_l01Ok.l0 k l (j : Int)) (fun j => decide (0 ≤ rd l (j : Int) ∧ rd l (j : Int) ≤ 10000)) l.length true (fun _ => false) ?_ ?_ ?_
    · rw [ff_all] at this
      refine eve this ?_
      apply decide_eq_decide.mpr
      unfold Valid
      constructor
      · intro hh; exact ⟨by omega, by omega, fun j hj => by simpa using hh j hj⟩
      · intro hh j hj; simpa using hh.2.2 j hj
    · intro j r hj hp ih
      refine evs ?_
      have hb := h16.rdb (j : Int)
      simp (disch := omega) only [spec_l01Ok.l0, if_pos, e_spec_l01Lift, Option.bind_some, w64]
      first | exact ih | (rw [hp]; simp only [if_true]; exact ih)
    · intro j hj hp
      refine evs ?_
      have hb := h16.rdb (j : Int)
      simp (disch := omega) only [spec_l01Ok.l0, if_pos, e_spec_l01Lift, Option.bind_some, w64]
      first | exact evo rfl | (rw [hp]; exact evo rfl)
    · refine evs ?_
      simp (disch := omega) only [spec_l01Ok.l0, if_neg]
      exact evo rfl
  · rw [decide_eq_false h]
    simp only [Bool.false_eq_true, if_false]
    exact evo (decide_eq_false (fun hv => h ⟨by have := hv.1; omega, by have := hv.2.1; omega⟩)).symm

/-! base_impl -/
theorem e_impl_inRange (a b c : Int) : impl_inRange.f a b c = some (decide (b ≤ a ∧ a ≤ c)) := by
  unfold impl_inRange.f
  by_cases h : b ≤ a <;> simp [h]
theorem e_impl_isSteps (a : Int) : impl_isSteps.f a = some (decide (8 ≤ a ∧ a ≤ 360)) := by
  unfold impl_isSteps.f; rw [e_impl_inRange]; rfl
theorem e_impl_isLift (a : Int) : impl_isLift.f a = some (decide (0 ≤ a ∧ a ≤ 10000)) := by
  unfold impl_isLift.f; rw [e_impl_inRange]; rfl
theorem e_impl_Cam_steps (l : List Int) : impl_Cam_steps.f l = some (l.length : Int) := rfl
theorem e_impl_ValidCam (l : List Int) (h16 : I16 l) (hl : l.length ≤ 1048576) : Ev (fun k => impl_ValidCam.f k l) (decide (Valid l)) := by
  unfold impl_ValidCam.f
  simp only [e_impl_Cam_steps, e_impl_isSteps, Option.bind_some]
  by_cases h : 8 ≤ (l.length : Int) ∧ (l.length : Int) ≤ 360
  · simp only [h, and_self, decide_true, if_true]
    unfold slices_ContainsFunc_at_impl_ValidCam_c1.f slices_IndexFunc_at_impl_ValidCam_c1.f
    have := ev_find (fun k j => slices_IndexFunc_at_impl_ValidCam_c1.l0 k l (l.length : Int) (j : Int)) (fun j => decide (0 ≤ rd l (j : Int) ∧ rd l (j : Int) ≤ 10000)) l.length (-1) (fun j => (j : Int)) ?_ ?_ ?_
    · refine Ev.bind (Ev.bind this (evo rfl)) (evo ?_)
      rcases ff_eq (fun j => decide (0 ≤ rd l (j : Int) ∧ rd l (j : Int) ≤ 10000)) (-1 : Int) (fun j => (j : Int)) l.length with ⟨hh, e⟩ | ⟨m, hm, hf, _, e⟩
      · rw [e, decide_eq_true (show Valid l from ⟨by omega, by omega, fun j hj => by simpa using hh j hj⟩)]; rfl
      · rw [e, decide_eq_false (show ¬ Valid l from fun hv => by rw [decide_eq_true (hv.2.2 m hm)] at hf; cases hf)]
        simp
    · intro j r hj hp ih
      refine evs ?_
      have hb := h16.rdb (j : Int)
      simp (disch := omega) only [slices_IndexFunc_at_impl_ValidCam_c1.l0, impl_ValidCam_c1.f, if_pos, e_impl_isLift, Option.bind_some, w64]
      first | exact ih | (rw [hp]; simp only [Bool.not_true, Bool.false_eq_true, if_false]; exact ih)
    · intro j hj hp
      refine evs ?_
      have hb := h16.rdb (j : Int)
      simp (disch := omega) only [slices_IndexFunc_at_impl_ValidCam_c1.l0, impl_ValidCam_c1.f, if_pos, e_impl_isLift, Option.bind_some, w64]
      first | exact evo rfl | (rw [hp]; exact evo rfl)
    · refine evs ?_
      simp (disch := omega) only [slices_IndexFunc_at_impl_ValidCam_c1.l0, if_neg]
      exact evo rfl
  · rw [decide_eq_false h]
    simp only [Bool.false_eq_true, if_false]
    exact evo (decide_eq_false (fun hv => h ⟨by have := hv.1; omega, by have := hv.2.1; omega⟩)).symm

/-! impl_first -/
theorem e_impl_codeIf (b : Bool) (c : Int) : impl_codeIf.f b c = some (if b = true then c else 0) := by
  unfold impl_codeIf.f; split <;> rfl

/-! cutter -/
def cutS (l : List Int) (i : Int) : Prop := (0 ≤ rd l i ∧ rd l i ≤ 10000) ∧ rd l ((l.length : Int) - 1 - i) = rd l i ∧ (i > 0 → ¬ rd l (i - 1) < rd l i)
def cutI (l : List Int) (i : Int) : Prop := (0 ≤ rd l i ∧ rd l i ≤ 10000) ∧ rd l i = rd l ((l.length : Int) - 1 - i) ∧ (i > (l.length : Int) / 2 → ¬ rd l i < rd l (i - 1))
instance (l : List Int) (i : Int) : Decidable (cutS l i) := by unfold cutS; infer_instance
instance (l : List Int) (i : Int) : Decidable (cutI l i) := by unfold cutI; infer_instance
/-- A valid cutter. -/
def CutOk (l : List Int) : Prop := ((l.length : Int) % 2 ≠ 0 ∧ (l.length : Int) ≤ 31) ∧ rd l ((l.length : Int) / 2) = 0 ∧ ∀ j, j < l.length → cutI l (j : Int)
instance (l : List Int) : Decidable (CutOk l) := by unfold CutOk; infer_instance
theorem cut_same (l : List Int) (ho : (l.length : Int) % 2 ≠ 0) : (∀ j : Nat, j < l.length / 2 + 1 → cutS l (j : Int)) ↔ (∀ j : Nat, j < l.length → cutI l (j : Int)) := by
  constructor
  · intro h j hj
    by_cases c : j < l.length / 2 + 1
    · obtain ⟨a, b, _⟩ := h j c
      exact ⟨a, b.symm, fun g => by omega⟩
    · have h1 := h (l.length - 1 - j) (by omega)
      have h2 := h (l.length - 1 - j + 1) (by omega)
      obtain ⟨a1, b1, _⟩ := h1
      obtain ⟨a2, b2, c2⟩ := h2
      have e1 : (l.length : Int) - 1 - ((l.length - 1 - j : Nat) : Int) = (j : Int) := by omega
      have e1' : ((l.length - 1 - j : Nat) : Int) = (l.length : Int) - 1 - (j : Int) := by omega
      have e2 : (l.length : Int) - 1 - ((l.length - 1 - j + 1 : Nat) : Int) = (j : Int) - 1 := by omega
      have e3 : ((l.length - 1 - j + 1 : Nat) : Int) - 1 = (l.length : Int) - 1 - (j : Int) := by omega
      have e4 : ((l.length - 1 - j + 1 : Nat) : Int) = (l.length : Int) - (j : Int) := by omega
      have c3 := c2 (by omega)
      rw [e1, e1'] at b1
      rw [e1'] at a1
      rw [e2, e4] at b2
      rw [e3, e4] at c3
      refine ⟨by rw [b1]; exact a1, b1, fun _ => by rw [b1, b2]; exact c3⟩
  · intro h j hj
    have hn : j < l.length := by omega
    obtain ⟨a, b, _⟩ := h j hn
    refine ⟨a, b.symm, fun g => ?_⟩
    obtain ⟨_, _, c1⟩ := h (l.length - j) (by omega)
    obtain ⟨_, b2, _⟩ := h (j - 1) (by omega)
    have e1 : ((l.length - j : Nat) : Int) = (l.length : Int) - (j : Int) := by omega
    have e2 : ((j - 1 : Nat) : Int) = (j : Int) - 1 := by omega
    have c2 := c1 (by omega)
    rw [e1] at c2
    rw [e2, show (l.length : Int) - 1 - ((j : Int) - 1) = (l.length : Int) - (j : Int) by omega] at b2
    rw [← b2, show (l.length : Int) - (j : Int) - 1 = (l.length : Int) - 1 - (j : Int) by omega, ← b] at c2
    exact c2
theorem e_spec_l06Ok (l : List Int) (h16 : I16 l) (hl : l.length ≤ 1048576) : Ev (fun k => spec_l06Ok.f k l) (decide (CutOk l)) := by
  unfold spec_l06Ok.f
  simp only [e_spec_l00In, Option.bind_some]
  by_cases c : 1 ≤ (l.length : Int) ∧ (l.length : Int) ≤ 31
  · rw [decide_eq_true c]
    simp only [if_true]
    by_cases o : (l.length : Int) % 2 = 0
    · simp only [if_pos o]
      refine evs ?_
      simp only [spec_l06Ok.j0, if_true]
      exact evo (decide_eq_false (fun h => h.1.1 o)).symm
    · simp (disch := omega) only [if_neg o, if_pos, w64]
      refine evs ?_
      by_cases z : rd l ((l.length : Int) / 2) = 0
      · simp only [spec_l06Ok.j0, z, bne_self_eq_false, Bool.false_eq_true, if_false]
        have := ev_find (fun k j => spec_l06Ok.l0 k l (l.length : Int) (j : Int)) (fun j => decide (cutS l (j : Int))) (l.length / 2 + 1) true (fun _ => false) ?_ ?_ ?_
        · rw [ff_all] at this
          refine eve this (decide_eq_decide.mpr ?_)
          have cs := cut_same l o
          constructor
          · intro h; exact ⟨⟨o, c.2⟩, z, cs.mp fun j hj => of_decide_eq_true (h j hj)⟩
          · intro h j hj; exact decide_eq_true (cs.mpr h.2.2 j hj)
        · intro j r hj hp ih
          obtain ⟨a, b, d⟩ := of_decide_eq_true hp
          refine evs ?_
          have t2 : Int.tdiv (l.length : Int) 2 = (l.length : Int) / 2 := tdiv_pos (by omega)
          have r16 := h16.rdb (j : Int)
          simp (disch := omega) only [spec_l06Ok.l0, t2, w64, if_pos, e_spec_l01Lift, Option.bind_some, decide_eq_true a, if_true, b]
          by_cases g : (j : Int) > 0
          · simp (disch := omega) only [if_pos g, if_pos, if_neg (d g)]
            exact ih
          · simp only [if_neg g]; exact ih
        · intro j hj hp
          have hp' := of_decide_eq_false hp
          refine evs ?_
          have t2 : Int.tdiv (l.length : Int) 2 = (l.length : Int) / 2 := tdiv_pos (by omega)
          have r16 := h16.rdb (j : Int)
          simp (disch := omega) only [spec_l06Ok.l0, t2, w64, if_pos, e_spec_l01Lift, Option.bind_some]
          by_cases a : 0 ≤ rd l (j : Int) ∧ rd l (j : Int) ≤ 10000
          · rw [decide_eq_true a]
            simp (disch := omega) only [if_true, if_pos]
            by_cases b : rd l ((l.length : Int) - 1 - (j : Int)) = rd l (j : Int)
            · simp only [if_pos b]
              by_cases g : (j : Int) > 0
              · by_cases d : rd l ((j : Int) - 1) < rd l (j : Int)
                · simp (disch := omega) only [if_pos g, if_pos, if_pos d]; exact evo rfl
                · exact absurd ⟨a, b, fun _ => d⟩ hp'
              · exact absurd ⟨a, b, fun g' => absurd g' g⟩ hp'
            · simp only [if_neg b]; exact evo rfl
          · rw [decide_eq_false a]
            simp only [Bool.false_eq_true, if_false]; exact evo rfl
        · refine evs ?_
          have t2 : Int.tdiv (l.length : Int) 2 = (l.length : Int) / 2 := tdiv_pos (by omega)
          simp (disch := omega) only [spec_l06Ok.l0, t2, w64, if_neg]
          exact evo rfl
      · simp only [spec_l06Ok.j0, bne_iff_ne, ne_eq, z, not_false_eq_true, if_true]
        exact evo (decide_eq_false (fun h => z h.2.1)).symm
  · rw [decide_eq_false c]
    simp only [Bool.false_eq_true, if_false]
    refine evs ?_
    simp only [spec_l06Ok.j0, if_true]
    exact evo (decide_eq_false (fun h => c ⟨by have := h.1.1; omega, h.1.2⟩)).symm
theorem e_impl_ValidCutter (l : List Int) (h16 : I16 l) (hl : l.length ≤ 1048576) : Ev (fun k => impl_ValidCutter.f k l) (decide (CutOk l)) := by
  unfold impl_ValidCutter.f
  by_cases o : (l.length : Int) % 2 = 0
  · simp only [if_pos o]
    refine evs ?_
    simp only [impl_ValidCutter.j0, if_true]
    exact evo (decide_eq_false (fun h => h.1.1 o)).symm
  · simp only [if_neg o]
    by_cases c : (l.length : Int) > 31
    · simp only [if_pos c]
      refine evs ?_
      simp only [impl_ValidCutter.j0, if_true]
      exact evo (decide_eq_false (fun h => by have := h.1.2; omega)).symm
    · simp (disch := omega) only [if_neg c, if_pos, w64]
      refine evs ?_
      by_cases z : rd l ((l.length : Int) / 2) = 0
      · simp only [impl_ValidCutter.j0, z, bne_self_eq_false, Bool.false_eq_true, if_false]
        have := ev_find (fun k j => impl_ValidCutter.l0 k l (l.length : Int) l (l.length : Int) (j : Int)) (fun j => decide (cutI l (j : Int))) l.length true (fun _ => false) ?_ ?_ ?_
        · rw [ff_all] at this
          refine eve this (decide_eq_decide.mpr ?_)
          constructor
          · intro h; exact ⟨⟨o, by omega⟩, z, fun j hj => of_decide_eq_true (h j hj)⟩
          · intro h j hj; exact decide_eq_true (h.2.2 j hj)
        · intro j r hj hp ih
          obtain ⟨a, b, d⟩ := of_decide_eq_true hp
          refine evs ?_
          have t2 : Int.tdiv (l.length : Int) 2 = (l.length : Int) / 2 := tdiv_pos (by omega)
          have r16 := h16.rdb (j : Int)
          simp (disch := omega) only [impl_ValidCutter.l0, t2, w64, if_pos, e_impl_isLift, Option.bind_some, decide_eq_true a, if_true]
          by_cases g : (j : Int) > (l.length : Int) / 2
          · simp (disch := omega) only [if_pos b, if_pos g, if_pos, if_neg (d g)]
            exact ih
          · simp only [if_pos b, if_neg g]; exact ih
        · intro j hj hp
          have hp' := of_decide_eq_false hp
          refine evs ?_
          have t2 : Int.tdiv (l.length : Int) 2 = (l.length : Int) / 2 := tdiv_pos (by omega)
          have r16 := h16.rdb (j : Int)
          simp (disch := omega) only [impl_ValidCutter.l0, t2, w64, if_pos, e_impl_isLift, Option.bind_some]
          by_cases a : 0 ≤ rd l (j : Int) ∧ rd l (j : Int) ≤ 10000
          · rw [decide_eq_true a]
            simp (disch := omega) only [if_true, if_pos]
            by_cases b : rd l (j : Int) = rd l ((l.length : Int) - 1 - (j : Int))
            · simp only [if_pos b]
              by_cases g : (j : Int) > (l.length : Int) / 2
              · by_cases d : rd l (j : Int) < rd l ((j : Int) - 1)
                · simp (disch := omega) only [if_pos g, if_pos, if_pos d]; exact evo rfl
                · exact absurd ⟨a, b, fun _ => d⟩ hp'
              · exact absurd ⟨a, b, fun g' => absurd g' g⟩ hp'
            · simp only [if_neg b]; exact evo rfl
          · rw [decide_eq_false a]
            simp only [Bool.false_eq_true, if_false]; exact evo rfl
        · refine evs ?_
          simp (disch := omega) only [impl_ValidCutter.l0, if_neg]
          exact evo rfl
      · simp only [impl_ValidCutter.j0, bne_iff_ne, ne_eq, z, not_false_eq_true, if_true]
        exact evo (decide_eq_false (fun h => z h.2.1)).symm
def cutC (l m : List Int) : Int := if Valid l ∧ CutOk m then 0 else 1
theorem e_spec_l06Asked (l m : List Int) (h16 : I16 l) (hl : l.length ≤ 1048576) (m16 : I16 m) (hm : m.length ≤ 1048576) : Ev (fun k => spec_l06Asked.f k l m) (cutC l m) := by
  unfold spec_l06Asked.f cutC
  refine Ev.bind (e_spec_l01Ok l h16 hl) ?_
  by_cases v : Valid l
  · simp only [v, decide_true, if_true, true_and]
    refine Ev.bind (e_spec_l06Ok m m16 hm) ?_
    by_cases c : CutOk m
    · simp only [c, decide_true, if_true]; exact evo rfl
    · simp only [c, decide_false, Bool.false_eq_true, if_false]; exact evo rfl
  · simp only [v, decide_false, Bool.false_eq_true, if_false, false_and]; exact evo rfl
theorem e_impl_cutterCode (l m : List Int) (h16 : I16 l) (hl : l.length ≤ 1048576) (m16 : I16 m) (hm : m.length ≤ 1048576) : Ev (fun k => impl_cutterCode.f k l m) (cutC l m) := by
  unfold impl_cutterCode.f cutC
  refine Ev.bind (e_impl_ValidCam l h16 hl) ?_
  by_cases v : Valid l
  · simp only [v, decide_true, if_true, true_and]
    refine Ev.bind (e_impl_ValidCutter m m16 hm) ?_
    by_cases c : CutOk m
    · simp only [c, decide_true, Bool.not_true, e_impl_codeIf, Bool.false_eq_true, if_false, Option.bind_some, if_true]; exact evo rfl
    · simp only [c, decide_false, Bool.not_false, e_impl_codeIf, if_true, Option.bind_some, if_false]; exact evo rfl
  · simp only [v, decide_false, Bool.false_eq_true, if_false, false_and, e_impl_codeIf, if_true, Option.bind_some]; exact evo rfl
theorem CutOk.rdb {m : List Int} (h : CutOk m) (i : Int) : 0 ≤ rd m i ∧ rd m i ≤ 10000 := by
  by_cases c : i.toNat < m.length
  · have e : rd m i = rd m ((i.toNat : Nat) : Int) := by unfold rd; rw [Int.toNat_natCast]
    rw [e]; exact (h.2.2 _ c).1
  · have : rd m i = 0 := by simp [rd, List.getD_eq_getElem?_getD, List.getElem?_eq_none (Nat.not_lt.mp c)]
    omega

/-! spec_at -/
theorem e_spec_l01At (l : List Int) (h16 : I16 l) (h0 : 0 < l.length) (hl : l.length ≤ 1048576) (a : Int) (ha : -1000000000000 ≤ a) (hb : a ≤ 1000000000000) : spec_l01At.f l a = some (atz l a) := by
  unfold spec_l01At.f atz
  have hn : (0 : Int) < l.length := by omega
  have b := tmod_b a hn
  rw [if_neg (by omega), w64 (by omega) (by omega), two_mods a hn]
  have c := emod_b a hn
  rw [if_pos c.1, if_pos c.2]
  have := h16.rdb (a % (l.length : Int))
  rw [w64 (by omega) (by omega)]

/-! impl_mod -/
theorem e_impl_floorDiv (a n : Int) (h : 0 < n) (ha : -9223372036854775807 ≤ a) (hb : a ≤ 9223372036854775807) : impl_floorDiv.f a n = some (a / n) := by
  unfold impl_floorDiv.f
  have := tdiv_b a h 9223372036854775807 ha hb
  rw [if_neg (by omega), ← floor_tdiv a h]
  by_cases c : Int.tmod a n < 0
  · simp (disch := omega) only [if_pos c, w64]
  · simp (disch := omega) only [if_neg c, w64]
theorem e_impl_mod (a n : Int) (h : 0 < n) (hn : n ≤ 1048576) (ha : -1000000000000 ≤ a) (hb : a ≤ 1000000000000) : impl_mod.f a n = some (a % n) := by
  unfold impl_mod.f
  rw [e_impl_floorDiv a n h (by omega) (by omega)]
  have e := Int.emod_add_mul_ediv a n
  have b := emod_b a h
  simp (disch := omega) only [Option.bind_some, w64, mod_ediv]

/-! impl_at -/
theorem e_impl_Cam_at (l : List Int) (h16 : I16 l) (h0 : 0 < l.length) (hl : l.length ≤ 1048576) (a : Int) (ha : -1000000000000 ≤ a) (hb : a ≤ 1000000000000) : impl_Cam_at.f l a = some (atz l a) := by
  unfold impl_Cam_at.f atz
  have hn : (0 : Int) < l.length := by omega
  have c := emod_b a hn
  rw [e_impl_Cam_steps, Option.bind_some, e_impl_mod a _ hn (by omega) ha hb, Option.bind_some, if_pos c.1, if_pos c.2]
  have := h16.rdb (a % (l.length : Int))
  rw [w64 (by omega) (by omega)]

/-! mx -/
theorem e_spec_l00Max' (a b : Int) : (if a > b then some a else some b) = some (mx a b) := by
  unfold mx
  by_cases h : a > b
  · rw [if_pos h, if_neg (by omega)]
  · rw [if_neg h]; by_cases h2 : a < b
    · rw [if_pos h2]
    · rw [if_neg h2, show a = b by omega]

/-! tips -/
/-- The least tip over a step, by the first places of a cutter. -/
def tipv (l m : List Int) (s : Int) : Nat → Int
  | 0 => 0
  | i + 1 => mx (tipv l m s i) (atz l (s + (i : Int) - (m.length : Int) / 2) - rd m (i : Int))
theorem tipv_s (l m : List Int) (s : Int) (i : Nat) : tipv l m s (i + 1) = mx (tipv l m s i) (atz l (s + (i : Int) - (m.length : Int) / 2) - rd m (i : Int)) := rfl
theorem tipv_b {l m : List Int} (hv : Valid l) (hc : CutOk m) (s : Int) (i : Nat) : 0 ≤ tipv l m s i ∧ tipv l m s i ≤ 10000 := by
  induction i with
  | zero => simp [tipv]
  | succ i ih =>
    have a := Valid.atzb hv (s + (i : Int) - (m.length : Int) / 2)
    have b := CutOk.rdb hc (i : Int)
    rw [tipv_s]; unfold mx; split <;> omega
def tipL (l m : List Int) : List Int := (List.range l.length).map fun s : Nat => tipv l m (s : Int) m.length
theorem tipL_len (l m : List Int) : (tipL l m).length = l.length := by simp [tipL]
theorem e_spec_l06Tip {l m : List Int} (h16 : I16 l) (m16 : I16 m) (hv : Valid l) (hc : CutOk m) (s : Int) (h0 : 0 ≤ s) (h1 : s ≤ 1000000) : Ev (fun k => spec_l06Tip.f k l m s) (tipv l m s m.length) := by
  have n8 := hv.1
  have n9 := hv.2.1
  have o := hc.1
  unfold spec_l06Tip.f
  simp (disch := omega) only [w64]
  have := ev_loop (fun k j => spec_l06Tip.l0 k l m s ((m.length : Int) / 2) (tipv l m s j) ((j : Int) - (m.length : Int) / 2)) m.length (tipv l m s m.length) ?_ ?_
  · rw [show ((0 : Nat) : Int) - (m.length : Int) / 2 = -((m.length : Int) / 2) by omega] at this
    exact this
  · intro j hj ih
    refine evs ?_
    have t := tipv_b hv hc s j
    have a := Valid.atzb hv (s + (j : Int) - (m.length : Int) / 2)
    have b := CutOk.rdb hc (j : Int)
    have e1 : s + ((j : Int) - (m.length : Int) / 2) = s + (j : Int) - (m.length : Int) / 2 := by omega
    have e2 : (m.length : Int) / 2 + ((j : Int) - (m.length : Int) / 2) = (j : Int) := by omega
    have e3 : (j : Int) - (m.length : Int) / 2 + 1 = ((j + 1 : Nat) : Int) - (m.length : Int) / 2 := by omega
    simp (disch := omega) only [spec_l06Tip.l0, if_pos, w64, e1, e2, e3, e_spec_l01At l h16, Option.bind_some]
    unfold spec_l00Max.f
    rw [e_spec_l00Max']
    simp only [Option.bind_some]
    rw [tipv_s] at ih
    exact ih
  · refine evs ?_
    simp (disch := omega) only [spec_l06Tip.l0, if_neg]
    exact evo rfl
theorem e_spec_l06Tips {l m : List Int} (h16 : I16 l) (m16 : I16 m) (hv : Valid l) (hc : CutOk m) : Ev (fun k => spec_l06Tips.f k l m) (tipL l m) := by
  have n9 := hv.2.1
  unfold spec_l06Tips.f
  have := ev_loop (fun k j => spec_l06Tips.l0 k l m ((List.range j).map fun s : Nat => tipv l m (s : Int) m.length) (j : Int)) l.length (tipL l m) ?_ ?_
  · exact this
  · intro j hj ih
    refine evs ?_
    simp (disch := omega) only [spec_l06Tips.l0, if_pos]
    refine Ev.bind (e_spec_l06Tip h16 m16 hv hc (j : Int) (by omega) (by omega)) ?_
    have e : ((List.range j).map fun s : Nat => tipv l m (s : Int) m.length).length = j := map_len _ _
    simp (disch := omega) only [e, if_pos, w64]
    rw [← map_snoc (fun s : Nat => tipv l m (s : Int) m.length)]
    exact ih
  · refine evs ?_
    simp (disch := omega) only [spec_l06Tips.l0, if_neg]
    exact evo rfl
theorem e_impl_tips_c1 {l m : List Int} (h16 : I16 l) (m16 : I16 m) (hv : Valid l) (hc : CutOk m) (s : Int) (h0 : 0 ≤ s) (h1 : s ≤ 1000000) : Ev (fun k => impl_Cam_tips_c1.f k s m l) (tipv l m s m.length) := by
  have n8 := hv.1
  have n9 := hv.2.1
  have o := hc.1
  unfold impl_Cam_tips_c1.f impl_Cutter_each_at_impl_Cam_tips_c1_c1.f
  simp (disch := omega) only [w64]
  have := ev_loop (fun k j => impl_Cutter_each_at_impl_Cam_tips_c1_c1.l0 k s ((m.length : Int) / 2) m (m.length : Int) (j : Int) l (tipv l m s j)) m.length (tipv l m s m.length) ?_ ?_
  · exact this
  · intro j hj ih
    refine evs ?_
    have t := tipv_b hv hc s j
    have a := Valid.atzb hv (s + (j : Int) - (m.length : Int) / 2)
    have b := CutOk.rdb hc (j : Int)
    simp (disch := omega) only [impl_Cutter_each_at_impl_Cam_tips_c1_c1.l0, impl_Cam_tips_c1_c1.f, if_pos, w64, e_impl_Cam_at l h16, Option.bind_some]
    rw [tipv_s] at ih
    exact ih
  · refine evs ?_
    simp (disch := omega) only [impl_Cutter_each_at_impl_Cam_tips_c1_c1.l0, if_neg]
    exact evo rfl
theorem e_impl_tips {l m : List Int} (h16 : I16 l) (m16 : I16 m) (hv : Valid l) (hc : CutOk m) : Ev (fun k => impl_Cam_tips.f k l m) (tipL l m) := by
  have n9 := hv.2.1
  unfold impl_Cam_tips.f impl_Cam_numbers_at_impl_Cam_tips_c1.f
  simp only [e_impl_Cam_steps, Option.bind_some]
  refine Ev.bind (a := tipL l m) ?_ (evo rfl)
  have := ev_loop (fun k j => impl_Cam_numbers_at_impl_Cam_tips_c1.l0 k ((List.range j).map fun s : Nat => tipv l m (s : Int) m.length) (l.length : Int) (j : Int) m l) l.length (tipL l m) ?_ ?_
  · exact this
  · intro j hj ih
    refine evs ?_
    simp (disch := omega) only [impl_Cam_numbers_at_impl_Cam_tips_c1.l0, if_pos]
    refine Ev.bind (e_impl_tips_c1 h16 m16 hv hc (j : Int) (by omega) (by omega)) ?_
    have e : ((List.range j).map fun s : Nat => tipv l m (s : Int) m.length).length = j := map_len _ _
    simp (disch := omega) only [e, if_pos, w64]
    rw [← map_snoc (fun s : Nat => tipv l m (s : Int) m.length)]
    exact ih
  · refine evs ?_
    simp (disch := omega) only [impl_Cam_numbers_at_impl_Cam_tips_c1.l0, if_neg]
    exact evo rfl

/-! left -/
theorem rd_set (l : List Int) (a : Nat) (v : Int) (ha : a < l.length) (i : Nat) : rd (l.set a v) (i : Int) = if i = a then v else rd l (i : Int) := by
  unfold rd
  rw [Int.toNat_natCast, List.getD_eq_getElem?_getD, List.getD_eq_getElem?_getD, List.getElem?_set]
  by_cases c : i = a
  · rw [if_pos c, if_pos c.symm, if_pos (by omega)]; rfl
  · rw [if_neg c, if_neg (fun h => c h.symm)]
/-- Where a place of a cutter lies. -/
def cix (m : List Int) (n s : Int) (j : Nat) : Int := (s + ((j : Int) - (m.length : Int) / 2)) % n
/-- A list, cut at a step by the first places of a cutter, and what is taken. -/
def cutL (m : List Int) (n s t : Int) (out : List Int) : Nat → List Int × Int
  | 0 => (out, 0)
  | j + 1 => if rd (cutL m n s t out j).1 (cix m n s j) > t + rd m (j : Int) then ((cutL m n s t out j).1.set (cix m n s j).toNat (t + rd m (j : Int)), wrap64 ((cutL m n s t out j).2 + wrap64 (rd (cutL m n s t out j).1 (cix m n s j) - (t + rd m (j : Int))))) else cutL m n s t out j
theorem cutL_s (m : List Int) (n s t : Int) (out : List Int) (j : Nat) : cutL m n s t out (j + 1) = if rd (cutL m n s t out j).1 (cix m n s j) > t + rd m (j : Int) then ((cutL m n s t out j).1.set (cix m n s j).toNat (t + rd m (j : Int)), wrap64 ((cutL m n s t out j).2 + wrap64 (rd (cutL m n s t out j).1 (cix m n s j) - (t + rd m (j : Int))))) else cutL m n s t out j := rfl
theorem cutL_len (m : List Int) (n s t : Int) (out : List Int) (j : Nat) : (cutL m n s t out j).1.length = out.length := by
  induction j with
  | zero => rfl
  | succ j ih => rw [cutL_s]; split
                 · rw [List.length_set]; exact ih
                 · exact ih
def leftL (m T : List Int) (n : Int) (out : List Int) : Nat → List Int
  | 0 => out
  | s + 1 => (cutL m n (s : Int) (rd T (s : Int)) (leftL m T n out s) m.length).1
theorem leftL_s (m T : List Int) (n : Int) (out : List Int) (s : Nat) : leftL m T n out (s + 1) = (cutL m n (s : Int) (rd T (s : Int)) (leftL m T n out s) m.length).1 := rfl
theorem leftL_len (m T : List Int) (n : Int) (out : List Int) (s : Nat) : (leftL m T n out s).length = out.length := by
  induction s with
  | zero => rfl
  | succ s ih => rw [leftL_s, cutL_len]; exact ih
/-- All lifts of a list. -/
def InL (l : List Int) : Prop := ∀ i : Nat, 0 ≤ rd l (i : Int) ∧ rd l (i : Int) ≤ 10000
theorem cix_b (m : List Int) {n : Int} (h : 0 < n) (s : Int) (j : Nat) : 0 ≤ cix m n s j ∧ cix m n s j < n := emod_b _ h
theorem cutL_in (m : List Int) (hc : CutOk m) (out : List Int) (h0 : 0 < out.length) (hi : InL out) (s t : Int) (ht : 0 ≤ t) (j : Nat) : InL (cutL m (out.length : Int) s t out j).1 := by
  induction j with
  | zero => exact hi
  | succ j ih =>
    rw [cutL_s]
    split
    · next c =>
      have b := cix_b m (show (0 : Int) < out.length by omega) s j
      have k := CutOk.rdb hc (j : Int)
      have q := ih (cix m (out.length : Int) s j).toNat
      rw [Int.toNat_of_nonneg b.1] at q
      intro i
      dsimp only
      rw [rd_set _ _ _ (by rw [cutL_len]; omega)]
      split
      · omega
      · exact ih i
    · exact ih
theorem leftL_in (m T : List Int) (hc : CutOk m) (hT : ∀ i : Nat, 0 ≤ rd T (i : Int)) (out : List Int) (h0 : 0 < out.length) (hi : InL out) (s : Nat) : InL (leftL m T (out.length : Int) out s) := by
  induction s with
  | zero => exact hi
  | succ s ih =>
    have := cutL_in m hc (leftL m T (out.length : Int) out s) (by rw [leftL_len]; exact h0) ih (s : Int) (rd T (s : Int)) (hT s) m.length
    rw [leftL_len] at this
    rw [leftL_s]; exact this
def MinOf (P : Int → Prop) (v : Int) : Prop := (v = 10000 ∨ P v) ∧ v ≤ 10000 ∧ ∀ u, P u → v ≤ u
theorem MinOf.uniq {P : Int → Prop} {v w : Int} (h : MinOf P v) (g : MinOf P w) : v = w := by
  obtain ⟨a, b, c⟩ := h
  obtain ⟨d, e, f⟩ := g
  have x : v ≤ w := by rcases d with d | d
                       · omega
                       · exact c w d
  have y : w ≤ v := by rcases a with a | a
                       · omega
                       · exact f v a
  omega
theorem MinOf.congr {P Q : Int → Prop} {v : Int} (h : MinOf P v) (e : ∀ u, P u ↔ Q u) : MinOf Q v :=
  ⟨h.1.imp id (e v).mp, h.2.1, fun u hu => h.2.2 u ((e u).mpr hu)⟩
/-- What the cuts made so far leave of a step. -/
def PS (m T : List Int) (n : Int) (S J : Nat) (x : Int) (u : Int) : Prop := ∃ s i : Nat, (s < S ∧ i < m.length ∨ s = S ∧ i < J) ∧ cix m n (s : Int) i = x ∧ u = rd T (s : Int) + rd m (i : Int)
theorem cut_inv (m T : List Int) (out : List Int) (h0 : 0 < out.length) (S : Nat) (h : ∀ x : Nat, x < out.length → MinOf (PS m T out.length S 0 (x : Int)) (rd out (x : Int))) (j : Nat) (hj : j ≤ m.length) : ∀ x : Nat, x < out.length → MinOf (PS m T out.length S j (x : Int)) (rd (cutL m out.length (S : Int) (rd T (S : Int)) out j).1 (x : Int)) := by
  induction j with
  | zero => exact h
  | succ j ih =>
    have I := ih (by omega)
    have b := cix_b m (show (0 : Int) < out.length by omega) (S : Int) j
    intro x hx
    have new : ∀ u, PS m T out.length S (j + 1) (x : Int) u ↔ (PS m T out.length S j (x : Int) u ∨ (cix m out.length (S : Int) j = (x : Int) ∧ u = rd T (S : Int) + rd m (j : Int))) := by
      intro u
      constructor
      · rintro ⟨s, i, hs, hx2, hu⟩
        rcases hs with hs | hs
        · exact .inl ⟨s, i, .inl hs, hx2, hu⟩
        · by_cases c : i = j
          · obtain ⟨rfl, _⟩ := hs; subst c; exact .inr ⟨hx2, hu⟩
          · exact .inl ⟨s, i, .inr ⟨hs.1, by omega⟩, hx2, hu⟩
      · rintro (⟨s, i, hs, hx2, hu⟩ | ⟨hx2, hu⟩)
        · exact ⟨s, i, hs.imp id (fun z => ⟨z.1, by omega⟩), hx2, hu⟩
        · exact ⟨S, j, .inr ⟨rfl, by omega⟩, hx2, hu⟩
    have X := I (cix m out.length (S : Int) j).toNat (by omega)
    rw [Int.toNat_of_nonneg b.1] at X
    have Ix := I x hx
    rw [cutL_s]
    by_cases e : cix m out.length (S : Int) j = (x : Int)
    · rw [e] at X ⊢
      by_cases c : rd (cutL m out.length (S : Int) (rd T (S : Int)) out j).1 (x : Int) > rd T (S : Int) + rd m (j : Int)
      · rw [if_pos c]
        dsimp only
        rw [Int.toNat_natCast, rd_set _ _ _ (by rw [cutL_len]; exact hx), if_pos rfl]
        refine ⟨.inr ((new _).mpr (.inr ⟨e, rfl⟩)), by have := X.2.1; omega, fun u hu => ?_⟩
        rcases (new u).mp hu with g | g
        · have := X.2.2 u g; omega
        · omega
      · rw [if_neg c]
        refine ⟨X.1.imp id (fun z => (new _).mpr (.inl z)), X.2.1, fun u hu => ?_⟩
        rcases (new u).mp hu with g | g
        · exact X.2.2 u g
        · omega
    · have keep : rd (if rd (cutL m out.length (S : Int) (rd T (S : Int)) out j).1 (cix m out.length (S : Int) j) > rd T (S : Int) + rd m (j : Int) then ((cutL m out.length (S : Int) (rd T (S : Int)) out j).1.set (cix m out.length (S : Int) j).toNat (rd T (S : Int) + rd m (j : Int)), wrap64 ((cutL m out.length (S : Int) (rd T (S : Int)) out j).2 + wrap64 (rd (cutL m out.length (S : Int) (rd T (S : Int)) out j).1 (cix m out.length (S : Int) j) - (rd T (S : Int) + rd m (j : Int))))) else cutL m out.length (S : Int) (rd T (S : Int)) out j).1 (x : Int) = rd (cutL m out.length (S : Int) (rd T (S : Int)) out j).1 (x : Int) := by
        split
        · dsimp only
          rw [rd_set _ _ _ (by rw [cutL_len]; omega), if_neg (by omega)]
        · rfl
      rw [keep]
      exact Ix.congr fun u => ⟨fun z => (new u).mpr (.inl z), fun z => ((new u).mp z).elim id (fun g => absurd g.1 e)⟩
theorem left_inv (m T : List Int) (out : List Int) (h0 : 0 < out.length) (h : ∀ x : Nat, x < out.length → rd out (x : Int) = 10000) (S : Nat) : ∀ x : Nat, x < out.length → MinOf (PS m T out.length S 0 (x : Int)) (rd (leftL m T out.length out S) (x : Int)) := by
  induction S with
  | zero =>
    intro x hx
    refine ⟨.inl (h x hx), by have := h x hx; show rd out (x : Int) ≤ 10000; omega, ?_⟩
    rintro u ⟨s, i, hs, _⟩
    omega
  | succ S ih =>
    have := cut_inv m T (leftL m T out.length out S) (by rw [leftL_len]; exact h0) S (by rw [leftL_len]; exact ih) m.length (Nat.le_refl _)
    rw [leftL_len] at this
    intro x hx
    rw [leftL_s]
    refine (this x hx).congr fun u => ?_
    constructor
    · rintro ⟨s, i, hs, e⟩; exact ⟨s, i, .inl (by omega), e⟩
    · rintro ⟨s, i, hs, e⟩
      refine ⟨s, i, ?_, e⟩
      rcases hs with hs | hs
      · by_cases c : s = S
        · exact .inr ⟨c, hs.2⟩
        · exact .inl ⟨by omega, hs.2⟩
      · omega
/-- What the program tells of a step. -/
def lst (m T : List Int) (n s : Int) : Nat → Int
  | 0 => rd T s
  | i + 1 => mn (lst m T n s i) (rd T (cix m n s i) + rd m (i : Int))
theorem lst_s (m T : List Int) (n s : Int) (i : Nat) : lst m T n s (i + 1) = mn (lst m T n s i) (rd T (cix m n s i) + rd m (i : Int)) := rfl
theorem lst_le (m T : List Int) (n s : Int) (i : Nat) : lst m T n s i ≤ rd T s ∧ ∀ j : Nat, j < i → lst m T n s i ≤ rd T (cix m n s j) + rd m (j : Int) := by
  induction i with
  | zero => exact ⟨Int.le_refl _, fun j hj => by omega⟩
  | succ i ih =>
    rw [lst_s]
    have e : mn (lst m T n s i) (rd T (cix m n s i) + rd m (i : Int)) ≤ lst m T n s i ∧ mn (lst m T n s i) (rd T (cix m n s i) + rd m (i : Int)) ≤ rd T (cix m n s i) + rd m (i : Int) := by unfold mn; split <;> omega
    refine ⟨by omega, fun j hj => ?_⟩
    by_cases c : j = i
    · rw [c]; exact e.2
    · have := ih.2 j (by omega); omega
theorem lst_of (m T : List Int) (n s : Int) (i : Nat) : lst m T n s i = rd T s ∨ ∃ j : Nat, j < i ∧ lst m T n s i = rd T (cix m n s j) + rd m (j : Int) := by
  induction i with
  | zero => exact .inl rfl
  | succ i ih =>
    rw [lst_s]
    have e : mn (lst m T n s i) (rd T (cix m n s i) + rd m (i : Int)) = lst m T n s i ∨ mn (lst m T n s i) (rd T (cix m n s i) + rd m (i : Int)) = rd T (cix m n s i) + rd m (i : Int) := by unfold mn; split <;> simp
    rcases e with e | e
    · rw [e]
      rcases ih with h | ⟨j, hj, h⟩
      · exact .inl h
      · exact .inr ⟨j, by omega, h⟩
    · exact .inr ⟨i, by omega, e⟩
theorem lst_b (m T : List Int) (hc : CutOk m) (hT : ∀ i, 0 ≤ rd T i ∧ rd T i ≤ 10000) (n s : Int) (i : Nat) : 0 ≤ lst m T n s i ∧ lst m T n s i ≤ 10000 := by
  have a := (lst_le m T n s i).1
  have b := hT s
  refine ⟨?_, by omega⟩
  rcases lst_of m T n s i with h | ⟨j, _, h⟩
  · omega
  · have := hT (cix m n s j); have := CutOk.rdb hc (j : Int); omega
theorem cix_back (m : List Int) (ho : (m.length : Int) % 2 ≠ 0) (n : Int) (hn : 0 < n) (s : Int) (h0 : 0 ≤ s) (h1 : s < n) (j : Nat) (hj : j < m.length) : cix m n (cix m n s j) (m.length - 1 - j) = s := by
  unfold cix
  rw [Int.emod_add_emod, show s + ((j : Int) - (m.length : Int) / 2) + (((m.length - 1 - j : Nat) : Int) - (m.length : Int) / 2) = s by omega]
  exact Int.emod_eq_of_lt h0 h1
theorem cix_mid (m : List Int) (n : Int) (s : Int) (h0 : 0 ≤ s) (h1 : s < n) : cix m n s (m.length / 2) = s := by
  unfold cix
  rw [show s + (((m.length / 2 : Nat) : Int) - (m.length : Int) / 2) = s by omega]
  exact Int.emod_eq_of_lt h0 h1
theorem lst_min (m T : List Int) (hc : CutOk m) (hT : ∀ i, 0 ≤ rd T i ∧ rd T i ≤ 10000) (N : Nat) (s : Nat) (hs : s < N) : MinOf (PS m T (N : Int) N 0 (s : Int)) (lst m T (N : Int) (s : Int) m.length) := by
  have ho := hc.1.1
  have sym : ∀ j : Nat, j < m.length → rd m ((m.length - 1 - j : Nat) : Int) = rd m (j : Int) := fun j hj => by
    have := (hc.2.2 j hj).2.1
    rw [show ((m.length - 1 - j : Nat) : Int) = (m.length : Int) - 1 - (j : Int) by omega]; exact this.symm
  refine ⟨.inr ?_, (lst_b m T hc hT _ _ _).2, ?_⟩
  · rcases lst_of m T (N : Int) (s : Int) m.length with h | ⟨j, hj, h⟩
    · refine ⟨s, m.length / 2, .inl ⟨hs, by omega⟩, cix_mid m _ _ (by omega) (by omega), ?_⟩
      rw [h, show ((m.length / 2 : Nat) : Int) = (m.length : Int) / 2 by omega, hc.2.1, Int.add_zero]
    · have b := cix_b m (show (0 : Int) < (N : Int) by omega) (s : Int) j
      refine ⟨(cix m (N : Int) (s : Int) j).toNat, m.length - 1 - j, .inl ⟨by omega, by omega⟩, ?_, ?_⟩
      · rw [Int.toNat_of_nonneg b.1]; exact cix_back m ho _ (by omega) _ (by omega) (by omega) j hj
      · rw [h, Int.toNat_of_nonneg b.1, sym j hj]
  · rintro u ⟨s', i, hsi, hx, hu⟩
    have hs' : s' < N ∧ i < m.length := by omega
    have := (lst_le m T (N : Int) (s : Int) m.length).2 (m.length - 1 - i) (by omega)
    rw [← hx, cix_back m ho _ (by omega) _ (by omega) (by omega) i hs'.2, sym i hs'.2] at this
    rw [hu, ← hx]; exact this
def lefts (m T : List Int) (N : Nat) : List Int := (List.range N).map fun s : Nat => lst m T (N : Int) (s : Int) m.length
theorem lefts_len (m T : List Int) (N : Nat) : (lefts m T N).length = N := by simp [lefts]
theorem left_same (m T : List Int) (hc : CutOk m) (hT : ∀ i, 0 ≤ rd T i ∧ rd T i ≤ 10000) (N : Nat) (h0 : 0 < N) : leftL m T (N : Int) (List.replicate N 10000) N = lefts m T N := by
  have L : (List.replicate N (10000 : Int)).length = N := List.length_replicate
  have inv := left_inv m T (List.replicate N 10000) (by rw [L]; exact h0) (fun x hx => by
    rw [L] at hx
    unfold rd; rw [Int.toNat_natCast, List.getD_eq_getElem?_getD, List.getElem?_replicate, if_pos hx]; rfl) N
  rw [L] at inv
  apply List.ext_getElem
  · rw [leftL_len, L, lefts_len]
  · intro i h1 h2
    have hi : i < N := by rw [lefts_len] at h2; exact h2
    have e := (inv i hi).uniq (lst_min m T hc hT N i hi)
    have e1 : rd (leftL m T (N : Int) (List.replicate N 10000) N) (i : Int) = (leftL m T (N : Int) (List.replicate N 10000) N)[i] := by
      unfold rd; rw [Int.toNat_natCast, List.getD_eq_getElem?_getD, List.getElem?_eq_getElem h1]; rfl
    rw [← e1, e]
    simp [lefts]
theorem tipL_b {l m : List Int} (hv : Valid l) (hc : CutOk m) (i : Int) : 0 ≤ rd (tipL l m) i ∧ rd (tipL l m) i ≤ 10000 := by
  by_cases c : i.toNat < l.length
  · have e : rd (tipL l m) i = rd (tipL l m) ((i.toNat : Nat) : Int) := by unfold rd; rw [Int.toNat_natCast]
    rw [e]; unfold tipL; rw [rd_map _ _ _ (by omega) (by omega)]
    exact tipv_b hv hc _ _
  · have : rd (tipL l m) i = 0 := by
      unfold rd; rw [List.getD_eq_getElem?_getD, List.getElem?_eq_none (by rw [tipL_len]; omega)]; rfl
    omega
theorem e_spec_l06Cut (m : List Int) (hc : CutOk m) (out : List Int) (h0 : 0 < out.length) (hl : out.length ≤ 360) (hi : InL out) (s t : Int) (hs : 0 ≤ s ∧ s ≤ 1000) (ht : 0 ≤ t ∧ t ≤ 10000) : Ev (fun k => spec_l06Cut.f k out m s t) (cutL m (out.length : Int) s t out m.length) := by
  have o := hc.1
  unfold spec_l06Cut.f
  simp only [Option.bind_some, List.nil_append, List.length_nil]
  simp (disch := omega) only [if_pos, w64]
  have := ev_loop (fun k j => spec_l06Cut.l0 k m s t (cutL m (out.length : Int) s t out j).1 (out.length : Int) ((m.length : Int) / 2) (cutL m (out.length : Int) s t out j).2 ((j : Int) - (m.length : Int) / 2)) m.length (cutL m (out.length : Int) s t out m.length) ?_ ?_
  · rw [show ((0 : Nat) : Int) - (m.length : Int) / 2 = -((m.length : Int) / 2) by omega] at this
    exact this
  · intro j hj ih
    refine evs ?_
    have e2 : (m.length : Int) / 2 + ((j : Int) - (m.length : Int) / 2) = (j : Int) := by omega
    have e3 : (j : Int) - (m.length : Int) / 2 + 1 = ((j + 1 : Nat) : Int) - (m.length : Int) / 2 := by omega
    have b := cix_b m (show (0 : Int) < (out.length : Int) by omega) s j
    have tb := tmod_b (s + ((j : Int) - (m.length : Int) / 2)) (show (0 : Int) < (out.length : Int) by omega)
    have em : Int.tmod (Int.tmod (s + ((j : Int) - (m.length : Int) / 2)) (out.length : Int) + (out.length : Int)) (out.length : Int) = cix m (out.length : Int) s j := two_mods _ (by omega)
    have il := cutL_in m hc out h0 hi s t ht.1 j (cix m (out.length : Int) s j).toNat
    rw [Int.toNat_of_nonneg b.1] at il
    have kb := CutOk.rdb hc (j : Int)
    have el : ((cutL m (out.length : Int) s t out j).1.length : Int) = out.length := by rw [cutL_len]
    rw [cutL_s] at ih
    by_cases c : rd (cutL m (out.length : Int) s t out j).1 (cix m (out.length : Int) s j) > t + rd m (j : Int)
    · simp only [if_pos c] at ih
      simp (disch := omega) only [spec_l06Cut.l0, if_pos, if_neg, w64, w16, em, e2, e3, el]
      rw [w64 (x := rd (cutL m (out.length : Int) s t out j).1 (cix m (out.length : Int) s j) - (t + rd m (j : Int))) (by omega) (by omega)] at ih
      exact ih
    · simp only [if_neg c] at ih
      simp (disch := omega) only [spec_l06Cut.l0, if_pos, if_neg, w64, em, e2, e3, el]
      exact ih
  · refine evs ?_
    simp (disch := omega) only [spec_l06Cut.l0, if_neg]
    exact evo rfl
theorem e_spec_l06Left {l m : List Int} (h16 : I16 l) (m16 : I16 m) (hv : Valid l) (hc : CutOk m) : Ev (fun k => spec_l06Left.f k l m) (lefts m (tipL l m) l.length) := by
  have n8 := hv.1
  have n9 := hv.2.1
  rw [← left_same m (tipL l m) hc (tipL_b hv hc) l.length (by omega)]
  unfold spec_l06Left.f
  refine ev_loop (fun k j => spec_l06Left.l0 k l m (List.replicate j 10000) (l.length : Int) (j : Int)) l.length _ ?_ ?_
  · intro j hj ih
    refine evs ?_
    have e : (List.replicate j (10000 : Int)).length = j := List.length_replicate
    simp (disch := omega) only [spec_l06Left.l0, if_pos, e, w64]
    rw [List.replicate_succ'] at ih
    exact ih
  · refine evs ?_
    simp (disch := omega) only [spec_l06Left.l0, if_neg]
    refine Ev.bind (e_spec_l06Tips h16 m16 hv hc) ?_
    have L : (List.replicate l.length (10000 : Int)).length = l.length := List.length_replicate
    have hiL : InL (List.replicate l.length 10000) := by
      intro i
      unfold rd
      rw [Int.toNat_natCast, List.getD_eq_getElem?_getD, List.getElem?_replicate]
      split <;> simp
    have := ev_loop (fun k j => spec_l06Left.l1 k m (leftL m (tipL l m) (l.length : Int) (List.replicate l.length 10000) j) (tipL l m) (j : Int)) l.length (leftL m (tipL l m) (l.length : Int) (List.replicate l.length 10000) l.length) ?_ ?_
    · exact this
    · intro j hj ih
      refine evs ?_
      have eT : ((tipL l m).length : Int) = l.length := by rw [tipL_len]
      simp (disch := omega) only [spec_l06Left.l1, eT, if_pos]
      have li := leftL_in m (tipL l m) hc (fun i => (tipL_b hv hc (i : Int)).1) (List.replicate l.length 10000) (by rw [L]; omega) hiL j
      rw [L] at li
      have tb := tipL_b hv hc (j : Int)
      have len : (leftL m (tipL l m) (l.length : Int) (List.replicate l.length 10000) j).length = l.length := by rw [leftL_len, L]
      have C := e_spec_l06Cut m hc (leftL m (tipL l m) (l.length : Int) (List.replicate l.length 10000) j) (by omega) (by omega) li (j : Int) (rd (tipL l m) (j : Int)) (by omega) tb
      rw [len] at C
      refine Ev.bind C ?_
      simp (disch := omega) only [w64]
      rw [leftL_s] at ih
      exact ih
    · refine evs ?_
      have eT : ((tipL l m).length : Int) = l.length := by rw [tipL_len]
      simp (disch := omega) only [spec_l06Left.l1, eT, if_neg]
      exact evo rfl
theorem e_impl_left_c1 {l m : List Int} (m16 : I16 m) (hv : Valid l) (hc : CutOk m) (T : List Int) (hl : T.length = l.length) (hT : ∀ i, 0 ≤ rd T i ∧ rd T i ≤ 10000) (s : Nat) (hs : s < l.length) : Ev (fun k => impl_Cam_left_c1.f k (s : Int) T m l) (lst m T (l.length : Int) (s : Int) m.length) := by
  have n8 := hv.1
  have n9 := hv.2.1
  have o := hc.1
  unfold impl_Cam_left_c1.f impl_Cutter_each_at_impl_Cam_left_c1_c1.f
  simp (disch := omega) only [w64, if_pos]
  have := ev_loop (fun k j => impl_Cutter_each_at_impl_Cam_left_c1_c1.l0 k (s : Int) ((m.length : Int) / 2) m (m.length : Int) (j : Int) T l (lst m T (l.length : Int) (s : Int) j)) m.length (lst m T (l.length : Int) (s : Int) m.length) ?_ ?_
  · exact this
  · intro j hj ih
    refine evs ?_
    have q := emod_b ((s : Int) + (j : Int) - (m.length : Int) / 2) (show (0 : Int) < l.length by omega)
    have e : ((s : Int) + (j : Int) - (m.length : Int) / 2) % (l.length : Int) = cix m (l.length : Int) (s : Int) j := by unfold cix; rw [show (s : Int) + (j : Int) - (m.length : Int) / 2 = (s : Int) + ((j : Int) - (m.length : Int) / 2) by omega]
    have kb := CutOk.rdb hc (j : Int)
    have tb := hT (cix m (l.length : Int) (s : Int) j)
    rw [e] at q
    have M := e_impl_mod ((s : Int) + (j : Int) - (m.length : Int) / 2) (l.length : Int) (by omega) (by omega) (by omega) (by omega)
    rw [e] at M
    simp (disch := omega) only [impl_Cutter_each_at_impl_Cam_left_c1_c1.l0, impl_Cam_left_c1_c1.f, e_impl_Cam_steps, if_pos, w64, M, Option.bind_some]
    rw [lst_s] at ih
    exact ih
  · refine evs ?_
    simp (disch := omega) only [impl_Cutter_each_at_impl_Cam_left_c1_c1.l0, if_neg]
    exact evo rfl
theorem e_impl_left {l m : List Int} (h16 : I16 l) (m16 : I16 m) (hv : Valid l) (hc : CutOk m) : Ev (fun k => impl_Cam_left.f k l m) (lefts m (tipL l m) l.length) := by
  have n8 := hv.1
  have n9 := hv.2.1
  unfold impl_Cam_left.f
  refine Ev.bind (e_impl_tips h16 m16 hv hc) ?_
  simp only [e_impl_Cam_steps, Option.bind_some]
  refine Ev.bind (a := (lefts m (tipL l m) l.length, 0)) ?_ (evo rfl)
  unfold impl_camOf_at_impl_Cam_left_c1.f
  have := ev_loop (fun k j => impl_camOf_at_impl_Cam_left_c1.l0 k ((List.range j).map fun s : Nat => lst m (tipL l m) (l.length : Int) (s : Int) m.length) (l.length : Int) (j : Int) (tipL l m) m l) l.length (lefts m (tipL l m) l.length, 0) ?_ ?_
  · exact this
  · intro j hj ih
    refine evs ?_
    simp (disch := omega) only [impl_camOf_at_impl_Cam_left_c1.l0, if_pos]
    refine Ev.bind (e_impl_left_c1 m16 hv hc (tipL l m) (tipL_len l m) (tipL_b hv hc) j hj) ?_
    have b := lst_b m (tipL l m) hc (tipL_b hv hc) (l.length : Int) (j : Int) m.length
    have e3 : ((List.range j).map fun s : Nat => lst m (tipL l m) (l.length : Int) (s : Int) m.length).length = j := map_len _ _
    simp (disch := omega) only [e_impl_isLift, Option.bind_some, decide_eq_true, if_true, and_self, e3, if_pos, w64, w16]
    rw [← map_snoc (fun s : Nat => lst m (tipL l m) (l.length : Int) (s : Int) m.length)]
    exact ih
  · refine evs ?_
    simp (disch := omega) only [impl_camOf_at_impl_Cam_left_c1.l0, if_neg]
    exact evo rfl

/-! laws_cam -/
theorem e_laws_toCam (l : List Int) (hl : l.length ≤ 1048576) : Ev (fun k => laws_toCam.f k l) l := by
  unfold laws_toCam.f
  simp (disch := omega) only [if_pos]
  have := ev_loop (fun k j => laws_toCam.l0 k l (l.take j ++ List.replicate (l.length - j) 0) (j : Int)) l.length l ?_ ?_
  · simpa using this
  · intro j hj ih
    refine evs ?_
    have e : ((l.take j ++ List.replicate (l.length - j) 0).length : Int) = l.length := by simp; omega
    simp (disch := omega) only [laws_toCam.l0, if_pos, e, w64]
    have e2 : (l.take j ++ List.replicate (l.length - j) 0).set ((j : Int)).toNat (rd l (j : Int)) = l.take (j + 1) ++ List.replicate (l.length - (j + 1)) 0 := by
      have e3 : l.length - j = (l.length - (j + 1)) + 1 := by omega
      rw [e3, List.replicate_succ, Int.toNat_natCast, set_app _ _ _ _ _ (by simp; omega), rd_nat, List.take_succ_eq_append_getElem hj]
      have e4 : l.getD j 0 = l[j] := by simp [List.getD_eq_getElem?_getD, hj]
      rw [e4, List.append_assoc, List.singleton_append]
    rw [e2]
    exact ih
  · refine evs ?_
    simp (disch := omega) only [laws_toCam.l0, if_neg]
    exact evo (by simp)
theorem e_laws_eqCam (l : List Int) (hl : l.length ≤ 1048576) : Ev (fun k => laws_eqCam.f k l l) true := by
  unfold laws_eqCam.f
  simp only [if_true]
  have := ev_loop (fun k j => laws_eqCam.l0 k l l (j : Int)) l.length true ?_ ?_
  · exact this
  · intro j hj ih
    refine evs ?_
    simp (disch := omega) only [laws_eqCam.l0, if_pos, if_true, w64]
    exact ih
  · refine evs ?_
    simp (disch := omega) only [laws_eqCam.l0, if_neg]
    exact evo rfl

/-! marked -/
def marked (m : Int) (n : Nat) : List Int := (List.range n).map fun j : Nat => IntKind.i16.wrap (m + j)
theorem marked_len (m : Int) (n : Nat) : (marked m n).length = n := by simp [marked]

/-! laws_cutter -/
theorem e_laws_toCutter (l : List Int) (hl : l.length ≤ 1048576) : Ev (fun k => laws_toCutter.f k l) l := by
  unfold laws_toCutter.f
  simp (disch := omega) only [if_pos]
  have := ev_loop (fun k j => laws_toCutter.l0 k l (l.take j ++ List.replicate (l.length - j) 0) (j : Int)) l.length l ?_ ?_
  · simpa using this
  · intro j hj ih
    refine evs ?_
    have e : ((l.take j ++ List.replicate (l.length - j) 0).length : Int) = l.length := by simp; omega
    simp (disch := omega) only [laws_toCutter.l0, if_pos, e, w64]
    have e2 : (l.take j ++ List.replicate (l.length - j) 0).set ((j : Int)).toNat (rd l (j : Int)) = l.take (j + 1) ++ List.replicate (l.length - (j + 1)) 0 := by
      have e3 : l.length - j = (l.length - (j + 1)) + 1 := by omega
      rw [e3, List.replicate_succ, Int.toNat_natCast, set_app _ _ _ _ _ (by simp; omega), rd_nat, List.take_succ_eq_append_getElem hj]
      have e4 : l.getD j 0 = l[j] := by simp [List.getD_eq_getElem?_getD, hj]
      rw [e4, List.append_assoc, List.singleton_append]
    rw [e2]
    exact ih
  · refine evs ?_
    simp (disch := omega) only [laws_toCutter.l0, if_neg]
    exact evo (by simp)
theorem e_laws_eqCutter (l : List Int) (hl : l.length ≤ 1048576) : Ev (fun k => laws_eqCutter.f k l l) true := by
  unfold laws_eqCutter.f
  simp only [if_true]
  have := ev_loop (fun k j => laws_eqCutter.l0 k l l (j : Int)) l.length true ?_ ?_
  · exact this
  · intro j hj ih
    refine evs ?_
    simp (disch := omega) only [laws_eqCutter.l0, if_pos, if_true, w64]
    exact ih
  · refine evs ?_
    simp (disch := omega) only [laws_eqCutter.l0, if_neg]
    exact evo rfl

def wsum (L l : List Int) : Nat → Int
  | 0 => 0
  | j + 1 => wsum L l j + (rd L (j : Int) - rd l (j : Int))
theorem wsum_s (L l : List Int) (j : Nat) : wsum L l (j + 1) = wsum L l j + (rd L (j : Int) - rd l (j : Int)) := rfl
theorem wsum_b (L l : List Int) (hL : InL L) (hl : InL l) (j : Nat) : -(10000 * (j : Int)) ≤ wsum L l j ∧ wsum L l j ≤ 10000 * (j : Int) := by
  induction j with
  | zero => simp [wsum]
  | succ j ih => have := hL j; have := hl j; rw [wsum_s]; omega
theorem lefts_in {l m : List Int} (hv : Valid l) (hc : CutOk m) : InL (lefts m (tipL l m) l.length) := by
  intro i
  by_cases c : i < l.length
  · unfold lefts; rw [rd_map _ _ _ (by omega) (by omega)]
    exact lst_b m (tipL l m) hc (tipL_b hv hc) _ _ _
  · have : rd (lefts m (tipL l m) l.length) (i : Int) = 0 := by
      unfold rd; rw [Int.toNat_natCast, List.getD_eq_getElem?_getD, List.getElem?_eq_none (by rw [lefts_len]; omega)]; rfl
    omega
theorem valid_in {l : List Int} (hv : Valid l) : InL l := fun i => Valid.rdb hv (i : Int)
def woR (l m : List Int) : Int × Int := if Valid l ∧ CutOk m then (wsum (lefts m (tipL l m) l.length) l l.length, 0) else (0, 1)
theorem e_spec_WasteOf (l : List Int) (h16 : I16 l) (hl : l.length ≤ 1048576) (m : List Int) (m16 : I16 m) (hm : m.length ≤ 1048576) : Ev (fun k => spec_WasteOf.f k l m) (woR l m) := by
  unfold spec_WasteOf.f woR
  refine Ev.bind (e_spec_l06Asked l m h16 hl m16 hm) ?_
  unfold cutC
  by_cases c : Valid l ∧ CutOk m
  · simp only [if_pos c, if_true]
    refine Ev.bind (a := wsum (lefts m (tipL l m) l.length) l l.length) ?_ (evo rfl)
    unfold spec_l06Waste.f
    refine Ev.bind (e_spec_l06Left h16 m16 c.1 c.2) ?_
    have n9 := c.1.2.1
    refine ev_loop (fun k j => spec_l06Waste.l0 k l (lefts m (tipL l m) l.length) (wsum (lefts m (tipL l m) l.length) l j) (j : Int)) l.length _ ?_ ?_
    · intro j hj ih
      refine evs ?_
      have a := lefts_in c.1 c.2 j
      have b := valid_in c.1 j
      have s := wsum_b _ _ (lefts_in c.1 c.2) (valid_in c.1) j
      have el : ((lefts m (tipL l m) l.length).length : Int) = l.length := by rw [lefts_len]
      simp (disch := omega) only [spec_l06Waste.l0, if_pos, el, w64]
      rw [wsum_s] at ih
      exact ih
    · refine evs ?_
      simp (disch := omega) only [spec_l06Waste.l0, if_neg]
      exact evo rfl
  · simp only [if_neg c]
    exact ev_neg (by decide) (evo rfl)
theorem e_impl_WasteOf (l : List Int) (h16 : I16 l) (hl : l.length ≤ 1048576) (m : List Int) (m16 : I16 m) (hm : m.length ≤ 1048576) : Ev (fun k => impl_WasteOf.f k l m) (woR l m) := by
  unfold impl_WasteOf.f woR
  refine Ev.bind (e_impl_cutterCode l m h16 hl m16 hm) ?_
  unfold cutC
  by_cases c : Valid l ∧ CutOk m
  · simp only [if_pos c, if_true]
    refine Ev.bind (a := wsum (lefts m (tipL l m) l.length) l l.length) ?_ (evo rfl)
    unfold impl_Cam_waste.f
    refine Ev.bind (e_impl_left h16 m16 c.1 c.2) ?_
    have n9 := c.1.2.1
    have el : ((lefts m (tipL l m) l.length).length : Int) = l.length := by rw [lefts_len]
    rw [el]
    refine ev_loop (fun k j => impl_Cam_waste.l0 k l (wsum (lefts m (tipL l m) l.length) l j) (lefts m (tipL l m) l.length) (l.length : Int) (j : Int)) l.length _ ?_ ?_
    · intro j hj ih
      refine evs ?_
      have a := lefts_in c.1 c.2 j
      have b := valid_in c.1 j
      have s := wsum_b _ _ (lefts_in c.1 c.2) (valid_in c.1) j
      simp (disch := omega) only [impl_Cam_waste.l0, if_pos, el, w64, w16]
      rw [wsum_s] at ih
      exact ih
    · refine evs ?_
      simp (disch := omega) only [impl_Cam_waste.l0, if_neg]
      exact evo rfl
  · simp only [if_neg c]
    exact ev_neg (by decide) (evo rfl)
set_option maxHeartbeats 4000000 in
theorem FnExactWasteOf : laws_FnExactWasteOf.Pure := by
  intro l0 l1 _ _ w0 _ _ w1
  have h0 := I16.of_wf w0
  have h1 := I16.of_wf w1
  refine ev_rounds ?_
  unfold laws_FnExactWasteOf.f
  by_cases b0 : (l0.length : Int) > 1048576
  · simp only [if_pos b0]; exact evo rfl
  simp only [if_neg b0]
  have b0 : l0.length ≤ 1048576 := by omega
  have T0 := e_laws_toCam l0 b0
  have Q0 := e_laws_eqCam l0 b0
  by_cases b1 : (l1.length : Int) > 1048576
  · simp only [if_pos b1]; exact evo rfl
  simp only [if_neg b1]
  have b1 : l1.length ≤ 1048576 := by omega
  have T1 := e_laws_toCutter l1 b1
  have Q1 := e_laws_eqCutter l1 b1
  have A := e_spec_WasteOf l0 h0 b0 l1 h1 b1
  have B := e_impl_WasteOf l0 h0 b0 l1 h1 b1
  revert A B
  generalize (woR l0 l1) = RR
  obtain ⟨c0, c1⟩ := RR
  intro A B
  repeat (first | exact evo rfl | (with_reducible refine Ev.bind T0 ?_) | (with_reducible refine Ev.bind Q0 ?_) | (with_reducible refine Ev.bind T1 ?_) | (with_reducible refine Ev.bind Q1 ?_) | (with_reducible refine Ev.bind A ?_) | (with_reducible refine Ev.bind B ?_) | ((with_reducible refine ev_pos ?s1 ?_); (case s1 => first | rfl | trivial | omega | (dsimp only; omega))) | ((with_reducible refine ev_neg ?s1 ?_); (case s1 => first | omega | (dsimp only; omega) | (simp; done))) | (refine evs ?_; simp only [laws_FnExactWasteOf.j0]))


end Go.Proofs.Ytboicfocaoohmaa.Pure
