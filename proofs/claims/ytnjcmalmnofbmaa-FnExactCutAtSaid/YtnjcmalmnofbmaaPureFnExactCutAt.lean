/- The pure statement of the law FnExactCutAt: the program's function and the reference's tell the same of every input, by plain lemmas on numbers, lists and rounds; no further condition. -/
import Derived.Test.YtnjcmalmnofbmaaXFnExactCutAtx7
import Derived.Test.YtnjcmalmnofbmaaXLib
namespace Go.Proofs.Ytnjcmalmnofbmaa.Pure
open Go.RowKit Go.Proofs.Ytnjcmalmnofbmaa.XFnExactCutAt Go.Proofs.Ytnjcmalmnofbmaa.XLib Go.Proofs.YtnjcmalmnofbmaaW.PrintWords Go.Proofs.YtnjcmalmnofbmaaW.PrintLast Go.Proofs.YtnjcmalmnofbmaaW.PrintMore
set_option maxRecDepth 100000
set_option linter.unusedVariables false
set_option linter.unusedSimpArgs false
/-! base_spec -/
theorem e_spec_l00In (a b c : Int) : spec_l00In.f a b c = some (decide (b ≤ a ∧ a ≤ c)) := by
  unfold spec_l00In.f
  by_cases h : b ≤ a <;> simp [h]
theorem e_spec_l01Steps (a : Int) : spec_l01Steps.f a = some (decide (8 ≤ a ∧ a ≤ 360)) := by
  unfold spec_l01Steps.f; rw [e_spec_l00In]; rfl
theorem e_spec_l01Lift (a : Int) : spec_l01Lift.f a = some (decide (0 ≤ a ∧ a ≤ 10000)) := by
  unfold spec_l01Lift.f; rw [e_spec_l00In]; rfl
theorem e_spec_l01Ok (l : List Int) (h16 : I16 l) (hl : l.length ≤ 1048576) : Ev (fun k => spec_l01Ok.f k l) (decide (Valid l)) := by
  unfold spec_l01Ok.f
  simp only [e_spec_l01Steps, Option.bind_some]
  by_cases h : 8 ≤ (l.length : Int) ∧ (l.length : Int) ≤ 360
  · simp only [h, and_self, decide_true, if_true]
    have := ev_find (fun k j => spec_l01Ok.l0 k l (j : Int)) (fun j => decide (0 ≤ rd l (j : Int) ∧ rd l (j : Int) ≤ 10000)) l.length true (fun _ => false) ?_ ?_ ?_
    · rw [ff_all] at this
      refine eve this ?_
      apply decide_eq_decide.mpr
      unfold Valid
      constructor
      · intro hh; exact ⟨by omega, by omega, fun j hj => by simpa using hh j hj⟩
      · intro hh j hj; simpa using hh.2.2 j hj
    · intro j r hj hp ih
      refine evs ?_
      have hb := h16.rdb (j : Int)
      simp (disch := omega) only [spec_l01Ok.l0, if_pos, e_spec_l01Lift, Option.bind_some, w64]
      first | exact ih | (rw [hp]; simp only [if_true]; exact ih)
    · intro j hj hp
      refine evs ?_
      have hb := h16.rdb (j : Int)
      simp (disch := omega) only [spec_l01Ok.l0, if_pos, e_spec_l01Lift, Option.bind_some, w64]
      first | exact evo rfl | (rw [hp]; exact evo rfl)
    · refine evs ?_
      simp (disch := omega) only [spec_l01Ok.l0, if_neg]
      exact evo rfl
  · rw [decide_eq_false h]
    simp only [Bool.false_eq_true, if_false]
    exact evo (decide_eq_false (fun hv => h ⟨by have := hv.1; omega, by have := hv.2.1; omega⟩)).symm

/-! base_impl -/
theorem e_impl_inRange (a b c : Int) : impl_inRange.f a b c = some (decide (b ≤ a ∧ a ≤ c)) := by
  unfold impl_inRange.f
  by_cases h : b ≤ a <;> simp [h]
theorem e_impl_isSteps (a : Int) : impl_isSteps.f a = some (decide (8 ≤ a ∧ a ≤ 360)) := by
  unfold impl_isSteps.f; rw [e_impl_inRange]; rfl
theorem e_impl_isLift (a : Int) : impl_isLift.f a = some (decide (0 ≤ a ∧ a ≤ 10000)) := by
  unfold impl_isLift.f; rw [e_impl_inRange]; rfl
theorem e_impl_Cam_steps (l : List Int) : impl_Cam_steps.f l = some (l.length : Int) := rfl
theorem e_impl_ValidCam (l : List Int) (h16 : I16 l) (hl : l.length ≤ 1048576) : Ev (fun k => impl_ValidCam.f k l) (decide (Valid l)) := by
  unfold impl_ValidCam.f
  simp only [e_impl_Cam_steps, e_impl_isSteps, Option.bind_some]
  by_cases h : 8 ≤ (l.length : Int) ∧ (l.length : Int) ≤ 360
  · simp only [h, and_self, decide_true, if_true]
    unfold slices_ContainsFunc_at_impl_ValidCam_c1.f slices_IndexFunc_at_impl_ValidCam_c1.f
    have := ev_find (fun k j => slices_IndexFunc_at_impl_ValidCam_c1.l0 k l (l.length : Int) (j : Int)) (fun j => decide (0 ≤ rd l (j : Int) ∧ rd l (j : Int) ≤ 10000)) l.length (-1) (fun j => (j : Int)) ?_ ?_ ?_
    · refine Ev.bind (Ev.bind this (evo rfl)) (evo ?_)
      rcases ff_eq (fun j => decide (0 ≤ rd l (j : Int) ∧ rd l (j : Int) ≤ 10000)) (-1 : Int) (fun j => (j : Int)) l.length with ⟨hh, e⟩ | ⟨m, hm, hf, _, e⟩
      · rw [e, decide_eq_true (show Valid l from ⟨by omega, by omega, fun j hj => by simpa using hh j hj⟩)]; rfl
      · rw [e, decide_eq_false (show ¬ Valid l from fun hv => by rw [decide_eq_true (hv.2.2 m hm)] at hf; cases hf)]
        simp
    · intro j r hj hp ih
      refine evs ?_
      have hb := h16.rdb (j : Int)
      simp (disch := omega) only [slices_IndexFunc_at_impl_ValidCam_c1.l0, impl_ValidCam_c1.f, if_pos, e_impl_isLift, Option.bind_some, w64]
      first | exact ih | (rw [hp]; simp only [Bool.not_true, Bool.false_eq_true, if_false]; exact ih)
    · intro j hj hp
      refine evs ?_
      have hb := h16.rdb (j : Int)
      simp (disch := omega) only [slices_IndexFunc_at_impl_ValidCam_c1.l0, impl_ValidCam_c1.f, if_pos, e_impl_isLift, Option.bind_some, w64]
      first | exact evo rfl | (rw [hp]; exact evo rfl)
    · refine evs ?_
      simp (disch := omega) only [slices_IndexFunc_at_impl_ValidCam_c1.l0, if_neg]
      exact evo rfl
  · rw [decide_eq_false h]
    simp only [Bool.false_eq_true, if_false]
    exact evo (decide_eq_false (fun hv => h ⟨by have := hv.1; omega, by have := hv.2.1; omega⟩)).symm

/-! impl_first -/
theorem e_impl_firstCode (l : List Int) (hl : l.length ≤ 10000000) : Ev (fun k => impl_firstCode.f k l) (fnz l) := by
  unfold impl_firstCode.f
  suffices H : ∀ d j, j + d = l.length → Ev (fun k => impl_firstCode.l0 k l (l.length : Int) (j : Int)) (fnz (l.drop j)) from by
    have := H l.length 0 (by omega); simpa using this
  intro d
  induction d with
  | zero =>
    intro j hj
    refine evs ?_
    simp (disch := omega) only [impl_firstCode.l0, if_neg]
    exact evo (by rw [List.drop_of_length_le (by omega)]; rfl)
  | succ d ih =>
    intro j hj
    refine evs ?_
    have hj2 : j < l.length := by omega
    simp (disch := omega) only [impl_firstCode.l0, if_pos, w64]
    have e : l.drop j = rd l (j : Int) :: l.drop (j + 1) := by
      rw [List.drop_eq_getElem_cons hj2, rd_nat]; simp [List.getD_eq_getElem?_getD, hj2]
    rw [e]; unfold fnz
    by_cases c : rd l (j : Int) = 0
    · simp only [if_pos c]; exact ih (j + 1) (by omega)
    · simp only [if_neg c]; exact evo rfl
theorem e_impl_codeIf (b : Bool) (c : Int) : impl_codeIf.f b c = some (if b = true then c else 0) := by
  unfold impl_codeIf.f; split <;> rfl

/-! cutter -/
def cutS (l : List Int) (i : Int) : Prop := (0 ≤ rd l i ∧ rd l i ≤ 10000) ∧ rd l ((l.length : Int) - 1 - i) = rd l i ∧ (i > 0 → ¬ rd l (i - 1) < rd l i)
def cutI (l : List Int) (i : Int) : Prop := (0 ≤ rd l i ∧ rd l i ≤ 10000) ∧ rd l i = rd l ((l.length : Int) - 1 - i) ∧ (i > (l.length : Int) / 2 → ¬ rd l i < rd l (i - 1))
instance (l : List Int) (i : Int) : Decidable (cutS l i) := by unfold cutS; infer_instance
instance (l : List Int) (i : Int) : Decidable (cutI l i) := by unfold cutI; infer_instance
/-- A valid cutter. -/
def CutOk (l : List Int) : Prop := ((l.length : Int) % 2 ≠ 0 ∧ (l.length : Int) ≤ 31) ∧ rd l ((l.length : Int) / 2) = 0 ∧ ∀ j, j < l.length → cutI l (j : Int)
instance (l : List Int) : Decidable (CutOk l) := by unfold CutOk; infer_instance
theorem cut_same (l : List Int) (ho : (l.length : Int) % 2 ≠ 0) : (∀ j : Nat, j < l.length / 2 + 1 → cutS l (j : Int)) ↔ (∀ j : Nat, j < l.length → cutI l (j : Int)) := by
  constructor
  · intro h j hj
    by_cases c : j < l.length / 2 + 1
    · obtain ⟨a, b, _⟩ := h j c
      exact ⟨a, b.symm, fun g => by omega⟩
    · have h1 := h (l.length - 1 - j) (by omega)
      have h2 := h (l.length - 1 - j + 1) (by omega)
      obtain ⟨a1, b1, _⟩ := h1
      obtain ⟨a2, b2, c2⟩ := h2
      have e1 : (l.length : Int) - 1 - ((l.length - 1 - j : Nat) : Int) = (j : Int) := by omega
      have e1' : ((l.length - 1 - j : Nat) : Int) = (l.length : Int) - 1 - (j : Int) := by omega
      have e2 : (l.length : Int) - 1 - ((l.length - 1 - j + 1 : Nat) : Int) = (j : Int) - 1 := by omega
      have e3 : ((l.length - 1 - j + 1 : Nat) : Int) - 1 = (l.length : Int) - 1 - (j : Int) := by omega
      have e4 : ((l.length - 1 - j + 1 : Nat) : Int) = (l.length : Int) - (j : Int) := by omega
      have c3 := c2 (by omega)
      rw [e1, e1'] at b1
      rw [e1'] at a1
      rw [e2, e4] at b2
      rw [e3, e4] at c3
      refine ⟨by rw [b1]; exact a1, b1, fun _ => by rw [b1, b2]; exact c3⟩
  · intro h j hj
    have hn : j < l.length := by omega
    obtain ⟨a, b, _⟩ := h j hn
    refine ⟨a, b.symm, fun g => ?_⟩
    obtain ⟨_, _, c1⟩ := h (l.length - j) (by omega)
    obtain ⟨_, b2, _⟩ := h (j - 1) (by omega)
    have e1 : ((l.length - j : Nat) : Int) = (l.length : Int) - (j : Int) := by omega
    have e2 : ((j - 1 : Nat) : Int) = (j : Int) - 1 := by omega
    have c2 := c1 (by omega)
    rw [e1] at c2
    rw [e2, show (l.length : Int) - 1 - ((j : Int) - 1) = (l.length : Int) - (j : Int) by omega] at b2
    rw [← b2, show (l.length : Int) - (j : Int) - 1 = (l.length : Int) - 1 - (j : Int) by omega, ← b] at c2
    exact c2
theorem e_spec_l06Ok (l : List Int) (h16 : I16 l) (hl : l.length ≤ 1048576) : Ev (fun k => spec_l06Ok.f k l) (decide (CutOk l)) := by
  unfold spec_l06Ok.f
  simp only [e_spec_l00In, Option.bind_some]
  by_cases c : 1 ≤ (l.length : Int) ∧ (l.length : Int) ≤ 31
  · rw [decide_eq_true c]
    simp only [if_true]
    by_cases o : (l.length : Int) % 2 = 0
    · simp only [if_pos o]
      refine evs ?_
      simp only [spec_l06Ok.j0, if_true]
      exact evo (decide_eq_false (fun h => h.1.1 o)).symm
    · simp (disch := omega) only [if_neg o, if_pos, w64]
      refine evs ?_
      by_cases z : rd l ((l.length : Int) / 2) = 0
      · simp only [spec_l06Ok.j0, z, bne_self_eq_false, Bool.false_eq_true, if_false]
        have := ev_find (fun k j => spec_l06Ok.l0 k l (l.length : Int) (j : Int)) (fun j => decide (cutS l (j : Int))) (l.length / 2 + 1) true (fun _ => false) ?_ ?_ ?_
        · rw [ff_all] at this
          refine eve this (decide_eq_decide.mpr ?_)
          have cs := cut_same l o
          constructor
          · intro h; exact ⟨⟨o, c.2⟩, z, cs.mp fun j hj => of_decide_eq_true (h j hj)⟩
          · intro h j hj; exact decide_eq_true (cs.mpr h.2.2 j hj)
        · intro j r hj hp ih
          obtain ⟨a, b, d⟩ := of_decide_eq_true hp
          refine evs ?_
          have t2 : Int.tdiv (l.length : Int) 2 = (l.length : Int) / 2 := tdiv_pos (by omega)
          have r16 := h16.rdb (j : Int)
          simp (disch := omega) only [spec_l06Ok.l0, t2, w64, if_pos, e_spec_l01Lift, Option.bind_some, decide_eq_true a, if_true, b]
          by_cases g : (j : Int) > 0
          · simp (disch := omega) only [if_pos g, if_pos, if_neg (d g)]
            exact ih
          · simp only [if_neg g]; exact ih
        · intro j hj hp
          have hp' := of_decide_eq_false hp
          refine evs ?_
          have t2 : Int.tdiv (l.length : Int) 2 = (l.length : Int) / 2 := tdiv_pos (by omega)
          have r16 := h16.rdb (j : Int)
          simp (disch := omega) only [spec_l06Ok.l0, t2, w64, if_pos, e_spec_l01Lift, Option.bind_some]
          by_cases a : 0 ≤ rd l (j : Int) ∧ rd l (j : Int) ≤ 10000
          · rw [decide_eq_true a]
            simp (disch := omega) only [if_true, if_pos]
            by_cases b : rd l ((l.length : Int) - 1 - (j : Int)) = rd l (j : Int)
            · simp only [if_pos b]
              by_cases g : (j : Int) > 0
              · by_cases d : rd l ((j : Int) - 1) < rd l (j : Int)
                · simp (disch := omega) only [if_pos g, if_pos, if_pos d]; exact evo rfl
                · exact absurd ⟨a, b, fun _ => d⟩ hp'
              · exact absurd ⟨a, b, fun g' => absurd g' g⟩ hp'
            · simp only [if_neg b]; exact evo rfl
          · rw [decide_eq_false a]
            simp only [Bool.false_eq_true, if_false]; exact evo rfl
        · refine evs ?_
          have t2 : Int.tdiv (l.length : Int) 2 = (l.length : Int) / 2 := tdiv_pos (by omega)
          simp (disch := omega) only [spec_l06Ok.l0, t2, w64, if_neg]
          exact evo rfl
      · simp only [spec_l06Ok.j0, bne_iff_ne, ne_eq, z, not_false_eq_true, if_true]
        exact evo (decide_eq_false (fun h => z h.2.1)).symm
  · rw [decide_eq_false c]
    simp only [Bool.false_eq_true, if_false]
    refine evs ?_
    simp only [spec_l06Ok.j0, if_true]
    exact evo (decide_eq_false (fun h => c ⟨by have := h.1.1; omega, h.1.2⟩)).symm
theorem e_impl_ValidCutter (l : List Int) (h16 : I16 l) (hl : l.length ≤ 1048576) : Ev (fun k => impl_ValidCutter.f k l) (decide (CutOk l)) := by
  unfold impl_ValidCutter.f
  by_cases o : (l.length : Int) % 2 = 0
  · simp only [if_pos o]
    refine evs ?_
    simp only [impl_ValidCutter.j0, if_true]
    exact evo (decide_eq_false (fun h => h.1.1 o)).symm
  · simp only [if_neg o]
    by_cases c : (l.length : Int) > 31
    · simp only [if_pos c]
      refine evs ?_
      simp only [impl_ValidCutter.j0, if_true]
      exact evo (decide_eq_false (fun h => by have := h.1.2; omega)).symm
    · simp (disch := omega) only [if_neg c, if_pos, w64]
      refine evs ?_
      by_cases z : rd l ((l.length : Int) / 2) = 0
      · simp only [impl_ValidCutter.j0, z, bne_self_eq_false, Bool.false_eq_true, if_false]
        have := ev_find (fun k j => impl_ValidCutter.l0 k l (l.length : Int) l (l.length : Int) (j : Int)) (fun j => decide (cutI l (j : Int))) l.length true (fun _ => false) ?_ ?_ ?_
        · rw [ff_all] at this
          refine eve this (decide_eq_decide.mpr ?_)
          constructor
          · intro h; exact ⟨⟨o, by omega⟩, z, fun j hj => of_decide_eq_true (h j hj)⟩
          · intro h j hj; exact decide_eq_true (h.2.2 j hj)
        · intro j r hj hp ih
          obtain ⟨a, b, d⟩ := of_decide_eq_true hp
          refine evs ?_
          have t2 : Int.tdiv (l.length : Int) 2 = (l.length : Int) / 2 := tdiv_pos (by omega)
          have r16 := h16.rdb (j : Int)
          simp (disch := omega) only [impl_ValidCutter.l0, t2, w64, if_pos, e_impl_isLift, Option.bind_some, decide_eq_true a, if_true]
          by_cases g : (j : Int) > (l.length : Int) / 2
          · simp (disch := omega) only [if_pos b, if_pos g, if_pos, if_neg (d g)]
            exact ih
          · simp only [if_pos b, if_neg g]; exact ih
        · intro j hj hp
          have hp' := of_decide_eq_false hp
          refine evs ?_
          have t2 : Int.tdiv (l.length : Int) 2 = (l.length : Int) / 2 := tdiv_pos (by omega)
          have r16 := h16.rdb (j : Int)
          simp (disch := omega) only [impl_ValidCutter.l0, t2, w64, if_pos, e_impl_isLift, Option.bind_some]
          by_cases a : 0 ≤ rd l (j : Int) ∧ rd l (j : Int) ≤ 10000
          · rw [decide_eq_true a]
            simp (disch := omega) only [if_true, if_pos]
            by_cases b : rd l (j : Int) = rd l ((l.length : Int) - 1 - (j : Int))
            · simp only [if_pos b]
              by_cases g : (j : Int) > (l.length : Int) / 2
              · by_cases d : rd l (j : Int) < rd l ((j : Int) - 1)
                · simp (disch := omega) only [if_pos g, if_pos, if_pos d]; exact evo rfl
                · exact absurd ⟨a, b, fun _ => d⟩ hp'
              · exact absurd ⟨a, b, fun g' => absurd g' g⟩ hp'
            · simp only [if_neg b]; exact evo rfl
          · rw [decide_eq_false a]
            simp only [Bool.false_eq_true, if_false]; exact evo rfl
        · refine evs ?_
          simp (disch := omega) only [impl_ValidCutter.l0, if_neg]
          exact evo rfl
      · simp only [impl_ValidCutter.j0, bne_iff_ne, ne_eq, z, not_false_eq_true, if_true]
        exact evo (decide_eq_false (fun h => z h.2.1)).symm
def cutC (l m : List Int) : Int := if Valid l ∧ CutOk m then 0 else 1
theorem e_spec_l06Asked (l m : List Int) (h16 : I16 l) (hl : l.length ≤ 1048576) (m16 : I16 m) (hm : m.length ≤ 1048576) : Ev (fun k => spec_l06Asked.f k l m) (cutC l m) := by
  unfold spec_l06Asked.f cutC
  refine Ev.bind (e_spec_l01Ok l h16 hl) ?_
  by_cases v : Valid l
  · simp only [v, decide_true, if_true, true_and]
    refine Ev.bind (e_spec_l06Ok m m16 hm) ?_
    by_cases c : CutOk m
    · simp only [c, decide_true, if_true]; exact evo rfl
    · simp only [c, decide_false, Bool.false_eq_true, if_false]; exact evo rfl
  · simp only [v, decide_false, Bool.false_eq_true, if_false, false_and]; exact evo rfl
theorem e_impl_cutterCode (l m : List Int) (h16 : I16 l) (hl : l.length ≤ 1048576) (m16 : I16 m) (hm : m.length ≤ 1048576) : Ev (fun k => impl_cutterCode.f k l m) (cutC l m) := by
  unfold impl_cutterCode.f cutC
  refine Ev.bind (e_impl_ValidCam l h16 hl) ?_
  by_cases v : Valid l
  · simp only [v, decide_true, if_true, true_and]
    refine Ev.bind (e_impl_ValidCutter m m16 hm) ?_
    by_cases c : CutOk m
    · simp only [c, decide_true, Bool.not_true, e_impl_codeIf, Bool.false_eq_true, if_false, Option.bind_some, if_true]; exact evo rfl
    · simp only [c, decide_false, Bool.not_false, e_impl_codeIf, if_true, Option.bind_some, if_false]; exact evo rfl
  · simp only [v, decide_false, Bool.false_eq_true, if_false, false_and, e_impl_codeIf, if_true, Option.bind_some]; exact evo rfl
theorem CutOk.rdb {m : List Int} (h : CutOk m) (i : Int) : 0 ≤ rd m i ∧ rd m i ≤ 10000 := by
  by_cases c : i.toNat < m.length
  · have e : rd m i = rd m ((i.toNat : Nat) : Int) := by unfold rd; rw [Int.toNat_natCast]
    rw [e]; exact (h.2.2 _ c).1
  · have : rd m i = 0 := by simp [rd, List.getD_eq_getElem?_getD, List.getElem?_eq_none (Nat.not_lt.mp c)]
    omega

/-! spec_at -/

/-! impl_mod -/
theorem e_impl_floorDiv (a n : Int) (h : 0 < n) (ha : -9223372036854775807 ≤ a) (hb : a ≤ 9223372036854775807) : impl_floorDiv.f a n = some (a / n) := by
  unfold impl_floorDiv.f
  have := tdiv_b a h 9223372036854775807 ha hb
  rw [if_neg (by omega), ← floor_tdiv a h]
  by_cases c : Int.tmod a n < 0
  · simp (disch := omega) only [if_pos c, w64]
  · simp (disch := omega) only [if_neg c, w64]
theorem e_impl_mod (a n : Int) (h : 0 < n) (hn : n ≤ 1048576) (ha : -1000000000000 ≤ a) (hb : a ≤ 1000000000000) : impl_mod.f a n = some (a % n) := by
  unfold impl_mod.f
  rw [e_impl_floorDiv a n h (by omega) (by omega)]
  have e := Int.emod_add_mul_ediv a n
  have b := emod_b a h
  simp (disch := omega) only [Option.bind_some, w64, mod_ediv]

/-! impl_at -/

/-! mx -/
theorem e_spec_l00Max' (a b : Int) : (if a > b then some a else some b) = some (mx a b) := by
  unfold mx
  by_cases h : a > b
  · rw [if_pos h, if_neg (by omega)]
  · rw [if_neg h]; by_cases h2 : a < b
    · rw [if_pos h2]
    · rw [if_neg h2, show a = b by omega]

/-! tips -/
/-- The least tip over a step, by the first places of a cutter. -/
def tipv (l m : List Int) (s : Int) : Nat → Int
  | 0 => 0
  | i + 1 => mx (tipv l m s i) (atz l (s + (i : Int) - (m.length : Int) / 2) - rd m (i : Int))
theorem tipv_s (l m : List Int) (s : Int) (i : Nat) : tipv l m s (i + 1) = mx (tipv l m s i) (atz l (s + (i : Int) - (m.length : Int) / 2) - rd m (i : Int)) := rfl
theorem tipv_b {l m : List Int} (hv : Valid l) (hc : CutOk m) (s : Int) (i : Nat) : 0 ≤ tipv l m s i ∧ tipv l m s i ≤ 10000 := by
  induction i with
  | zero => simp [tipv]
  | succ i ih =>
    have a := Valid.atzb hv (s + (i : Int) - (m.length : Int) / 2)
    have b := CutOk.rdb hc (i : Int)
    rw [tipv_s]; unfold mx; split <;> omega
def tipL (l m : List Int) : List Int := (List.range l.length).map fun s : Nat => tipv l m (s : Int) m.length
theorem tipL_len (l m : List Int) : (tipL l m).length = l.length := by simp [tipL]

/-! left -/
theorem rd_set (l : List Int) (a : Nat) (v : Int) (ha : a < l.length) (i : Nat) : rd (l.set a v) (i : Int) = if i = a then v else rd l (i : Int) := by
  unfold rd
  rw [Int.toNat_natCast, List.getD_eq_getElem?_getD, List.getD_eq_getElem?_getD, List.getElem?_set]
  by_cases c : i = a
  · rw [if_pos c, if_pos c.symm, if_pos (by omega)]; rfl
  · rw [if_neg c, if_neg (fun h => c h.symm)]
/-- Where a place of a cutter lies. -/
def cix (m : List Int) (n s : Int) (j : Nat) : Int := (s + ((j : Int) - (m.length : Int) / 2)) % n
/-- A list, cut at a step by the first places of a cutter, and what is taken. -/
def cutL (m : List Int) (n s t : Int) (out : List Int) : Nat → List Int × Int
  | 0 => (out, 0)
  | j + 1 => if rd (cutL m n s t out j).1 (cix m n s j) > t + rd m (j : Int) then ((cutL m n s t out j).1.set (cix m n s j).toNat (t + rd m (j : Int)), wrap64 ((cutL m n s t out j).2 + wrap64 (rd (cutL m n s t out j).1 (cix m n s j) - (t + rd m (j : Int))))) else cutL m n s t out j
theorem cutL_s (m : List Int) (n s t : Int) (out : List Int) (j : Nat) : cutL m n s t out (j + 1) = if rd (cutL m n s t out j).1 (cix m n s j) > t + rd m (j : Int) then ((cutL m n s t out j).1.set (cix m n s j).toNat (t + rd m (j : Int)), wrap64 ((cutL m n s t out j).2 + wrap64 (rd (cutL m n s t out j).1 (cix m n s j) - (t + rd m (j : Int))))) else cutL m n s t out j := rfl
theorem cutL_len (m : List Int) (n s t : Int) (out : List Int) (j : Nat) : (cutL m n s t out j).1.length = out.length := by
  induction j with
  | zero => rfl
  | succ j ih => rw [cutL_s]; split
                 · rw [List.length_set]; exact ih
                 · exact ih
def leftL (m T : List Int) (n : Int) (out : List Int) : Nat → List Int
  | 0 => out
  | s + 1 => (cutL m n (s : Int) (rd T (s : Int)) (leftL m T n out s) m.length).1
theorem leftL_s (m T : List Int) (n : Int) (out : List Int) (s : Nat) : leftL m T n out (s + 1) = (cutL m n (s : Int) (rd T (s : Int)) (leftL m T n out s) m.length).1 := rfl
theorem leftL_len (m T : List Int) (n : Int) (out : List Int) (s : Nat) : (leftL m T n out s).length = out.length := by
  induction s with
  | zero => rfl
  | succ s ih => rw [leftL_s, cutL_len]; exact ih
/-- All lifts of a list. -/
def InL (l : List Int) : Prop := ∀ i : Nat, 0 ≤ rd l (i : Int) ∧ rd l (i : Int) ≤ 10000
theorem cix_b (m : List Int) {n : Int} (h : 0 < n) (s : Int) (j : Nat) : 0 ≤ cix m n s j ∧ cix m n s j < n := emod_b _ h
theorem cutL_in (m : List Int) (hc : CutOk m) (out : List Int) (h0 : 0 < out.length) (hi : InL out) (s t : Int) (ht : 0 ≤ t) (j : Nat) : InL (cutL m (out.length : Int) s t out j).1 := by
  induction j with
  | zero => exact hi
  | succ j ih =>
    rw [cutL_s]
    split
    · next c =>
      have b := cix_b m (show (0 : Int) < out.length by omega) s j
      have k := CutOk.rdb hc (j : Int)
      have q := ih (cix m (out.length : Int) s j).toNat
      rw [Int.toNat_of_nonneg b.1] at q
      intro i
      dsimp only
      rw [rd_set _ _ _ (by rw [cutL_len]; omega)]
      split
      · omega
      · exact ih i
    · exact ih
theorem leftL_in (m T : List Int) (hc : CutOk m) (hT : ∀ i : Nat, 0 ≤ rd T (i : Int)) (out : List Int) (h0 : 0 < out.length) (hi : InL out) (s : Nat) : InL (leftL m T (out.length : Int) out s) := by
  induction s with
  | zero => exact hi
  | succ s ih =>
    have := cutL_in m hc (leftL m T (out.length : Int) out s) (by rw [leftL_len]; exact h0) ih (s : Int) (rd T (s : Int)) (hT s) m.length
    rw [leftL_len] at this
    rw [leftL_s]; exact this
def MinOf (P : Int → Prop) (v : Int) : Prop := (v = 10000 ∨ P v) ∧ v ≤ 10000 ∧ ∀ u, P u → v ≤ u
theorem MinOf.uniq {P : Int → Prop} {v w : Int} (h : MinOf P v) (g : MinOf P w) : v = w := by
  obtain ⟨a, b, c⟩ := h
  obtain ⟨d, e, f⟩ := g
  have x : v ≤ w := by rcases d with d | d
                       · omega
                       · exact c w d
  have y : w ≤ v := by rcases a with a | a
                       · omega
                       · exact f v a
  omega
theorem MinOf.congr {P Q : Int → Prop} {v : Int} (h : MinOf P v) (e : ∀ u, P u ↔ Q u) : MinOf Q v :=
  ⟨h.1.imp id (e v).mp, h.2.1, fun u hu => h.2.2 u ((e u).mpr hu)⟩
/-- What the cuts made so far leave of a step. -/
def PS (m T : List Int) (n : Int) (S J : Nat) (x : Int) (u : Int) : Prop := ∃ s i : Nat, (s < S ∧ i < m.length ∨ s = S ∧ i < J) ∧ cix m n (s : Int) i = x ∧ u = rd T (s : Int) + rd m (i : Int)
theorem cut_inv (m T : List Int) (out : List Int) (h0 : 0 < out.length) (S : Nat) (h : ∀ x : Nat, x < out.length → MinOf (PS m T out.length S 0 (x : Int)) (rd out (x : Int))) (j : Nat) (hj : j ≤ m.length) : ∀ x : Nat, x < out.length → MinOf (PS m T out.length S j (x : Int)) (rd (cutL m out.length (S : Int) (rd T (S : Int)) out j).1 (x : Int)) := by
  induction j with
  | zero => exact h
  | succ j ih =>
    have I := ih (by omega)
    have b := cix_b m (show (0 : Int) < out.length by omega) (S : Int) j
    intro x hx
    have new : ∀ u, PS m T out.length S (j + 1) (x : Int) u ↔ (PS m T out.length S j (x : Int) u ∨ (cix m out.length (S : Int) j = (x : Int) ∧ u = rd T (S : Int) + rd m (j : Int))) := by
      intro u
      constructor
      · rintro ⟨s, i, hs, hx2, hu⟩
        rcases hs with hs | hs
        · exact .inl ⟨s, i, .inl hs, hx2, hu⟩
        · by_cases c : i = j
          · obtain ⟨rfl, _⟩ := hs; subst c; exact .inr ⟨hx2, hu⟩
          · exact .inl ⟨s, i, .inr ⟨hs.1, by omega⟩, hx2, hu⟩
      · rintro (⟨s, i, hs, hx2, hu⟩ | ⟨hx2, hu⟩)
        · exact ⟨s, i, hs.imp id (fun z => ⟨z.1, by omega⟩), hx2, hu⟩
        · exact ⟨S, j, .inr ⟨rfl, by omega⟩, hx2, hu⟩
    have X := I (cix m out.length (S : Int) j).toNat (by omega)
    rw [Int.toNat_of_nonneg b.1] at X
    have Ix := I x hx
    rw [cutL_s]
    by_cases e : cix m out.length (S : Int) j = (x : Int)
    · rw [e] at X ⊢
      by_cases c : rd (cutL m out.length (S : Int) (rd T (S : Int)) out j).1 (x : Int) > rd T (S : Int) + rd m (j : Int)
      · rw [if_pos c]
        dsimp only
        rw [Int.toNat_natCast, rd_set _ _ _ (by rw [cutL_len]; exact hx), if_pos rfl]
        refine ⟨.inr ((new _).mpr (.inr ⟨e, rfl⟩)), by have := X.2.1; omega, fun u hu => ?_⟩
        rcases (new u).mp hu with g | g
        · have := X.2.2 u g; omega
        · omega
      · rw [if_neg c]
        refine ⟨X.1.imp id (fun z => (new _).mpr (.inl z)), X.2.1, fun u hu => ?_⟩
        rcases (new u).mp hu with g | g
        · exact X.2.2 u g
        · omega
    · have keep : rd (if rd (cutL m out.length (S : Int) (rd T (S : Int)) out j).1 (cix m out.length (S : Int) j) > rd T (S : Int) + rd m (j : Int) then ((cutL m out.length (S : Int) (rd T (S : Int)) out j).1.set (cix m out.length (S : Int) j).toNat (rd T (S : Int) + rd m (j : Int)), wrap64 ((cutL m out.length (S : Int) (rd T (S : Int)) out j).2 + wrap64 (rd (cutL m out.length (S : Int) (rd T (S : Int)) out j).1 (cix m out.length (S : Int) j) - (rd T (S : Int) + rd m (j : Int))))) else cutL m out.length (S : Int) (rd T (S : Int)) out j).1 (x : Int) = rd (cutL m out.length (S : Int) (rd T (S : Int)) out j).1 (x : Int) := by
        split
        · dsimp only
          rw [rd_set _ _ _ (by rw [cutL_len]; omega), if_neg (by omega)]
        · rfl
      rw [keep]
      exact Ix.congr fun u => ⟨fun z => (new u).mpr (.inl z), fun z => ((new u).mp z).elim id (fun g => absurd g.1 e)⟩
theorem left_inv (m T : List Int) (out : List Int) (h0 : 0 < out.length) (h : ∀ x : Nat, x < out.length → rd out (x : Int) = 10000) (S : Nat) : ∀ x : Nat, x < out.length → MinOf (PS m T out.length S 0 (x : Int)) (rd (leftL m T out.length out S) (x : Int)) := by
  induction S with
  | zero =>
    intro x hx
    refine ⟨.inl (h x hx), by have := h x hx; show rd out (x : Int) ≤ 10000; omega, ?_⟩
    rintro u ⟨s, i, hs, _⟩
    omega
  | succ S ih =>
    have := cut_inv m T (leftL m T out.length out S) (by rw [leftL_len]; exact h0) S (by rw [leftL_len]; exact ih) m.length (Nat.le_refl _)
    rw [leftL_len] at this
    intro x hx
    rw [leftL_s]
    refine (this x hx).congr fun u => ?_
    constructor
    · rintro ⟨s, i, hs, e⟩; exact ⟨s, i, .inl (by omega), e⟩
    · rintro ⟨s, i, hs, e⟩
      refine ⟨s, i, ?_, e⟩
      rcases hs with hs | hs
      · by_cases c : s = S
        · exact .inr ⟨c, hs.2⟩
        · exact .inl ⟨by omega, hs.2⟩
      · omega
/-- What the program tells of a step. -/
def lst (m T : List Int) (n s : Int) : Nat → Int
  | 0 => rd T s
  | i + 1 => mn (lst m T n s i) (rd T (cix m n s i) + rd m (i : Int))
theorem lst_s (m T : List Int) (n s : Int) (i : Nat) : lst m T n s (i + 1) = mn (lst m T n s i) (rd T (cix m n s i) + rd m (i : Int)) := rfl
theorem lst_le (m T : List Int) (n s : Int) (i : Nat) : lst m T n s i ≤ rd T s ∧ ∀ j : Nat, j < i → lst m T n s i ≤ rd T (cix m n s j) + rd m (j : Int) := by
  induction i with
  | zero => exact ⟨Int.le_refl _, fun j hj => by omega⟩
  | succ i ih =>
    rw [lst_s]
    have e : mn (lst m T n s i) (rd T (cix m n s i) + rd m (i : Int)) ≤ lst m T n s i ∧ mn (lst m T n s i) (rd T (cix m n s i) + rd m (i : Int)) ≤ rd T (cix m n s i) + rd m (i : Int) := by unfold mn; split <;> omega
    refine ⟨by omega, fun j hj => ?_⟩
    by_cases c : j = i
    · rw [c]; exact e.2
    · have := ih.2 j (by omega); omega
theorem lst_of (m T : List Int) (n s : Int) (i : Nat) : lst m T n s i = rd T s ∨ ∃ j : Nat, j < i ∧ lst m T n s i = rd T (cix m n s j) + rd m (j : Int) := by
  induction i with
  | zero => exact .inl rfl
  | succ i ih =>
    rw [lst_s]
    have e : mn (lst m T n s i) (rd T (cix m n s i) + rd m (i : Int)) = lst m T n s i ∨ mn (lst m T n s i) (rd T (cix m n s i) + rd m (i : Int)) = rd T (cix m n s i) + rd m (i : Int) := by unfold mn; split <;> simp
    rcases e with e | e
    · rw [e]
      rcases ih with h | ⟨j, hj, h⟩
      · exact .inl h
      · exact .inr ⟨j, by omega, h⟩
    · exact .inr ⟨i, by omega, e⟩
theorem lst_b (m T : List Int) (hc : CutOk m) (hT : ∀ i, 0 ≤ rd T i ∧ rd T i ≤ 10000) (n s : Int) (i : Nat) : 0 ≤ lst m T n s i ∧ lst m T n s i ≤ 10000 := by
  have a := (lst_le m T n s i).1
  have b := hT s
  refine ⟨?_, by omega⟩
  rcases lst_of m T n s i with h | ⟨j, _, h⟩
  · omega
  · have := hT (cix m n s j); have := CutOk.rdb hc (j : Int); omega
theorem cix_back (m : List Int) (ho : (m.length : Int) % 2 ≠ 0) (n : Int) (hn : 0 < n) (s : Int) (h0 : 0 ≤ s) (h1 : s < n) (j : Nat) (hj : j < m.length) : cix m n (cix m n s j) (m.length - 1 - j) = s := by
  unfold cix
  rw [Int.emod_add_emod, show s + ((j : Int) - (m.length : Int) / 2) + (((m.length - 1 - j : Nat) : Int) - (m.length : Int) / 2) = s by omega]
  exact Int.emod_eq_of_lt h0 h1
theorem cix_mid (m : List Int) (n : Int) (s : Int) (h0 : 0 ≤ s) (h1 : s < n) : cix m n s (m.length / 2) = s := by
  unfold cix
  rw [show s + (((m.length / 2 : Nat) : Int) - (m.length : Int) / 2) = s by omega]
  exact Int.emod_eq_of_lt h0 h1
theorem lst_min (m T : List Int) (hc : CutOk m) (hT : ∀ i, 0 ≤ rd T i ∧ rd T i ≤ 10000) (N : Nat) (s : Nat) (hs : s < N) : MinOf (PS m T (N : Int) N 0 (s : Int)) (lst m T (N : Int) (s : Int) m.length) := by
  have ho := hc.1.1
  have sym : ∀ j : Nat, j < m.length → rd m ((m.length - 1 - j : Nat) : Int) = rd m (j : Int) := fun j hj => by
    have := (hc.2.2 j hj).2.1
    rw [show ((m.length - 1 - j : Nat) : Int) = (m.length : Int) - 1 - (j : Int) by omega]; exact this.symm
  refine ⟨.inr ?_, (lst_b m T hc hT _ _ _).2, ?_⟩
  · rcases lst_of m T (N : Int) (s : Int) m.length with h | ⟨j, hj, h⟩
    · refine ⟨s, m.length / 2, .inl ⟨hs, by omega⟩, cix_mid m _ _ (by omega) (by omega), ?_⟩
      rw [h, show ((m.length / 2 : Nat) : Int) = (m.length : Int) / 2 by omega, hc.2.1, Int.add_zero]
    · have b := cix_b m (show (0 : Int) < (N : Int) by omega) (s : Int) j
      refine ⟨(cix m (N : Int) (s : Int) j).toNat, m.length - 1 - j, .inl ⟨by omega, by omega⟩, ?_, ?_⟩
      · rw [Int.toNat_of_nonneg b.1]; exact cix_back m ho _ (by omega) _ (by omega) (by omega) j hj
      · rw [h, Int.toNat_of_nonneg b.1, sym j hj]
  · rintro u ⟨s', i, hsi, hx, hu⟩
    have hs' : s' < N ∧ i < m.length := by omega
    have := (lst_le m T (N : Int) (s : Int) m.length).2 (m.length - 1 - i) (by omega)
    rw [← hx, cix_back m ho _ (by omega) _ (by omega) (by omega) i hs'.2, sym i hs'.2] at this
    rw [hu, ← hx]; exact this
def lefts (m T : List Int) (N : Nat) : List Int := (List.range N).map fun s : Nat => lst m T (N : Int) (s : Int) m.length
theorem lefts_len (m T : List Int) (N : Nat) : (lefts m T N).length = N := by simp [lefts]
theorem left_same (m T : List Int) (hc : CutOk m) (hT : ∀ i, 0 ≤ rd T i ∧ rd T i ≤ 10000) (N : Nat) (h0 : 0 < N) : leftL m T (N : Int) (List.replicate N 10000) N = lefts m T N := by
  have L : (List.replicate N (10000 : Int)).length = N := List.length_replicate
  have inv := left_inv m T (List.replicate N 10000) (by rw [L]; exact h0) (fun x hx => by
    rw [L] at hx
    unfold rd; rw [Int.toNat_natCast, List.getD_eq_getElem?_getD, List.getElem?_replicate, if_pos hx]; rfl) N
  rw [L] at inv
  apply List.ext_getElem
  · rw [leftL_len, L, lefts_len]
  · intro i h1 h2
    have hi : i < N := by rw [lefts_len] at h2; exact h2
    have e := (inv i hi).uniq (lst_min m T hc hT N i hi)
    have e1 : rd (leftL m T (N : Int) (List.replicate N 10000) N) (i : Int) = (leftL m T (N : Int) (List.replicate N 10000) N)[i] := by
      unfold rd; rw [Int.toNat_natCast, List.getD_eq_getElem?_getD, List.getElem?_eq_getElem h1]; rfl
    rw [← e1, e]
    simp [lefts]
theorem tipL_b {l m : List Int} (hv : Valid l) (hc : CutOk m) (i : Int) : 0 ≤ rd (tipL l m) i ∧ rd (tipL l m) i ≤ 10000 := by
  by_cases c : i.toNat < l.length
  · have e : rd (tipL l m) i = rd (tipL l m) ((i.toNat : Nat) : Int) := by unfold rd; rw [Int.toNat_natCast]
    rw [e]; unfold tipL; rw [rd_map _ _ _ (by omega) (by omega)]
    exact tipv_b hv hc _ _
  · have : rd (tipL l m) i = 0 := by
      unfold rd; rw [List.getD_eq_getElem?_getD, List.getElem?_eq_none (by rw [tipL_len]; omega)]; rfl
    omega
theorem e_spec_l06Cut (m : List Int) (hc : CutOk m) (out : List Int) (h0 : 0 < out.length) (hl : out.length ≤ 360) (hi : InL out) (s t : Int) (hs : 0 ≤ s ∧ s ≤ 1000) (ht : 0 ≤ t ∧ t ≤ 10000) : Ev (fun k => spec_l06Cut.f k out m s t) (cutL m (out.length : Int) s t out m.length) := by
  have o := hc.1
  unfold spec_l06Cut.f
  simp only [Option.bind_some, List.nil_append, List.length_nil]
  simp (disch := omega) only [if_pos, w64]
  have := ev_loop (fun k j => spec_l06Cut.l0 k m s t (cutL m (out.length : Int) s t out j).1 (out.length : Int) ((m.length : Int) / 2) (cutL m (out.length : Int) s t out j).2 ((j : Int) - (m.length : Int) / 2)) m.length (cutL m (out.length : Int) s t out m.length) ?_ ?_
  · rw [show ((0 : Nat) : Int) - (m.length : Int) / 2 = -((m.length : Int) / 2) by omega] at this
    exact this
  · intro j hj ih
    refine evs ?_
    have e2 : (m.length : Int) / 2 + ((j : Int) - (m.length : Int) / 2) = (j : Int) := by omega
    have e3 : (j : Int) - (m.length : Int) / 2 + 1 = ((j + 1 : Nat) : Int) - (m.length : Int) / 2 := by omega
    have b := cix_b m (show (0 : Int) < (out.length : Int) by omega) s j
    have tb := tmod_b (s + ((j : Int) - (m.length : Int) / 2)) (show (0 : Int) < (out.length : Int) by omega)
    have em : Int.tmod (Int.tmod (s + ((j : Int) - (m.length : Int) / 2)) (out.length : Int) + (out.length : Int)) (out.length : Int) = cix m (out.length : Int) s j := two_mods _ (by omega)
    have il := cutL_in m hc out h0 hi s t ht.1 j (cix m (out.length : Int) s j).toNat
    rw [Int.toNat_of_nonneg b.1] at il
    have kb := CutOk.rdb hc (j : Int)
    have el : ((cutL m (out.length : Int) s t out j).1.length : Int) = out.length := by rw [cutL_len]
    rw [cutL_s] at ih
    by_cases c : rd (cutL m (out.length : Int) s t out j).1 (cix m (out.length : Int) s j) > t + rd m (j : Int)
    · simp only [if_pos c] at ih
      simp (disch := omega) only [spec_l06Cut.l0, if_pos, if_neg, w64, w16, em, e2, e3, el]
      rw [w64 (x := rd (cutL m (out.length : Int) s t out j).1 (cix m (out.length : Int) s j) - (t + rd m (j : Int))) (by omega) (by omega)] at ih
      exact ih
    · simp only [if_neg c] at ih
      simp (disch := omega) only [spec_l06Cut.l0, if_pos, if_neg, w64, em, e2, e3, el]
      exact ih
  · refine evs ?_
    simp (disch := omega) only [spec_l06Cut.l0, if_neg]
    exact evo rfl

/-! clone -/
theorem e_clone (l : List Int) (hl : l.length ≤ 1048576) : impl_Cam_int16_81.f l = some l := by
  unfold impl_Cam_int16_81.f
  simp only [Option.bind_some, List.nil_append]
  rw [if_pos (by simp; omega)]

/-! laws_cam -/
theorem e_laws_toCam (l : List Int) (hl : l.length ≤ 1048576) : Ev (fun k => laws_toCam.f k l) l := by
  unfold laws_toCam.f
  simp (disch := omega) only [if_pos]
  have := ev_loop (fun k j => laws_toCam.l0 k l (l.take j ++ List.replicate (l.length - j) 0) (j : Int)) l.length l ?_ ?_
  · simpa using this
  · intro j hj ih
    refine evs ?_
    have e : ((l.take j ++ List.replicate (l.length - j) 0).length : Int) = l.length := by simp; omega
    simp (disch := omega) only [laws_toCam.l0, if_pos, e, w64]
    have e2 : (l.take j ++ List.replicate (l.length - j) 0).set ((j : Int)).toNat (rd l (j : Int)) = l.take (j + 1) ++ List.replicate (l.length - (j + 1)) 0 := by
      have e3 : l.length - j = (l.length - (j + 1)) + 1 := by omega
      rw [e3, List.replicate_succ, Int.toNat_natCast, set_app _ _ _ _ _ (by simp; omega), rd_nat, List.take_succ_eq_append_getElem hj]
      have e4 : l.getD j 0 = l[j] := by simp [List.getD_eq_getElem?_getD, hj]
      rw [e4, List.append_assoc, List.singleton_append]
    rw [e2]
    exact ih
  · refine evs ?_
    simp (disch := omega) only [laws_toCam.l0, if_neg]
    exact evo (by simp)
theorem e_laws_eqCam (l : List Int) (hl : l.length ≤ 1048576) : Ev (fun k => laws_eqCam.f k l l) true := by
  unfold laws_eqCam.f
  simp only [if_true]
  have := ev_loop (fun k j => laws_eqCam.l0 k l l (j : Int)) l.length true ?_ ?_
  · exact this
  · intro j hj ih
    refine evs ?_
    simp (disch := omega) only [laws_eqCam.l0, if_pos, if_true, w64]
    exact ih
  · refine evs ?_
    simp (disch := omega) only [laws_eqCam.l0, if_neg]
    exact evo rfl

/-! marked -/
def marked (m : Int) (n : Nat) : List Int := (List.range n).map fun j : Nat => IntKind.i16.wrap (m + j)
theorem marked_len (m : Int) (n : Nat) : (marked m n).length = n := by simp [marked]

/-! laws_markonly -/
theorem e_laws_markCam (l : List Int) (hl : l.length ≤ 1048576) (m : Int) (h0 : 0 ≤ m) (h1 : m ≤ 1000000000) : Ev (fun k => laws_markCam.f k l m) (m + l.length, marked m l.length) := by
  unfold laws_markCam.f
  have := ev_loop (fun k j => laws_markCam.l0 k (marked m j ++ l.drop j) (m + j) (j : Int)) l.length (m + l.length, marked m l.length) ?_ ?_
  · simpa [marked] using this
  · intro j hj ih
    refine evs ?_
    have e : ((marked m j ++ l.drop j).length : Int) = l.length := by simp [marked_len]; omega
    have e2 : (marked m j ++ l.drop j).set ((j : Int)).toNat (IntKind.i16.wrap (m + j)) = marked m (j + 1) ++ l.drop (j + 1) := by
      rw [Int.toNat_natCast, List.drop_eq_getElem_cons hj, set_app _ _ _ _ _ (marked_len _ _)]
      unfold marked; rw [map_snoc]; simp
    simp (disch := omega) only [laws_markCam.l0, if_pos, e, w64]
    rw [e2, show m + (j : Int) + 1 = m + ((j + 1 : Nat) : Int) by omega]
    exact ih
  · refine evs ?_
    have e : ((marked m l.length ++ l.drop l.length).length : Int) = l.length := by simp [marked_len]
    simp (disch := omega) only [laws_markCam.l0, if_neg, e]
    exact evo (by simp)

/-! laws_held -/
theorem e_laws_heldCam (n : Nat) (hl : n ≤ 1048576) (m : Int) (h0 : 0 ≤ m) (h1 : m ≤ 1000000000) : Ev (fun k => laws_heldCam.f k (marked m n) m) (m + n) := by
  unfold laws_heldCam.f
  have e : ((marked m n).length : Int) = n := by rw [marked_len]
  have := ev_loop (fun k j => laws_heldCam.l0 k (marked m n) (m + j) (j : Int)) n (m + n) ?_ ?_
  · simpa using this
  · intro j hj ih
    refine evs ?_
    have e2 : rd (marked m n) (j : Int) = IntKind.i16.wrap (m + j) := by unfold marked; rw [rd_map _ _ _ (by omega) (by omega)]; simp
    simp (disch := omega) only [laws_heldCam.l0, if_pos, e, e2, if_true, w64]
    rw [show m + (j : Int) + 1 = m + ((j + 1 : Nat) : Int) by omega]
    exact ih
  · refine evs ?_
    simp (disch := omega) only [laws_heldCam.l0, if_neg, e]
    exact evo rfl

/-! laws_mark -/

/-! laws_cutter -/
theorem e_laws_toCutter (l : List Int) (hl : l.length ≤ 1048576) : Ev (fun k => laws_toCutter.f k l) l := by
  unfold laws_toCutter.f
  simp (disch := omega) only [if_pos]
  have := ev_loop (fun k j => laws_toCutter.l0 k l (l.take j ++ List.replicate (l.length - j) 0) (j : Int)) l.length l ?_ ?_
  · simpa using this
  · intro j hj ih
    refine evs ?_
    have e : ((l.take j ++ List.replicate (l.length - j) 0).length : Int) = l.length := by simp; omega
    simp (disch := omega) only [laws_toCutter.l0, if_pos, e, w64]
    have e2 : (l.take j ++ List.replicate (l.length - j) 0).set ((j : Int)).toNat (rd l (j : Int)) = l.take (j + 1) ++ List.replicate (l.length - (j + 1)) 0 := by
      have e3 : l.length - j = (l.length - (j + 1)) + 1 := by omega
      rw [e3, List.replicate_succ, Int.toNat_natCast, set_app _ _ _ _ _ (by simp; omega), rd_nat, List.take_succ_eq_append_getElem hj]
      have e4 : l.getD j 0 = l[j] := by simp [List.getD_eq_getElem?_getD, hj]
      rw [e4, List.append_assoc, List.singleton_append]
    rw [e2]
    exact ih
  · refine evs ?_
    simp (disch := omega) only [laws_toCutter.l0, if_neg]
    exact evo (by simp)
theorem e_laws_eqCutter (l : List Int) (hl : l.length ≤ 1048576) : Ev (fun k => laws_eqCutter.f k l l) true := by
  unfold laws_eqCutter.f
  simp only [if_true]
  have := ev_loop (fun k j => laws_eqCutter.l0 k l l (j : Int)) l.length true ?_ ?_
  · exact this
  · intro j hj ih
    refine evs ?_
    simp (disch := omega) only [laws_eqCutter.l0, if_pos, if_true, w64]
    exact ih
  · refine evs ?_
    simp (disch := omega) only [laws_eqCutter.l0, if_neg]
    exact evo rfl
theorem e_laws_markCutter (l : List Int) (hl : l.length ≤ 1048576) (m : Int) (h0 : 0 ≤ m) (h1 : m ≤ 1000000000) : Ev (fun k => laws_markCutter.f k l m) (m + l.length, marked m l.length) := by
  unfold laws_markCutter.f
  have := ev_loop (fun k j => laws_markCutter.l0 k (marked m j ++ l.drop j) (m + j) (j : Int)) l.length (m + l.length, marked m l.length) ?_ ?_
  · simpa [marked] using this
  · intro j hj ih
    refine evs ?_
    have e : ((marked m j ++ l.drop j).length : Int) = l.length := by simp [marked_len]; omega
    have e2 : (marked m j ++ l.drop j).set ((j : Int)).toNat (IntKind.i16.wrap (m + j)) = marked m (j + 1) ++ l.drop (j + 1) := by
      rw [Int.toNat_natCast, List.drop_eq_getElem_cons hj, set_app _ _ _ _ _ (marked_len _ _)]
      unfold marked; rw [map_snoc]; simp
    simp (disch := omega) only [laws_markCutter.l0, if_pos, e, w64]
    rw [e2, show m + (j : Int) + 1 = m + ((j + 1 : Nat) : Int) by omega]
    exact ih
  · refine evs ?_
    have e : ((marked m l.length ++ l.drop l.length).length : Int) = l.length := by simp [marked_len]
    simp (disch := omega) only [laws_markCutter.l0, if_neg, e]
    exact evo (by simp)

theorem e_impl_cut (m : List Int) (hc : CutOk m) (out : List Int) (h0 : 0 < out.length) (hl : out.length ≤ 360) (hi : InL out) (s t : Int) (hs : 0 ≤ s ∧ s ≤ 1000) (ht : 0 ≤ t ∧ t ≤ 10000) : Ev (fun k => impl_Cam_cut.f k out m s t) ((cutL m (out.length : Int) s t out m.length).2, (cutL m (out.length : Int) s t out m.length).1) := by
  have o := hc.1
  unfold impl_Cam_cut.f impl_Cutter_each_at_impl_Cam_cut_c1.f
  simp (disch := omega) only [w64]
  have := ev_loop (fun k j => impl_Cutter_each_at_impl_Cam_cut_c1.l0 k s ((m.length : Int) / 2) m (m.length : Int) (j : Int) (cutL m (out.length : Int) s t out j).1 t (cutL m (out.length : Int) s t out j).2) m.length ((cutL m (out.length : Int) s t out m.length).2, (cutL m (out.length : Int) s t out m.length).1) ?_ ?_
  · exact this
  · intro j hj ih
    refine evs ?_
    have b := cix_b m (show (0 : Int) < (out.length : Int) by omega) s j
    have em : (s + (j : Int) - (m.length : Int) / 2) % (out.length : Int) = cix m (out.length : Int) s j := by unfold cix; rw [show s + (j : Int) - (m.length : Int) / 2 = s + ((j : Int) - (m.length : Int) / 2) by omega]
    have M := e_impl_mod (s + (j : Int) - (m.length : Int) / 2) (out.length : Int) (by omega) (by omega) (by omega) (by omega)
    rw [em] at M
    have il := cutL_in m hc out h0 hi s t ht.1 j (cix m (out.length : Int) s j).toNat
    rw [Int.toNat_of_nonneg b.1] at il
    have kb := CutOk.rdb hc (j : Int)
    have el : ((cutL m (out.length : Int) s t out j).1.length : Int) = out.length := by rw [cutL_len]
    rw [cutL_s] at ih
    by_cases c : rd (cutL m (out.length : Int) s t out j).1 (cix m (out.length : Int) s j) > t + rd m (j : Int)
    · simp only [if_pos c] at ih
      simp (disch := omega) only [impl_Cutter_each_at_impl_Cam_cut_c1.l0, impl_Cam_cut_c1.f, e_impl_Cam_steps, el, M, Option.bind_some, if_pos, if_neg, w64, w16]
      rw [w64 (x := rd (cutL m (out.length : Int) s t out j).1 (cix m (out.length : Int) s j) - (t + rd m (j : Int))) (by omega) (by omega)] at ih
      exact ih
    · simp only [if_neg c] at ih
      simp (disch := omega) only [impl_Cutter_each_at_impl_Cam_cut_c1.l0, impl_Cam_cut_c1.f, e_impl_Cam_steps, el, M, Option.bind_some, if_pos, if_neg, w64]
      exact ih
  · refine evs ?_
    simp (disch := omega) only [impl_Cutter_each_at_impl_Cam_cut_c1.l0, if_neg]
    exact evo rfl
theorem valid_in2 {l : List Int} (hv : Valid l) : InL l := fun i => Valid.rdb hv (i : Int)
def caV (l m : List Int) (a b : Int) : List Int × Int × Int := if (0 ≤ a ∧ a ≤ (l.length : Int) - 1) ∧ (0 ≤ b ∧ b ≤ 10000) then ((cutL m (l.length : Int) a b l m.length).1, (cutL m (l.length : Int) a b l m.length).2, 0) else ([], 0, 2)
def caR (l m : List Int) (a b : Int) : List Int × Int × Int := if Valid l ∧ CutOk m then caV l m a b else ([], 0, 1)
theorem caR_len (l m : List Int) (a b : Int) (hl : l.length ≤ 1048576) : (caR l m a b).1.length ≤ 1048576 := by
  unfold caR caV
  split
  · split
    · dsimp only; rw [cutL_len]; exact hl
    · exact Nat.zero_le _
  · exact Nat.zero_le _
theorem e_spec_CutAt (l : List Int) (h16 : I16 l) (hl : l.length ≤ 1048576) (m : List Int) (m16 : I16 m) (hm : m.length ≤ 1048576) (a b : Int) (ia : -9223372036854775808 ≤ a ∧ a ≤ 9223372036854775807) (ib : -9223372036854775808 ≤ b ∧ b ≤ 9223372036854775807) : Ev (fun k => spec_CutAt.f k l m a b) (caR l m a b) := by
  unfold spec_CutAt.f caR caV
  refine Ev.bind (e_spec_l06Asked l m h16 hl m16 hm) ?_
  unfold cutC
  by_cases c : Valid l ∧ CutOk m
  · have n8 := c.1.1
    have n9 := c.1.2.1
    simp only [if_pos c, if_true]
    rw [w64 (by omega) (by omega)]
    simp only [e_spec_l00In, e_spec_l01Lift, Option.bind_some]
    by_cases p : 0 ≤ a ∧ a ≤ (l.length : Int) - 1
    · simp only [decide_eq_true p, if_true]
      by_cases q : 0 ≤ b ∧ b ≤ 10000
      · simp only [decide_eq_true q, if_true, if_pos (show (0 ≤ a ∧ a ≤ (l.length : Int) - 1) ∧ (0 ≤ b ∧ b ≤ 10000) from ⟨p, q⟩)]
        exact Ev.bind (e_spec_l06Cut m c.2 l (by omega) n9 (valid_in2 c.1) a b (by omega) q) (evo rfl)
      · simp only [decide_eq_false q, Bool.false_eq_true, if_false, if_neg (show ¬ ((0 ≤ a ∧ a ≤ (l.length : Int) - 1) ∧ (0 ≤ b ∧ b ≤ 10000)) from fun z => q z.2)]; exact evo rfl
    · simp only [decide_eq_false p, Bool.false_eq_true, if_false, if_neg (show ¬ ((0 ≤ a ∧ a ≤ (l.length : Int) - 1) ∧ (0 ≤ b ∧ b ≤ 10000)) from fun z => p z.1)]; exact evo rfl
  · simp only [if_neg c]
    exact ev_neg (by decide) (evo rfl)
theorem e_impl_CutAt (l : List Int) (h16 : I16 l) (hl : l.length ≤ 1048576) (m : List Int) (m16 : I16 m) (hm : m.length ≤ 1048576) (a b : Int) (ia : -9223372036854775808 ≤ a ∧ a ≤ 9223372036854775807) (ib : -9223372036854775808 ≤ b ∧ b ≤ 9223372036854775807) : Ev (fun k => impl_CutAt.f k l m a b) (caR l m a b) := by
  unfold impl_CutAt.f caR caV
  refine Ev.bind (e_impl_cutterCode l m h16 hl m16 hm) ?_
  unfold cutC impl_isPlace.f
  rw [w64 (by omega) (by omega)]
  simp only [e_impl_inRange, e_impl_isLift, e_impl_codeIf, Option.bind_some]
  have last : ∀ x : Int, x ≠ 0 → Ev (fun k => impl_CutAt.j0 k l m a b x) (([] : List Int), (0 : Int), x) := fun x hx => by
    refine evs ?_
    simp only [impl_CutAt.j0, if_neg hx]; exact evo rfl
  by_cases c : Valid l ∧ CutOk m
  · have n8 := c.1.1
    have n9 := c.1.2.1
    simp only [if_pos c]
    by_cases p : 0 ≤ a ∧ a ≤ (l.length : Int) - 1
    · simp only [decide_eq_true p, if_true]
      by_cases q : 0 ≤ b ∧ b ≤ 10000
      · simp only [decide_eq_true q, Bool.not_true, Bool.false_eq_true, if_false, if_pos (show (0 ≤ a ∧ a ≤ (l.length : Int) - 1) ∧ (0 ≤ b ∧ b ≤ 10000) from ⟨p, q⟩)]
        refine Ev.bind (e_impl_firstCode _ (by simp)) ?_
        rw [show fnz [0, 0] = 0 by simp [fnz]]
        refine evs ?_
        simp only [impl_CutAt.j0, if_true, e_clone l hl, Option.bind_some]
        exact Ev.bind (e_impl_cut m c.2 l (by omega) n9 (valid_in2 c.1) a b (by omega) q) (evo rfl)
      · simp only [decide_eq_false q, Bool.not_false, if_true, if_neg (show ¬ ((0 ≤ a ∧ a ≤ (l.length : Int) - 1) ∧ (0 ≤ b ∧ b ≤ 10000)) from fun z => q z.2)]
        refine Ev.bind (e_impl_firstCode _ (by simp)) ?_
        rw [show fnz [0, 2] = 2 by simp [fnz]]
        exact last 2 (by decide)
    · simp only [decide_eq_false p, Bool.false_eq_true, if_false, if_true, if_neg (show ¬ ((0 ≤ a ∧ a ≤ (l.length : Int) - 1) ∧ (0 ≤ b ∧ b ≤ 10000)) from fun z => p z.1)]
      refine Ev.bind (e_impl_firstCode _ (by simp)) ?_
      rw [show fnz [0, 2] = 2 by simp [fnz]]
      exact last 2 (by decide)
  · simp only [if_neg c]
    have e1 : ∀ x : Int, fnz [1, x] = 1 := fun x => by simp [fnz]
    by_cases p : 0 ≤ a ∧ a ≤ (l.length : Int) - 1
    · simp only [decide_eq_true p, if_true]
      refine Ev.bind (e_impl_firstCode _ (by simp)) ?_
      rw [e1]
      exact last 1 (by decide)
    · simp only [decide_eq_false p, Bool.false_eq_true, if_false, if_true]
      refine Ev.bind (e_impl_firstCode _ (by simp)) ?_
      rw [e1]
      exact last 1 (by decide)
set_option maxHeartbeats 4000000 in
theorem FnExactCutAt : laws_FnExactCutAt.Pure := by
  intro l0 l1 a2 a3 _ _ w0 _ _ w1 v2 v3
  have h0 := I16.of_wf w0
  have h1 := I16.of_wf w1
  have i2 := wf_i64 v2
  have i3 := wf_i64 v3
  refine ev_rounds ?_
  unfold laws_FnExactCutAt.f
  by_cases b0 : (l0.length : Int) > 1048576
  · simp only [if_pos b0]; exact evo rfl
  simp only [if_neg b0]
  have b0 : l0.length ≤ 1048576 := by omega
  have T0 := e_laws_toCam l0 b0
  have Q0 := e_laws_eqCam l0 b0
  have M0 := e_laws_markCam l0 b0
  by_cases b1 : (l1.length : Int) > 1048576
  · simp only [if_pos b1]; exact evo rfl
  simp only [if_neg b1]
  have b1 : l1.length ≤ 1048576 := by omega
  have T1 := e_laws_toCutter l1 b1
  have Q1 := e_laws_eqCutter l1 b1
  have M1 := e_laws_markCutter l1 b1
  have A := e_spec_CutAt l0 h0 b0 l1 h1 b1 a2 a3 i2 i3
  have B := e_impl_CutAt l0 h0 b0 l1 h1 b1 a2 a3 i2 i3
  have hr : (caR l0 l1 a2 a3).1.length ≤ 1048576 := caR_len l0 l1 a2 a3 b0
  revert A B hr
  generalize (caR l0 l1 a2 a3) = RR
  obtain ⟨r, c1, c2⟩ := RR
  intro A B hr
  have QR := e_laws_eqCam r hr
  have MR := e_laws_markCam r hr
  have HR := e_laws_heldCam r.length hr
  repeat (first | exact evo rfl | (with_reducible refine Ev.bind T0 ?_) | (with_reducible refine Ev.bind Q0 ?_) | ((with_reducible refine Ev.bind (M0 _ ?s1 ?s2) ?_); (case s1 => first | omega | (dsimp only; omega)); (case s2 => first | omega | (dsimp only; omega))) | (with_reducible refine Ev.bind T1 ?_) | (with_reducible refine Ev.bind Q1 ?_) | ((with_reducible refine Ev.bind (M1 _ ?s1 ?s2) ?_); (case s1 => first | omega | (dsimp only; omega)); (case s2 => first | omega | (dsimp only; omega))) | (with_reducible refine Ev.bind A ?_) | (with_reducible refine Ev.bind B ?_) | (with_reducible refine Ev.bind QR ?_) | ((with_reducible refine Ev.bind (MR 1 ?s1 ?s2) ?_); (case s1 => first | omega | (dsimp only; omega)); (case s2 => first | omega | (dsimp only; omega))) | ((with_reducible refine Ev.bind (HR 1 ?s1 ?s2) ?_); (case s1 => first | omega | (dsimp only; omega)); (case s2 => first | omega | (dsimp only; omega))) | ((with_reducible refine ev_pos ?s1 ?_); (case s1 => first | rfl | trivial | omega | (dsimp only; omega))) | ((with_reducible refine ev_neg ?s1 ?_); (case s1 => first | omega | (dsimp only; omega) | (simp; done))) | (refine evs ?_; simp only [laws_FnExactCutAt.j0, laws_FnExactCutAt.j1, laws_FnExactCutAt.j2]))


end Go.Proofs.Ytnjcmalmnofbmaa.Pure
