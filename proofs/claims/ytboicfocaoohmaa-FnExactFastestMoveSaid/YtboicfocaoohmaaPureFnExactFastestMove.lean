/- The pure statement of the law FnExactFastestMove: the program's function and the reference's tell the same of every input, by plain lemmas on numbers, lists and rounds; no further condition. -/
import Derived.Test.YtboicfocaoohmaaXFnExactFastestMovex
import Derived.Test.YtboicfocaoohmaaXLib
namespace Go.Proofs.Ytboicfocaoohmaa.Pure
open Go.RowKit Go.Proofs.Ytboicfocaoohmaa.XFnExactFastestMove Go.Proofs.Ytboicfocaoohmaa.XLib Go.Proofs.YtboicfocaoohmaaW.PrintWords Go.Proofs.YtboicfocaoohmaaW.PrintLast Go.Proofs.YtboicfocaoohmaaW.PrintMore
set_option maxRecDepth 100000
set_option linter.unusedVariables false
set_option linter.unusedSimpArgs false
/-! base_spec -/
theorem e_spec_l00In (a b c : Int) : spec_l00In.f a b c = some (decide (b ≤ a ∧ a ≤ c)) := by
  unfold spec_l00In.f
  by_cases h : b ≤ a <;> simp [h]
theorem e_spec_l01Steps (a : Int) : spec_l01Steps.f a = some (decide (8 ≤ a ∧ a ≤ 360)) := by
  unfold spec_l01Steps.f; rw [e_spec_l00In]; rfl
theorem e_spec_l01Lift (a : Int) : spec_l01Lift.f a = some (decide (0 ≤ a ∧ a ≤ 10000)) := by
  unfold spec_l01Lift.f; rw [e_spec_l00In]; rfl
theorem e_spec_l01Ok (l : List Int) (h16 : I16 l) (hl : l.length ≤ 1048576) : Ev (fun k => spec_l01Ok.f k l) (decide (Valid l)) := by
  unfold spec_l01Ok.f
  simp only [e_spec_l01Steps, Option.bind_some]
  by_cases h : 8 ≤ (l.length : Int) ∧ (l.length : Int) ≤ 360
  · simp only [h, and_self, decide_true, if_true]
    have := ev_find (fun k j => spec_l01Ok.l0 k l (j : Int)) (fun j => decide (0 ≤ rd l (j : Int) ∧ rd l (j : Int) ≤ 10000)) l.length true (fun _ => false) ?_ ?_ ?_
    · rw [ff_all] at this
      refine eve this ?_
      apply decide_eq_decide.mpr
      unfold Valid
      constructor
      · intro hh; exact ⟨by omega, by omega, fun j hj => by simpa using hh j hj⟩
      · intro hh j hj; simpa using hh.2.2 j hj
    · intro j r hj hp ih
      refine evs ?_
      have hb := h16.rdb (j : Int)
      simp (disch := omega) only [spec_l01Ok.l0, if_pos, e_spec_l01Lift, Option.bind_some, w64]
      first | exact ih | (rw [hp]; simp only [if_true]; exact ih)
    · intro j hj hp
      refine evs ?_
      have hb := h16.rdb (j : Int)
      simp (disch := omega) only [spec_l01Ok.l0, if_pos, e_spec_l01Lift, Option.bind_some, w64]
      first | exact evo rfl | (rw [hp]; exact evo rfl)
    · refine evs ?_
      simp (disch := omega) only [spec_l01Ok.l0, if_neg]
      exact evo rfl
  · rw [decide_eq_false h]
    simp only [Bool.false_eq_true, if_false]
    exact evo (decide_eq_false (fun hv => h ⟨by have := hv.1; omega, by have := hv.2.1; omega⟩)).symm

/-! base_impl -/
theorem e_impl_inRange (a b c : Int) : impl_inRange.f a b c = some (decide (b ≤ a ∧ a ≤ c)) := by
  unfold impl_inRange.f
  by_cases h : b ≤ a <;> simp [h]
theorem e_impl_isSteps (a : Int) : impl_isSteps.f a = some (decide (8 ≤ a ∧ a ≤ 360)) := by
  unfold impl_isSteps.f; rw [e_impl_inRange]; rfl
theorem e_impl_isLift (a : Int) : impl_isLift.f a = some (decide (0 ≤ a ∧ a ≤ 10000)) := by
  unfold impl_isLift.f; rw [e_impl_inRange]; rfl
theorem e_impl_Cam_steps (l : List Int) : impl_Cam_steps.f l = some (l.length : Int) := rfl
theorem e_impl_ValidCam (l : List Int) (h16 : I16 l) (hl : l.length ≤ 1048576) : Ev (fun k => impl_ValidCam.f k l) (decide (Valid l)) := by
  unfold impl_ValidCam.f
  simp only [e_impl_Cam_steps, e_impl_isSteps, Option.bind_some]
  by_cases h : 8 ≤ (l.length : Int) ∧ (l.length : Int) ≤ 360
  · simp only [h, and_self, decide_true, if_true]
    unfold slices_ContainsFunc_at_impl_ValidCam_c1.f slices_IndexFunc_at_impl_ValidCam_c1.f
    have := ev_find (fun k j => slices_IndexFunc_at_impl_ValidCam_c1.l0 k l (l.length : Int) (j : Int)) (fun j => decide (0 ≤ rd l (j : Int) ∧ rd l (j : Int) ≤ 10000)) l.length (-1) (fun j => (j : Int)) ?_ ?_ ?_
    · refine Ev.bind (Ev.bind this (evo rfl)) (evo ?_)
      rcases ff_eq (fun j => decide (0 ≤ rd l (j : Int) ∧ rd l (j : Int) ≤ 10000)) (-1 : Int) (fun j => (j : Int)) l.length with ⟨hh, e⟩ | ⟨m, hm, hf, _, e⟩
      · rw [e, decide_eq_true (show Valid l from ⟨by omega, by omega, fun j hj => by simpa using hh j hj⟩)]; rfl
      · rw [e, decide_eq_false (show ¬ Valid l from fun hv => by rw [decide_eq_true (hv.2.2 m hm)] at hf; cases hf)]
        simp
    · intro j r hj hp ih
      refine evs ?_
      have hb := h16.rdb (j : Int)
      simp (disch := omega) only [slices_IndexFunc_at_impl_ValidCam_c1.l0, impl_ValidCam_c1.f, if_pos, e_impl_isLift, Option.bind_some, w64]
      first | exact ih | (rw [hp]; simp only [Bool.not_true, Bool.false_eq_true, if_false]; exact ih)
    · intro j hj hp
      refine evs ?_
      have hb := h16.rdb (j : Int)
      simp (disch := omega) only [slices_IndexFunc_at_impl_ValidCam_c1.l0, impl_ValidCam_c1.f, if_pos, e_impl_isLift, Option.bind_some, w64]
      first | exact evo rfl | (rw [hp]; exact evo rfl)
    · refine evs ?_
      simp (disch := omega) only [slices_IndexFunc_at_impl_ValidCam_c1.l0, if_neg]
      exact evo rfl
  · rw [decide_eq_false h]
    simp only [Bool.false_eq_true, if_false]
    exact evo (decide_eq_false (fun hv => h ⟨by have := hv.1; omega, by have := hv.2.1; omega⟩)).symm

/-! mx -/
theorem e_spec_l00Max' (a b : Int) : (if a > b then some a else some b) = some (mx a b) := by
  unfold mx
  by_cases h : a > b
  · rw [if_pos h, if_neg (by omega)]
  · rw [if_neg h]; by_cases h2 : a < b
    · rw [if_pos h2]
    · rw [if_neg h2, show a = b by omega]

/-! mach -/
def mxl (l : List Int) : Nat → Int
  | 0 => rd l 0
  | j + 1 => mx (mxl l j) (rd l ((j + 1 : Nat) : Int))
theorem mxl_s (l : List Int) (j : Nat) : mxl l (j + 1) = mx (mxl l j) (rd l ((j + 1 : Nat) : Int)) := rfl
theorem mxl_z (l : List Int) : mxl l 0 = rd l 0 := rfl
theorem mxl_lt (l : List Int) (c : Int) (j : Nat) : mxl l j < c ↔ ∀ i, i ≤ j → rd l (i : Int) < c := by
  induction j with
  | zero => rw [mxl_z]; exact ⟨fun h i hi => by obtain rfl : i = 0 := by omega
                                                exact h, fun h => h 0 (Nat.le_refl 0)⟩
  | succ j ih =>
    rw [mxl_s]
    constructor
    · intro h i hi
      have e : mxl l j < c ∧ rd l ((j + 1 : Nat) : Int) < c := by unfold mx at h; split at h <;> omega
      by_cases hc : i = j + 1
      · rw [hc]; exact e.2
      · exact ih.mp e.1 i (by omega)
    · intro h
      have a := ih.mpr fun i hi => h i (by omega)
      have b := h (j + 1) (Nat.le_refl _)
      unfold mx; split <;> omega
theorem mxl_b (l : List Int) (h16 : I16 l) (j : Nat) : -32768 ≤ mxl l j ∧ mxl l j ≤ 32767 := by
  induction j with
  | zero => exact h16.rdb 0
  | succ j ih => rw [mxl_s]; have := h16.rdb ((j + 1 : Nat) : Int); unfold mx; split <;> omega
/-- A cam that can move a pen. -/
def Mov (l : List Int) : Prop := Valid l ∧ mxl l (l.length - 1) < 64
instance (l : List Int) : Decidable (Mov l) := by unfold Mov; infer_instance
theorem Mov.valid {l : List Int} (h : Mov l) : Valid l := h.1
theorem Mov.rdb {l : List Int} (h : Mov l) (i : Int) : 0 ≤ rd l i ∧ rd l i < 64 := by
  refine ⟨(Valid.rdb h.1 i).1, ?_⟩
  have hn := h.1.1
  by_cases c : i.toNat < l.length
  · have := (mxl_lt l 64 (l.length - 1)).mp h.2 i.toNat (by omega)
    have e : rd l i = rd l ((i.toNat : Nat) : Int) := by unfold rd; rw [Int.toNat_natCast]
    rw [e]; exact this
  · simp [rd, List.getD_eq_getElem?_getD, List.getElem?_eq_none (Nat.not_lt.mp c)]
def MachOk (x y p : List Int) : Prop := Mov x ∧ Mov y ∧ Valid p ∧ x.length = y.length ∧ x.length = p.length
instance (x y p : List Int) : Decidable (MachOk x y p) := by unfold MachOk; infer_instance
def mnl (l : List Int) : Nat → Int
  | 0 => rd l 0
  | j + 1 => if mnl l j < rd l ((j + 1 : Nat) : Int) then mnl l j else rd l ((j + 1 : Nat) : Int)
theorem mnl_s (l : List Int) (j : Nat) : mnl l (j + 1) = if mnl l j < rd l ((j + 1 : Nat) : Int) then mnl l j else rd l ((j + 1 : Nat) : Int) := rfl
theorem e_spec_l00Min (a b : Int) : spec_l00Min.f a b = some (if a < b then a else b) := by
  unfold spec_l00Min.f; split <;> rfl
theorem e_spec_l00Max2 (a b : Int) : spec_l00Max.f a b = some (mx a b) := by
  unfold spec_l00Max.f; exact e_spec_l00Max' a b
theorem e_spec_l01Range (l : List Int) (h16 : I16 l) (h0 : 0 < l.length) (hl : l.length ≤ 1048576) : Ev (fun k => spec_l01Range.f k l) (mnl l (l.length - 1), mxl l (l.length - 1)) := by
  unfold spec_l01Range.f
  have hb := h16.rdb 0
  simp (disch := omega) only [if_pos, w64]
  have := ev_loop (fun k j => spec_l01Range.l0 k l (mnl l j) (mxl l j) ((j + 1 : Nat) : Int)) (l.length - 1) (mnl l (l.length - 1), mxl l (l.length - 1)) ?_ ?_
  · exact this
  · intro j hj ih
    refine evs ?_
    have hb := h16.rdb ((j + 1 : Nat) : Int)
    simp (disch := omega) only [spec_l01Range.l0, if_pos, w64, e_spec_l00Min, e_spec_l00Max2, Option.bind_some]
    rw [mnl_s, mxl_s] at ih
    exact ih
  · refine evs ?_
    simp (disch := omega) only [spec_l01Range.l0, if_neg]
    exact evo rfl
theorem e_spec_l07Moves (l : List Int) (h16 : I16 l) (hl : l.length ≤ 1048576) : Ev (fun k => spec_l07Moves.f k l) (decide (Mov l)) := by
  unfold spec_l07Moves.f
  refine Ev.bind (e_spec_l01Ok l h16 hl) ?_
  by_cases hv : Valid l
  · have hn := hv.1
    simp only [hv, decide_true, if_true]
    refine Ev.bind (e_spec_l01Range l h16 (by omega) hl) (evo ?_)
    exact decide_eq_decide.mpr ⟨fun h => ⟨hv, h⟩, fun h => h.2⟩
  · simp only [hv, decide_false, Bool.false_eq_true, if_false]
    exact evo (decide_eq_false fun h => hv h.1).symm
theorem e_spec_l07Ok (x y p : List Int) (hx : I16 x) (hy : I16 y) (hp : I16 p) (lx : x.length ≤ 1048576) (ly : y.length ≤ 1048576) (lp : p.length ≤ 1048576) : Ev (fun k => spec_l07Ok.f k x y p) (decide (MachOk x y p)) := by
  unfold spec_l07Ok.f
  refine Ev.bind (e_spec_l07Moves x hx lx) ?_
  by_cases mx_ : Mov x
  · simp only [mx_, decide_true, if_true]
    refine Ev.bind (e_spec_l07Moves y hy ly) ?_
    by_cases my_ : Mov y
    · simp only [my_, decide_true, if_true]
      refine Ev.bind (e_spec_l01Ok p hp lp) ?_
      by_cases vp : Valid p
      · simp only [vp, decide_true, if_true]
        by_cases e1 : (x.length : Int) = (y.length : Int)
        · simp only [if_pos e1]
          refine evo ?_
          by_cases e2 : (x.length : Int) = (p.length : Int)
          · rw [beq_iff_eq.mpr e2]; exact (decide_eq_true ⟨mx_, my_, vp, by omega, by omega⟩).symm
          · rw [beq_eq_false_iff_ne.mpr e2]; exact (decide_eq_false fun h => e2 (by have := h.2.2.2.2; omega)).symm
        · simp only [if_neg e1]
          exact evo (decide_eq_false fun h => e1 (by have := h.2.2.2.1; omega)).symm
      · simp only [vp, decide_false, Bool.false_eq_true, if_false]
        exact evo (decide_eq_false fun h => vp h.2.2.1).symm
    · simp only [my_, decide_false, Bool.false_eq_true, if_false]
      exact evo (decide_eq_false fun h => my_ h.2.1).symm
  · simp only [mx_, decide_false, Bool.false_eq_true, if_false]
    exact evo (decide_eq_false fun h => mx_ h.1).symm
theorem e_Max (l : List Int) (h0 : 0 < l.length) (hl : l.length ≤ 1048576) : Ev (fun k => impl_Cam_int16_105.f k l) (mxl l (l.length - 1)) := by
  unfold impl_Cam_int16_105.f
  simp (disch := omega) only [if_pos, if_neg]
  have := ev_loop (fun k j => impl_Cam_int16_105.l0 k l (mxl l j) ((j + 1 : Nat) : Int)) (l.length - 1) (mxl l (l.length - 1)) ?_ ?_
  · exact this
  · intro j hj ih
    refine evs ?_
    simp (disch := omega) only [impl_Cam_int16_105.l0, if_pos, w64]
    rw [mxl_s] at ih
    exact ih
  · refine evs ?_
    simp (disch := omega) only [impl_Cam_int16_105.l0, if_neg]
    exact evo rfl
theorem e_impl_VM_one (c p : List Int) (hc : I16 c) (lc : c.length ≤ 1048576) : Ev (fun k => impl_ValidMachine.one k c p) (! decide (Mov c ∧ c.length = p.length)) := by
  unfold impl_ValidMachine.one
  refine Ev.bind (e_impl_ValidCam c hc lc) ?_
  by_cases hv : Valid c
  · have hn := hv.1
    simp only [hv, decide_true, if_true]
    by_cases e : (c.length : Int) = (p.length : Int)
    · simp only [if_pos e]
      refine Ev.bind (e_Max c (by omega) lc) (evo ?_)
      by_cases hm : mxl c (c.length - 1) < 64
      · rw [decide_eq_false (by omega), decide_eq_true ⟨⟨hv, hm⟩, by omega⟩]; rfl
      · rw [decide_eq_true (by omega), decide_eq_false (fun h => hm h.1.2)]; rfl
    · simp only [if_neg e]
      exact evo (by rw [decide_eq_false (fun h => e (by have := h.2; omega))]; rfl)
  · simp only [hv, decide_false, Bool.false_eq_true, if_false]
    exact evo (by rw [decide_eq_false (fun h => hv h.1.1)]; rfl)
theorem e_impl_ValidMachine (x y p : List Int) (hx : I16 x) (hy : I16 y) (hp : I16 p) (lx : x.length ≤ 1048576) (ly : y.length ≤ 1048576) (lp : p.length ≤ 1048576) : Ev (fun k => impl_ValidMachine.f k x y p) (decide (MachOk x y p)) := by
  unfold impl_ValidMachine.f impl_ValidMachine.g
  refine Ev.bind (e_impl_VM_one x p hx lx) ?_
  by_cases a : Mov x ∧ x.length = p.length
  · rw [decide_eq_true a]
    simp only [Bool.not_true, Bool.false_eq_true, if_false]
    refine Ev.bind (e_impl_VM_one y p hy ly) ?_
    by_cases b : Mov y ∧ y.length = p.length
    · rw [decide_eq_true b]
      simp only [Bool.not_true, Bool.false_eq_true, if_false]
      refine eve (e_impl_ValidCam p hp lp) ?_
      exact decide_eq_decide.mpr ⟨fun h => ⟨a.1, b.1, h, by omega, a.2⟩, fun h => h.2.2.1⟩
    · rw [decide_eq_false b]
      simp only [Bool.not_false, if_true]
      exact evo (decide_eq_false fun h => b ⟨h.2.1, by have := h.2.2.2; omega⟩).symm
  · rw [decide_eq_false a]
    simp only [Bool.not_false, if_true]
    exact evo (decide_eq_false fun h => a ⟨h.1, h.2.2.2.2⟩).symm

/-! impl_mod -/
theorem e_impl_floorDiv (a n : Int) (h : 0 < n) (ha : -9223372036854775807 ≤ a) (hb : a ≤ 9223372036854775807) : impl_floorDiv.f a n = some (a / n) := by
  unfold impl_floorDiv.f
  have := tdiv_b a h 9223372036854775807 ha hb
  rw [if_neg (by omega), ← floor_tdiv a h]
  by_cases c : Int.tmod a n < 0
  · simp (disch := omega) only [if_pos c, w64]
  · simp (disch := omega) only [if_neg c, w64]
theorem e_impl_mod (a n : Int) (h : 0 < n) (hn : n ≤ 1048576) (ha : -1000000000000 ≤ a) (hb : a ≤ 1000000000000) : impl_mod.f a n = some (a % n) := by
  unfold impl_mod.f
  rw [e_impl_floorDiv a n h (by omega) (by omega)]
  have e := Int.emod_add_mul_ediv a n
  have b := emod_b a h
  simp (disch := omega) only [Option.bind_some, w64, mod_ediv]

/-! impl_at -/
theorem e_impl_Cam_at (l : List Int) (h16 : I16 l) (h0 : 0 < l.length) (hl : l.length ≤ 1048576) (a : Int) (ha : -1000000000000 ≤ a) (hb : a ≤ 1000000000000) : impl_Cam_at.f l a = some (atz l a) := by
  unfold impl_Cam_at.f atz
  have hn : (0 : Int) < l.length := by omega
  have c := emod_b a hn
  rw [e_impl_Cam_steps, Option.bind_some, e_impl_mod a _ hn (by omega) ha hb, Option.bind_some, if_pos c.1, if_pos c.2]
  have := h16.rdb (a % (l.length : Int))
  rw [w64 (by omega) (by omega)]

/-! mstop -/
theorem e_impl_Machine_stop (x y p : List Int) (hx : I16 x) (hy : I16 y) (hp : I16 p) (m : MachOk x y p) (a : Int) (ha : -1000000000 ≤ a) (hb : a ≤ 1000000000) : impl_Machine_stop.f x y p a = some (atz x a, atz y a, atz p a == 0) := by
  obtain ⟨m1, m2, m3, m4, m5⟩ := m
  have := m1.1.1
  have := m1.1.2.1
  have b0 := Valid.atzb m1.1 a
  have b1 := Valid.atzb m2.1 a
  unfold impl_Machine_stop.f
  simp (disch := omega) only [e_impl_Cam_at x hx, e_impl_Cam_at y hy, e_impl_Cam_at p hp, Option.bind_some, w16]

/-! stops -/
/-- The stop at a step of a machine. -/
def stp (x y p : List Int) (j : Nat) : S95 := ⟨⟨rd x (j : Int), rd y (j : Int)⟩, (rd p (j : Int) == 0)⟩
def stpL (x y p : List Int) : List S95 := (List.range x.length).map (stp x y p)
theorem stpL_len (x y p : List Int) : (stpL x y p).length = x.length := by simp [stpL]
theorem stpL_rd (x y p : List Int) (i : Int) (h0 : 0 ≤ i) (h1 : i < x.length) : rd_T95 (stpL x y p) i = stp x y p i.toNat := by
  unfold stpL rd_T95
  have : i.toNat < x.length := by omega
  simp [List.getD_eq_getElem?_getD, this]
theorem e_impl_stops (x y p : List Int) (hx : I16 x) (hy : I16 y) (hp : I16 p) (m : MachOk x y p) : Ev (fun k => impl_Machine_stops.f k x y p) (stpL x y p) := by
  have h8 := m.1.1.1
  have h9 := m.1.1.2.1
  unfold impl_Machine_stops.f
  simp only [impl_Machine_steps.f, e_impl_Cam_steps, Option.bind_some]
  have := ev_loop (fun k j => impl_Machine_stops.l0 k ((List.range j).map (stp x y p)) (x.length : Int) (j : Int) x y p) x.length (stpL x y p) ?_ ?_
  · exact this
  · intro j hj ih
    refine evs ?_
    have e : ((List.range j).map (stp x y p)).length = j := map_len _ _
    have ly := m.2.2.2.1
    have lp := m.2.2.2.2
    simp (disch := omega) only [impl_Machine_stops.l0, if_pos, e_impl_Machine_stop x y p hx hy hp m, w64, Option.bind_some, e]
    rw [atz_nat x j hj, atz_nat y j (by omega), atz_nat p j (by omega), show (⟨⟨rd x (j : Int), rd y (j : Int)⟩, (rd p (j : Int) == 0)⟩ : S95) = stp x y p j from rfl, ← map_snoc (stp x y p)]
    exact ih
  · refine evs ?_
    simp (disch := omega) only [impl_Machine_stops.l0, if_neg]
    exact evo rfl
theorem e_spec_l07Stops (x y p : List Int) (m : MachOk x y p) : Ev (fun k => spec_l07Stops.f k x y p) (stpL x y p) := by
  have h8 := m.1.1.1
  have h9 := m.1.1.2.1
  have ly := m.2.2.2.1
  have lp := m.2.2.2.2
  unfold spec_l07Stops.f
  have := ev_loop (fun k j => spec_l07Stops.l0 k ((List.range j).map (stp x y p)) (j : Int) x y p) x.length (stpL x y p) ?_ ?_
  · exact this
  · intro j hj ih
    refine evs ?_
    have e : ((List.range j).map (stp x y p)).length = j := map_len _ _
    simp (disch := omega) only [spec_l07Stops.l0, if_pos, w64, e]
    rw [show (⟨⟨rd x (j : Int), rd y (j : Int)⟩, (rd p (j : Int) == 0)⟩ : S95) = stp x y p j from rfl, ← map_snoc (stp x y p)]
    exact ih
  · refine evs ?_
    simp (disch := omega) only [spec_l07Stops.l0, if_neg]
    exact evo rfl

/-! markok -/
def MarkOk (a b : Int) : Prop := (0 ≤ a ∧ a ≤ 63) ∧ (0 ≤ b ∧ b ≤ 63)
instance (a b : Int) : Decidable (MarkOk a b) := by unfold MarkOk; infer_instance

/-! szf -/
def sz (x : Int) : Int := if x < 0 then -x else x
theorem e_size (x : Int) (h0 : -100000 ≤ x) (h1 : x ≤ 100000) : spec_l01Size.f x = some (sz x) := by
  unfold spec_l01Size.f sz
  by_cases c : x < 0
  · rw [if_pos c, if_pos c, w64 (by omega) (by omega)]
  · rw [if_neg c, if_neg c]
theorem sz_neg (x : Int) : mx x (-x) = sz x := by unfold mx sz; split <;> split <;> omega
theorem e_impl_abs2 (x : Int) (h0 : -100000 ≤ x) (h1 : x ≤ 100000) : impl_abs.f x = some (sz x) := by
  unfold impl_abs.f
  rw [w64 (by omega) (by omega), sz_neg]

/-! far -/
def farM (a0 a1 b0 b1 : Int) : Int := mx (sz (a0 - b0)) (sz (a1 - b1))
theorem farM_b {a0 a1 b0 b1 : Int} (ha : MarkOk a0 a1) (hb : MarkOk b0 b1) : 0 ≤ farM a0 a1 b0 b1 ∧ farM a0 a1 b0 b1 ≤ 63 := by
  obtain ⟨x1, x2⟩ := ha
  obtain ⟨y1, y2⟩ := hb
  have p : 0 ≤ sz (a0 - b0) ∧ sz (a0 - b0) ≤ 63 := by unfold sz; split <;> omega
  have q : 0 ≤ sz (a1 - b1) ∧ sz (a1 - b1) ≤ 63 := by unfold sz; split <;> omega
  unfold farM mx; split <;> omega
theorem e_spec_l07Far {a0 a1 b0 b1 : Int} (ha : MarkOk a0 a1) (hb : MarkOk b0 b1) : spec_l07Far.f a0 a1 b0 b1 = some (farM a0 a1 b0 b1) := by
  obtain ⟨x1, x2⟩ := ha
  obtain ⟨y1, y2⟩ := hb
  unfold spec_l07Far.f farM
  simp (disch := omega) only [w64, e_size, Option.bind_some]
  unfold spec_l00Max.f
  rw [e_spec_l00Max']; rfl
theorem sz_sym (x y : Int) : sz (x - y) = sz (y - x) := by unfold sz; split <;> split <;> omega
theorem e_impl_between {a0 a1 b0 b1 : Int} (ha : MarkOk a0 a1) (hb : MarkOk b0 b1) : impl_between.f a0 a1 b0 b1 = some (farM a0 a1 b0 b1) := by
  obtain ⟨x1, x2⟩ := ha
  obtain ⟨y1, y2⟩ := hb
  unfold impl_between.f impl_abs.f farM
  simp (disch := omega) only [w64, Option.bind_some]
  rw [sz_neg, sz_neg, sz_sym b0 a0, sz_sym b1 a1]

/-! greatest -/
theorem sz_0 (x : Int) : 0 ≤ sz x := by unfold sz; split <;> omega
/-- The first of the greatest sizes, and that size. -/
def gm (l : List Int) : Nat → Int × Int
  | 0 => (0, -1)
  | j + 1 => if sz (rd l (j : Int)) > (gm l j).2 then ((j : Int), sz (rd l (j : Int))) else gm l j
theorem gm_s (l : List Int) (j : Nat) : gm l (j + 1) = if sz (rd l (j : Int)) > (gm l j).2 then ((j : Int), sz (rd l (j : Int))) else gm l j := rfl
theorem gm_b (l : List Int) (j : Nat) : (0 ≤ (gm l j).1 ∧ ((gm l j).1 = 0 ∨ (gm l j).1 < j)) ∧ -1 ≤ (gm l j).2 := by
  induction j with
  | zero => simp [gm]
  | succ j ih =>
    have := sz_0 (rd l (j : Int))
    rw [gm_s]
    split
    · dsimp only; omega
    · omega
def gb (l : List Int) : Nat → Int
  | 0 => 0
  | j + 1 => if sz (rd l ((j + 1 : Nat) : Int)) > sz (rd l (gb l j)) then ((j + 1 : Nat) : Int) else gb l j
theorem gb_s (l : List Int) (j : Nat) : gb l (j + 1) = if sz (rd l ((j + 1 : Nat) : Int)) > sz (rd l (gb l j)) then ((j + 1 : Nat) : Int) else gb l j := rfl
theorem gb_b (l : List Int) (j : Nat) : 0 ≤ gb l j ∧ gb l j ≤ j := by
  induction j with
  | zero => simp [gb]
  | succ j ih => rw [gb_s]; split <;> omega
theorem gm_gb (l : List Int) (j : Nat) : gm l (j + 1) = (gb l j, sz (rd l (gb l j))) := by
  induction j with
  | zero =>
    have := sz_0 (rd l ((0 : Nat) : Int))
    rw [gm_s, if_pos (by simp only [gm]; omega)]; rfl
  | succ j ih =>
    rw [gm_s, ih, gb_s]
    split <;> rfl
theorem e_impl_greatest (l : List Int) (hl : l.length ≤ 1048576) (hb : ∀ i, -100000 ≤ rd l i ∧ rd l i ≤ 100000) : Ev (fun k => impl_greatest.f k l) (gm l l.length) := by
  unfold impl_greatest.f
  have := ev_loop (fun k j => impl_greatest.l0 k (gm l j).1 (gm l j).2 l (l.length : Int) (j : Int)) l.length (gm l l.length) ?_ ?_
  · exact this
  · intro j hj ih
    refine evs ?_
    have b := hb (j : Int)
    simp (disch := omega) only [impl_greatest.l0, if_pos, e_impl_abs2, w64, Option.bind_some]
    rw [gm_s] at ih
    by_cases c : sz (rd l (j : Int)) > (gm l j).2
    · simp only [if_pos c] at ih ⊢; exact ih
    · simp only [if_neg c] at ih ⊢; exact ih
  · refine evs ?_
    simp (disch := omega) only [impl_greatest.l0, if_neg]
    exact evo rfl

/-! FastestMove -/
/-- How far the pen moves behind a step. -/
def mvv (x y : List Int) (j : Nat) : Int := farM (rd x (j : Int)) (rd y (j : Int)) (rd x (((((j : Int) + 1) % (x.length : Int)).toNat : Nat) : Int)) (rd y (((((j : Int) + 1) % (x.length : Int)).toNat : Nat) : Int))
def mvL (x y : List Int) : List Int := (List.range x.length).map (mvv x y)
theorem mvL_len (x y : List Int) : (mvL x y).length = x.length := by simp [mvL]
theorem mvL_rd (x y : List Int) (j : Nat) (h : j < x.length) : rd (mvL x y) (j : Int) = mvv x y j := by
  unfold mvL; rw [rd_map _ _ _ (by omega) (by omega)]; simp
theorem mov_ok {x y p : List Int} (m : MachOk x y p) (i j : Int) : MarkOk (rd x i) (rd y i) ∧ MarkOk (rd x j) (rd y j) := by
  have a := Mov.rdb m.1 i
  have b := Mov.rdb m.2.1 i
  have c := Mov.rdb m.1 j
  have d := Mov.rdb m.2.1 j
  unfold MarkOk; omega
theorem mvv_b {x y p : List Int} (m : MachOk x y p) (j : Nat) : 0 ≤ mvv x y j ∧ mvv x y j ≤ 63 := by
  unfold mvv; exact farM_b (mov_ok m _ 0).1 (mov_ok m _ 0).1
theorem mvL_b {x y p : List Int} (m : MachOk x y p) (i : Int) : -100000 ≤ rd (mvL x y) i ∧ rd (mvL x y) i ≤ 100000 := by
  by_cases c : i.toNat < x.length
  · have e : rd (mvL x y) i = rd (mvL x y) ((i.toNat : Nat) : Int) := by unfold rd; rw [Int.toNat_natCast]
    rw [e, mvL_rd _ _ _ c]
    have := mvv_b m i.toNat
    omega
  · have : rd (mvL x y) i = 0 := by
      unfold rd; rw [List.getD_eq_getElem?_getD, List.getElem?_eq_none (by rw [mvL_len]; omega)]; rfl
    omega
theorem sz_mvv {x y p : List Int} (m : MachOk x y p) (j : Nat) (h : j < x.length) : sz (rd (mvL x y) (j : Int)) = mvv x y j := by
  rw [mvL_rd _ _ _ h]
  have := mvv_b m j
  unfold sz; rw [if_neg (by omega)]
def fmvR (x y p : List Int) : Int × Int × Int := if MachOk x y p then ((gm (mvL x y) x.length).1, (gm (mvL x y) x.length).2, 0) else (0, 0, 1)
theorem e_spec_FastestMove (x y p : List Int) (hx : I16 x) (hy : I16 y) (hp : I16 p) (lx : x.length ≤ 1048576) (ly : y.length ≤ 1048576) (lp : p.length ≤ 1048576) : Ev (fun k => spec_FastestMove.f k x y p) (fmvR x y p) := by
  unfold spec_FastestMove.f fmvR
  refine Ev.bind (e_spec_l07Ok x y p hx hy hp lx ly lp) ?_
  by_cases h : MachOk x y p
  · simp only [h, decide_true, if_true]
    refine Ev.bind (e_spec_l07Stops x y p h) ?_
    have h8 := h.1.1.1
    have eL : ((stpL x y p).length : Int) = x.length := by rw [stpL_len]
    have := ev_loop (fun k j => spec_FastestMove.l0 k (stpL x y p) (gm (mvL x y) j).1 (gm (mvL x y) j).2 (j : Int)) x.length ((gm (mvL x y) x.length).1, (gm (mvL x y) x.length).2, (0 : Int)) ?_ ?_
    · exact this
    · intro j hj ih
      refine evs ?_
      have q := emod_b ((j : Int) + 1) (show (0 : Int) < x.length by omega)
      have tm : Int.tmod ((j : Int) + 1) (x.length : Int) = ((j : Int) + 1) % (x.length : Int) := tmod_pos (by omega)
      have r1 := stpL_rd x y p (j : Int) (by omega) (by omega)
      have r2 := stpL_rd x y p (((j : Int) + 1) % (x.length : Int)) q.1 q.2
      have F : spec_l07Far.f (rd x (j : Int)) (rd y (j : Int)) (rd x (((((j : Int) + 1) % (x.length : Int)).toNat : Nat) : Int)) (rd y (((((j : Int) + 1) % (x.length : Int)).toNat : Nat) : Int)) = some (mvv x y j) := e_spec_l07Far (mov_ok h _ 0).1 (mov_ok h _ 0).1
      simp (disch := omega) only [spec_FastestMove.l0, eL, if_pos, if_neg, w64, tm, r1, r2, stp, Int.toNat_natCast, F, Option.bind_some]
      rw [gm_s, sz_mvv h j hj] at ih
      by_cases c : mvv x y j > (gm (mvL x y) j).2
      · simp only [if_pos c] at ih ⊢; exact ih
      · simp only [if_neg c] at ih ⊢; exact ih
    · refine evs ?_
      simp (disch := omega) only [spec_FastestMove.l0, eL, if_neg]
      exact evo rfl
  · simp only [h, decide_false, Bool.false_eq_true, if_false]
    exact evo rfl
theorem e_impl_FastestMove (x y p : List Int) (hx : I16 x) (hy : I16 y) (hp : I16 p) (lx : x.length ≤ 1048576) (ly : y.length ≤ 1048576) (lp : p.length ≤ 1048576) : Ev (fun k => impl_FastestMove.f k x y p) (fmvR x y p) := by
  unfold impl_FastestMove.f fmvR
  refine Ev.bind (e_impl_ValidMachine x y p hx hy hp lx ly lp) ?_
  by_cases h : MachOk x y p
  · simp only [h, decide_true, if_true]
    refine Ev.bind (e_impl_stops x y p hx hy hp h) ?_
    have h8 := h.1.1.1
    have h9 := h.1.1.2.1
    have eL : ((stpL x y p).length : Int) = x.length := by rw [stpL_len]
    simp only [eL]
    have := ev_loop (fun k j => impl_FastestMove.l0 k (stpL x y p) ((List.range j).map (mvv x y)) (stpL x y p) (x.length : Int) (j : Int)) x.length ((gm (mvL x y) x.length).1, (gm (mvL x y) x.length).2, (0 : Int)) ?_ ?_
    · exact this
    · intro j hj ih
      refine evs ?_
      have q := emod_b ((j : Int) + 1) (show (0 : Int) < x.length by omega)
      have tm : Int.tmod ((j : Int) + 1) (x.length : Int) = ((j : Int) + 1) % (x.length : Int) := tmod_pos (by omega)
      have r1 := stpL_rd x y p (j : Int) (by omega) (by omega)
      have r2 := stpL_rd x y p (((j : Int) + 1) % (x.length : Int)) q.1 q.2
      have F : impl_between.f (rd x (j : Int)) (rd y (j : Int)) (rd x (((((j : Int) + 1) % (x.length : Int)).toNat : Nat) : Int)) (rd y (((((j : Int) + 1) % (x.length : Int)).toNat : Nat) : Int)) = some (mvv x y j) := e_impl_between (mov_ok h _ 0).1 (mov_ok h _ 0).1
      have e1 : ((List.range j).map (mvv x y)).length = j := map_len _ _
      simp (disch := omega) only [impl_FastestMove.l0, eL, if_pos, if_neg, w64, tm, r1, r2, stp, Int.toNat_natCast, F, Option.bind_some, e1]
      rw [← map_snoc (mvv x y)]
      exact ih
    · refine evs ?_
      simp (disch := omega) only [impl_FastestMove.l0, if_neg]
      have g := e_impl_greatest (mvL x y) (by rw [mvL_len]; exact lx) (mvL_b h)
      rw [mvL_len] at g
      exact Ev.bind g (evo rfl)
  · simp only [h, decide_false, Bool.false_eq_true, if_false]
    exact evo rfl

/-! laws_cam -/
theorem e_laws_toCam (l : List Int) (hl : l.length ≤ 1048576) : Ev (fun k => laws_toCam.f k l) l := by
  unfold laws_toCam.f
  simp (disch := omega) only [if_pos]
  have := ev_loop (fun k j => laws_toCam.l0 k l (l.take j ++ List.replicate (l.length - j) 0) (j : Int)) l.length l ?_ ?_
  · simpa using this
  · intro j hj ih
    refine evs ?_
    have e : ((l.take j ++ List.replicate (l.length - j) 0).length : Int) = l.length := by simp; omega
    simp (disch := omega) only [laws_toCam.l0, if_pos, e, w64]
    have e2 : (l.take j ++ List.replicate (l.length - j) 0).set ((j : Int)).toNat (rd l (j : Int)) = l.take (j + 1) ++ List.replicate (l.length - (j + 1)) 0 := by
      have e3 : l.length - j = (l.length - (j + 1)) + 1 := by omega
      rw [e3, List.replicate_succ, Int.toNat_natCast, set_app _ _ _ _ _ (by simp; omega), rd_nat, List.take_succ_eq_append_getElem hj]
      have e4 : l.getD j 0 = l[j] := by simp [List.getD_eq_getElem?_getD, hj]
      rw [e4, List.append_assoc, List.singleton_append]
    rw [e2]
    exact ih
  · refine evs ?_
    simp (disch := omega) only [laws_toCam.l0, if_neg]
    exact evo (by simp)
theorem e_laws_eqCam (l : List Int) (hl : l.length ≤ 1048576) : Ev (fun k => laws_eqCam.f k l l) true := by
  unfold laws_eqCam.f
  simp only [if_true]
  have := ev_loop (fun k j => laws_eqCam.l0 k l l (j : Int)) l.length true ?_ ?_
  · exact this
  · intro j hj ih
    refine evs ?_
    simp (disch := omega) only [laws_eqCam.l0, if_pos, if_true, w64]
    exact ih
  · refine evs ?_
    simp (disch := omega) only [laws_eqCam.l0, if_neg]
    exact evo rfl

/-! laws_mach -/
theorem e_laws_szMachine (x y p : List Int) (lx : x.length ≤ maxLen) (ly : y.length ≤ maxLen) (lp : p.length ≤ maxLen) : ∃ r, laws_szMachine.f x y p 1048576 = some r ∧ (0 ≤ r → x.length ≤ 1048576 ∧ y.length ≤ 1048576 ∧ p.length ≤ 1048576) := by
  have hm : maxLen ≤ 9223372036854775807 := by decide
  unfold laws_szMachine.f laws_szCam.f
  rw [w64 (by omega) (by omega)]
  by_cases c : 1048576 - (x.length : Int) < 0
  · exact ⟨-1, by simp only [if_pos c, Option.bind_some]; rfl, fun h => by omega⟩
  simp only [if_neg c, Option.bind_some]
  rw [w64 (by omega) (by omega)]
  by_cases c2 : 1048576 - (x.length : Int) - (y.length : Int) < 0
  · exact ⟨-1, by simp only [if_pos c2, Option.bind_some]; rfl, fun h => by omega⟩
  simp only [if_neg c2, Option.bind_some]
  rw [w64 (by omega) (by omega)]
  by_cases c3 : 1048576 - (x.length : Int) - (y.length : Int) - (p.length : Int) < 0
  · exact ⟨-1, by simp only [if_pos c3, Option.bind_some]; rfl, fun h => by omega⟩
  · exact ⟨1048576 - (x.length : Int) - (y.length : Int) - (p.length : Int), by simp only [if_neg c3, Option.bind_some], fun h => by omega⟩
theorem e_laws_toMachine (x y p : List Int) (lx : x.length ≤ 1048576) (ly : y.length ≤ 1048576) (lp : p.length ≤ 1048576) : Ev (fun k => laws_toMachine.f k x y p) (x, y, p) := by
  unfold laws_toMachine.f
  exact Ev.bind (e_laws_toCam x lx) (Ev.bind (e_laws_toCam y ly) (Ev.bind (e_laws_toCam p lp) (evo rfl)))
theorem e_laws_eqMachine (x y p : List Int) (lx : x.length ≤ 1048576) (ly : y.length ≤ 1048576) (lp : p.length ≤ 1048576) : Ev (fun k => laws_eqMachine.f k x y p x y p) true := by
  unfold laws_eqMachine.f
  exact Ev.bind (e_laws_eqCam x lx) (ev_pos rfl (Ev.bind (e_laws_eqCam y ly) (ev_pos rfl (Ev.bind (e_laws_eqCam p lp) (ev_pos rfl (evo rfl))))))

set_option maxHeartbeats 4000000 in
theorem FnExactFastestMove : ∀ (l0_0 : List Int) (l0_1 : List Int) (l0_2 : List Int), (l0_0.length ≤ maxLen ∧ ∀ x4 ∈ l0_0, (Lit.int .i16 x4).wf = true) → (l0_1.length ≤ maxLen ∧ ∀ x4 ∈ l0_1, (Lit.int .i16 x4).wf = true) → (l0_2.length ≤ maxLen ∧ ∀ x4 ∈ l0_2, (Lit.int .i16 x4).wf = true) → ∃ k, laws_FnExactFastestMove.f k l0_0 l0_1 l0_2 = some true := by
  rintro l0_0 l0_1 l0_2 ⟨hm0, w0⟩ ⟨hm1, w1⟩ ⟨hm2, w2⟩
  have h0 := I16.of_wf w0
  have h1 := I16.of_wf w1
  have h2 := I16.of_wf w2

  obtain ⟨r, hr, hb⟩ := e_laws_szMachine l0_0 l0_1 l0_2 hm0 hm1 hm2
  refine ev_rounds ?_
  unfold laws_FnExactFastestMove.f
  rw [hr]
  simp only [Option.bind_some]
  by_cases c : r < 0
  · exact ev_pos c (evo rfl)
  refine ev_neg c ?_
  obtain ⟨b0, b1, b2⟩ := hb (by omega)
  have T := e_laws_toMachine l0_0 l0_1 l0_2 b0 b1 b2
  have Q := e_laws_eqMachine l0_0 l0_1 l0_2 b0 b1 b2
  have A := e_spec_FastestMove l0_0 l0_1 l0_2 h0 h1 h2 b0 b1 b2
  have B := e_impl_FastestMove l0_0 l0_1 l0_2 h0 h1 h2 b0 b1 b2
  revert A B
  generalize (fmvR l0_0 l0_1 l0_2) = RR
  obtain ⟨c0, c1, c2⟩ := RR
  intro A B
  repeat (first | exact evo rfl | (with_reducible refine Ev.bind T ?_) | (with_reducible refine Ev.bind Q ?_) | (with_reducible refine Ev.bind A ?_) | (with_reducible refine Ev.bind B ?_) | ((with_reducible refine ev_pos ?s1 ?_); (case s1 => first | rfl | trivial | omega | (dsimp only; omega))) | ((with_reducible refine ev_neg ?s1 ?_); (case s1 => first | omega | (dsimp only; omega) | (simp; done))) | (refine evs ?_; simp only [laws_FnExactFastestMove.j0]))


end Go.Proofs.Ytboicfocaoohmaa.Pure
