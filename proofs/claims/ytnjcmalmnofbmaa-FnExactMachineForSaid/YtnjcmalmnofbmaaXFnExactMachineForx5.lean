/- Printed by this repository's own program (wip/tools/xprint.py) for the law FnExactMachineFor: Lean functions that say what the Go functions compute, and the proofs that the machine comes to just that; no condition beyond those in each statement. -/
import Derived.Test.YtnjcmalmnofbmaaXFnExactMachineForx0
import Derived.Test.YtnjcmalmnofbmaaXFnExactMachineForx2
import Derived.Test.YtnjcmalmnofbmaaXFnExactMachineForx3
import Derived.Test.YtnjcmalmnofbmaaXFnExactMachineForx4
namespace Go.Proofs.Ytnjcmalmnofbmaa.XFnExactMachineFor
open Go.RowKit Go.Proofs.YtnjcmalmnofbmaaW.PrintWords Go.Proofs.YtnjcmalmnofbmaaW.PrintLast Go.Proofs.YtnjcmalmnofbmaaW.PrintMore
attribute [local go_sem] max2_int min2_int max_two min_two max_three min_three max_four min_four   -- for this text's walks alone
set_option linter.unusedVariables false
set_option linter.unusedSimpArgs false

/-! ### slices_IndexFunc_at_impl_MachineFor_c1: function 212 -/
def slices_IndexFunc_at_impl_MachineFor_c1.l0 : Nat → List (S118) → Int → Int → Option (Int)
  | 0, _, _, _ => none
  | k + 1, x0, x7, x8 => if x8 < x7 then (if 0 ≤ x8 then (if x8 < (x0.length : Int) then ((impl_MachineFor_c1.f ((rd_T118 x0 x8).f0.f0) ((rd_T118 x0 x8).f0.f1) ((rd_T118 x0 x8).f1)).bind fun t218 => (if t218 = true then (some x8) else (slices_IndexFunc_at_impl_MachineFor_c1.l0 k x0 x7 (wrap64 (x8 + 1))))) else (none)) else (none)) else (some (-1))
def slices_IndexFunc_at_impl_MachineFor_c1.f (k : Nat) (l0 : List (S118)) : Option (Int) := slices_IndexFunc_at_impl_MachineFor_c1.l0 k l0 (l0.length : Int) 0
theorem slices_IndexFunc_at_impl_MachineFor_c1.mono_l : ∀ k, (∀ y0 y1 y2, LeO (slices_IndexFunc_at_impl_MachineFor_c1.l0 k y0 y1 y2) (slices_IndexFunc_at_impl_MachineFor_c1.l0 (k + 1) y0 y1 y2))
  | 0 => fun _ _ _ r h => by simp [slices_IndexFunc_at_impl_MachineFor_c1.l0] at h
  | k + 1 => by
    have ih0 := slices_IndexFunc_at_impl_MachineFor_c1.mono_l k
    · intro y0 y1 y2
      unfold slices_IndexFunc_at_impl_MachineFor_c1.l0
      repeat' first
      | (with_reducible exact ih0 _ _ _)
      | (with_reducible exact LeO.refl _)
      | (with_reducible exact LeO.none _)
      | (with_reducible refine LeO.ite ?_ ?_)
      | (with_reducible refine LeO.bind ?_ (fun _ => ?_))
      | exact ih0 _ _ _
      | exact LeO.none _
      | refine LeO.ite ?_ ?_
      | refine LeO.bind ?_ (fun _ => ?_)
theorem slices_IndexFunc_at_impl_MachineFor_c1.mono : ∀ a0 k, LeO (slices_IndexFunc_at_impl_MachineFor_c1.f k a0) (slices_IndexFunc_at_impl_MachineFor_c1.f (k + 1) a0) := by
  intro a0 k
  have ih0 := slices_IndexFunc_at_impl_MachineFor_c1.mono_l k
  unfold slices_IndexFunc_at_impl_MachineFor_c1.f
  repeat' first
      | (with_reducible exact ih0 _ _ _)
      | (with_reducible exact LeO.refl _)
      | (with_reducible exact LeO.none _)
      | (with_reducible refine LeO.ite ?_ ?_)
      | (with_reducible refine LeO.bind ?_ (fun _ => ?_))
      | exact ih0 _ _ _
      | exact LeO.none _
      | refine LeO.ite ?_ ?_
      | refine LeO.bind ?_ (fun _ => ?_)
set_option maxHeartbeats 8000000 in
set_option maxRecDepth 100000 in
theorem slices_IndexFunc_at_impl_MachineFor_c1.calls (k : Nat) (A0 : Option Addr) (c0 : Nat) (l0 : List (S118)) (r : Int) (w : World) (hr0 : Kd.C k118 w A0 l0.length l0) (hc0 : l0.length ≤ c0) (h : slices_IndexFunc_at_impl_MachineFor_c1.f k l0 = some r) :
    Calls Try.prog 169 #[.slice A0 l0.length c0, Value.func (.func 119) #[] #[]] w fun e w' => e = .returned (.int .i64 r) ∧ Below w.heap.size w w' := by
  have hu118 := Try.underlying118
  have HR0 := Aside0.mk hr0
  have HC0 := Aside0.mk hc0
  clear hr0 hc0
  have HB := Aside0.mk (Below.refl w.heap.size w)
  have H : (slices_IndexFunc_at_impl_MachineFor_c1.l0 k l0 (l0.length : Int) 0) = some r := h
  clear h
  have H' := Aside0.mk H
  clear H
  go_enter Try.func169, Try.ntmps169
  go_wp2
  go_loopg [8] k (fun kq v8 w' => ∃ (x8_1 : Int), v8 = .int .i64 x8_1 ∧ Aside0 (slices_IndexFunc_at_impl_MachineFor_c1.l0 kq l0 (l0.length : Int) x8_1 = some r) ∧ Aside0 (kq ≤ k) ∧ Aside0 (Below w.heap.size w w'))
  case atStart => exact ⟨(0), (by first | rfl | (simp; done) | (simp [*]; done)), H', ⟨Nat.le_refl _⟩, ⟨by repeat (first | (with_reducible first | exact HB.out | apply below_alloc | apply pw_below_drewN | apply below_drew1) | exact HB.out)⟩⟩
  case round =>
    clear H'
    try clear c1
    obtain ⟨x8_1, rfl, HA, HK1, HB⟩ := hrel
    cases gk with
    | zero => exact absurd HA.out (by simp [slices_IndexFunc_at_impl_MachineFor_c1.l0])
    | succ k1 =>
      have H := HA.out
      clear HA
      simp only [slices_IndexFunc_at_impl_MachineFor_c1.l0] at H
      by_cases c2 : x8_1 < (l0.length : Int)
      · rw [if_pos c2] at H
        have c2b0 : decide (x8_1 < (l0.length : Int)) = true := decide_eq_true c2
        clear c2
        by_cases c3 : 0 ≤ x8_1
        · rw [if_pos c3] at H
          have c3b0 : decide (0 ≤ x8_1) = true := decide_eq_true c3
          clear c3
          by_cases c4 : x8_1 < (l0.length : Int)
          · rw [if_pos c4] at H
            have c4b0 : decide (x8_1 < (l0.length : Int)) = true := decide_eq_true c4
            clear c4
            replace H := Option.bind_eq_some_iff.mp H
            obtain ⟨t218, A50, H⟩ := H
            replace H : (if t218 = true then (some x8_1) else (slices_IndexFunc_at_impl_MachineFor_c1.l0 k1 l0 (l0.length : Int) (wrap64 (x8_1 + 1)))) = some r := H
            have A5 := Aside0.mk A50
            clear A50
            by_cases c6 : t218 = true
            · subst c6
              have H1 : (some x8_1) = some r := by rw [if_pos rfl] at H; exact H
              clear H
              have H := H1
              clear H1
              obtain rfl := Option.some.inj H
              have p217 : 0 ≤ (x8_1 : Int) := of_decide_eq_true (by first | (with_reducible assumption) | assumption)
              have q217 : x8_1 < (l0.length : Int) := of_decide_eq_true (by first | (with_reducible assumption) | assumption)
              obtain ⟨ad217, e217, hx217_0, hx217_1, hx217_2⟩ := at_T118 HR0.out x8_1 p217 q217
              cases e217
              replace hx217_0 := (HB.out.cell (World.block_lt_of_cell? w _ hx217_0)).trans hx217_0
              replace hx217_1 := (HB.out.cell (World.block_lt_of_cell? w _ hx217_1)).trans hx217_1
              replace hx217_2 := (HB.out.cell (World.block_lt_of_cell? w _ hx217_2)).trans hx217_2
              replace p217 := eq_true p217
              replace q217 := eq_true q217
              go_wp2_with (first | ((with_reducible refine gate_dst (N := 16) rfl ?_); refine goesV_ (some 16) rfl rfl Try.func119 (by kernel_rfl) rfl #[.agg #[.int .i16 ((rd_T118 l0 x8_1).f0.f0), .int .i16 ((rd_T118 l0 x8_1).f0.f1), .bool ((rd_T118 l0 x8_1).f1)]] rfl rfl (by (try simp only [List.map_toArray, List.map_cons, List.map_nil]); first | done | rfl | (simp only [List.length_drop, List.length_take]; rfl)) ?_; (with_reducible refine (impl_MachineFor_c1.calls ((rd_T118 l0 x8_1).f0.f0) ((rd_T118 l0 x8_1).f0.f1) ((rd_T118 l0 x8_1).f1) true _ A5.out).mono ?_); rintro e w7 ⟨rfl, hb⟩; refine ⟨_, rfl, ?_⟩; have n0_ := Aside0.mk (below_step (by repeat (first | (with_reducible first | exact HB.out | apply below_alloc | apply pw_below_drewN | apply below_drew1) | exact HB.out)) hb); clear HB; have HB := n0_; clear n0_; (try clear hb); (try clear hb2); (try clear hk); (try clear hi)))
              go_ret
              exact ⟨by first | rfl | (simp [errW_none, errW_some] <;> rfl) | (simp [*, errW_none, errW_some] <;> rfl), by repeat (first | (with_reducible first | exact HB.out | apply below_alloc | apply pw_below_drewN | apply below_drew1) | exact HB.out)⟩
            · replace c6 := Bool.eq_false_iff.mpr c6
              subst c6
              have H1 : (slices_IndexFunc_at_impl_MachineFor_c1.l0 k1 l0 (l0.length : Int) (wrap64 (x8_1 + 1))) = some r := by rw [if_neg (show ¬ (false = true) by decide)] at H; exact H
              clear H
              have H := H1
              clear H1
              have H' := Aside0.mk H
              clear H
              have p217 : 0 ≤ (x8_1 : Int) := of_decide_eq_true (by first | (with_reducible assumption) | assumption)
              have q217 : x8_1 < (l0.length : Int) := of_decide_eq_true (by first | (with_reducible assumption) | assumption)
              obtain ⟨ad217, e217, hx217_0, hx217_1, hx217_2⟩ := at_T118 HR0.out x8_1 p217 q217
              cases e217
              replace hx217_0 := (HB.out.cell (World.block_lt_of_cell? w _ hx217_0)).trans hx217_0
              replace hx217_1 := (HB.out.cell (World.block_lt_of_cell? w _ hx217_1)).trans hx217_1
              replace hx217_2 := (HB.out.cell (World.block_lt_of_cell? w _ hx217_2)).trans hx217_2
              replace p217 := eq_true p217
              replace q217 := eq_true q217
              go_wp2_with (first | ((with_reducible refine gate_dst (N := 16) rfl ?_); refine goesV_ (some 16) rfl rfl Try.func119 (by kernel_rfl) rfl #[.agg #[.int .i16 ((rd_T118 l0 x8_1).f0.f0), .int .i16 ((rd_T118 l0 x8_1).f0.f1), .bool ((rd_T118 l0 x8_1).f1)]] rfl rfl (by (try simp only [List.map_toArray, List.map_cons, List.map_nil]); first | done | rfl | (simp only [List.length_drop, List.length_take]; rfl)) ?_; (with_reducible refine (impl_MachineFor_c1.calls ((rd_T118 l0 x8_1).f0.f0) ((rd_T118 l0 x8_1).f0.f1) ((rd_T118 l0 x8_1).f1) false _ A5.out).mono ?_); rintro e w8 ⟨rfl, hb⟩; refine ⟨_, rfl, ?_⟩; have n0_ := Aside0.mk (below_step (by repeat (first | (with_reducible first | exact HB.out | apply below_alloc | apply pw_below_drewN | apply below_drew1) | exact HB.out)) hb); clear HB; have HB := n0_; clear n0_; (try clear hb); (try clear hb2); (try clear hk); (try clear hi)))
              go_roundg k1
              case measure => have := HK1.out; omega
              case rel => exact ⟨(wrap64 (x8_1 + 1)), (by first | rfl | (simp; done) | (simp [*]; done)), H', ⟨by have := HK1.out; omega⟩, ⟨by repeat (first | (with_reducible first | exact HB.out | apply below_alloc | apply pw_below_drewN | apply below_drew1) | exact HB.out)⟩⟩
          · rw [if_neg c4] at H
            exact absurd H (by simp)
        · rw [if_neg c3] at H
          exact absurd H (by simp)
      · rw [if_neg c2] at H
        have c2b0 : decide (x8_1 < (l0.length : Int)) = false := decide_eq_false c2
        clear c2
        obtain rfl := Option.some.inj H
        go_wp2
        go_ret
        exact ⟨by first | rfl | (simp [errW_none, errW_some] <;> rfl) | (simp [*, errW_none, errW_some] <;> rfl), by repeat (first | (with_reducible first | exact HB.out | apply below_alloc | apply pw_below_drewN | apply below_drew1) | exact HB.out)⟩

/-! ### slices_ContainsFunc_at_impl_MachineFor_c1: function 211 -/
def slices_ContainsFunc_at_impl_MachineFor_c1.f (k : Nat) (l0 : List (S118)) : Option (Bool) := (slices_IndexFunc_at_impl_MachineFor_c1.f k l0).bind fun t219 => (some (decide (t219 ≥ 0)))
theorem slices_ContainsFunc_at_impl_MachineFor_c1.mono : ∀ a0 k, LeO (slices_ContainsFunc_at_impl_MachineFor_c1.f k a0) (slices_ContainsFunc_at_impl_MachineFor_c1.f (k + 1) a0) := by
  intro a0 k
  unfold slices_ContainsFunc_at_impl_MachineFor_c1.f
  repeat' first
      | (with_reducible exact slices_IndexFunc_at_impl_MachineFor_c1.mono _ _)
      | (with_reducible exact LeO.refl _)
      | (with_reducible exact LeO.none _)
      | (with_reducible refine LeO.ite ?_ ?_)
      | (with_reducible refine LeO.bind ?_ (fun _ => ?_))
      | exact slices_IndexFunc_at_impl_MachineFor_c1.mono _ _
      | exact LeO.none _
      | refine LeO.ite ?_ ?_
      | refine LeO.bind ?_ (fun _ => ?_)
set_option maxHeartbeats 8000000 in
set_option maxRecDepth 100000 in
theorem slices_ContainsFunc_at_impl_MachineFor_c1.calls (k : Nat) (A0 : Option Addr) (c0 : Nat) (l0 : List (S118)) (r : Bool) (w : World) (hr0 : Kd.C k118 w A0 l0.length l0) (hc0 : l0.length ≤ c0) (h : slices_ContainsFunc_at_impl_MachineFor_c1.f k l0 = some r) :
    Calls Try.prog 118 #[.slice A0 l0.length c0, Value.func (.func 119) #[] #[]] w fun e w' => e = .returned (.bool r) ∧ Below w.heap.size w w' := by
  have HR0 := Aside0.mk hr0
  have HC0 := Aside0.mk hc0
  clear hr0 hc0
  have HB := Aside0.mk (Below.refl w.heap.size w)
  have H : ((slices_IndexFunc_at_impl_MachineFor_c1.f k l0).bind fun t219 => (some (decide (t219 ≥ 0)))) = some r := h
  clear h
  replace H := Option.bind_eq_some_iff.mp H
  obtain ⟨t219, A20, H⟩ := H
  replace H : (some (decide (t219 ≥ 0))) = some r := H
  have A2 := Aside0.mk A20
  clear A20
  obtain rfl := Option.some.inj H
  go_enter Try.func118, Try.ntmps118
  go_wp2_with (first | ((with_reducible refine gate_callee (f := 169) rfl ?_); refine goesL_ (some 7) rfl rfl Try.func169 (by kernel_rfl) rfl #[.slice A0 l0.length c0, Value.func (.func 119) #[] #[]] rfl (by (try simp only [List.map_toArray, List.map_cons, List.map_nil]); first | done | rfl | (simp only [List.length_drop, List.length_take]; rfl)) ?_; (with_reducible refine (slices_IndexFunc_at_impl_MachineFor_c1.calls k _ _ l0 t219 _ ?side1 ?side2 A2.out).mono ?_); (case side1 => repeat (first | exact HR0.out | (with_reducible refine Kd.C_alloc ?_ _) | (with_reducible refine Kd.C_drewN ?_ _) | (with_reducible refine Kd.C_drew ?_))); (case side2 => exact HC0.out); rintro e w3 ⟨rfl, hb⟩; refine ⟨_, rfl, ?_⟩; have n0_ := Aside0.mk (below_step (by repeat (first | (with_reducible first | exact HB.out | apply below_alloc | apply pw_below_drewN | apply below_drew1) | exact HB.out)) hb); clear HB; have HB := n0_; clear n0_; (try clear hb); (try clear hb2); (try clear hk); (try clear hi)))
  go_ret
  exact ⟨by first | rfl | (simp [errW_none, errW_some] <;> rfl) | (simp [*, errW_none, errW_some] <;> rfl), by repeat (first | (with_reducible first | exact HB.out | apply below_alloc | apply pw_below_drewN | apply below_drew1) | exact HB.out)⟩

/-! ### steps of impl_MachineFor that come again: each is read where it is used -/
theorem a148_ {p : Prop} (h : p := by repeat (first | (with_reducible first | exact HB.out | apply below_alloc | apply pw_below_drewN | apply below_drew1 | refine below_set ?_ GE220.out) | exact HB.out)) : p := h
theorem a149_ {p : Prop} (h : p := by (try simp only [List.map_toArray, List.map_cons, List.map_nil]); first | done | rfl | (simp only [List.length_drop, List.length_take]; rfl)) : p := h
theorem a150_ {p : Prop} (h : p := by (with_reducible repeat (first | refine blk_drewN ?_ _ | refine blk_drew ?_ | refine blk_alloc ?_ _)); exact BK220.out) : p := h
theorem a151_ {p : Prop} (h : p := by repeat (first | (with_reducible first | exact HB.out | apply below_alloc | apply pw_below_drewN | apply below_drew1) | exact HB.out)) : p := h
theorem a152_ {p : Prop} (h : p := by (with_reducible repeat (first | refine blk_drewN ?_ _ | refine blk_drew ?_ | refine blk_alloc ?_ _)); refine blk_put (cs := #[.slice none 0 0, .slice none 0 0, .slice none 0 0]) ?_ 2 _ rfl; (with_reducible repeat (first | refine blk_drewN ?_ _ | refine blk_drew ?_ | refine blk_alloc ?_ _)); refine blk_put (cs := #[.slice none 0 0, .slice none 0 0, .slice none 0 0]) ?_ 1 _ rfl; (with_reducible repeat (first | refine blk_drewN ?_ _ | refine blk_drew ?_ | refine blk_alloc ?_ _)); refine blk_put (cs := #[.slice none 0 0, .slice none 0 0, .slice none 0 0]) ?_ 0 _ rfl; (with_reducible repeat (first | refine blk_drewN ?_ _ | refine blk_drew ?_ | refine blk_alloc ?_ _)); exact BK220.out) : p := h
theorem a153_ {p : Prop} (h : p := by (with_reducible repeat (first | apply Kd.R_alloc | apply Kd.R_drewN | apply Kd.R_drew)); exact HO227.out) : p := h
theorem a154_ {p : Prop} (h : p := by (with_reducible repeat (first | apply Kd.R_alloc | apply Kd.R_drewN | apply Kd.R_drew)); exact HO241.out) : p := h
theorem a155_ {p : Prop} (h : p := by rw [hg]; exact (below_size a151_)) : p := h
theorem a156_ {p : Prop} (h : p := by repeat (first | exact (Kd.C_below HR0.out HB.out) | (with_reducible refine Kd.C_alloc ?_ _) | (with_reducible refine Kd.C_drewN ?_ _) | (with_reducible refine Kd.C_drew ?_))) : p := h
theorem a157_ {p : Prop} (h : p := by repeat (first | exact (Kd.R_reads' HO227.out).2.2 | (with_reducible refine Kd.C_alloc ?_ _) | (with_reducible refine Kd.C_drewN ?_ _) | (with_reducible refine Kd.C_drew ?_))) : p := h
theorem a158_ {p : Prop} (h : p := by repeat (first | exact (Kd.R_reads' HO241.out).2.2 | (with_reducible refine Kd.C_alloc ?_ _) | (with_reducible refine Kd.C_drewN ?_ _) | (with_reducible refine Kd.C_drew ?_))) : p := h
theorem a159_ {p : Prop} (h : p := by exact (Reps.one (show Kd.M (Kd.int .i64) _ _ _ t222 [.int .i64 t222] from rfl) (Reps.one (show Kd.M (Kd.int .i64) _ _ _ t224 [.int .i64 t224] from rfl) (Reps.none _ _)))) : p := h
theorem a160_ {p : Prop} (h : p := by exact (Reps.one (show Kd.M (Kd.int .i64) _ _ _ t222 [.int .i64 t222] from rfl) (Reps.one (show Kd.M (Kd.int .i64) _ _ _ t238 [.int .i64 t238] from rfl) (Reps.none _ _)))) : p := h
theorem a161_ {p : Prop} (h : p := by first | (go_simp; done) | (go_simp; rfl)) : p := h

/-! ### impl_MachineFor: function 54 -/
def impl_MachineFor.f (k : Nat) (l0 : List (S118)) (a1 : Int) : Option (List Int × List Int × List Int × Int) := (slices_ContainsFunc_at_impl_MachineFor_c1.f k l0).bind fun t221 => ((impl_codeIf.f t221 1).bind fun t222 => ((impl_isSteps.f a1).bind fun t223 => (if t223 = true then ((impl_codeIf.f (decide ((l0.length : Int) > a1)) 2).bind fun t224 => ((impl_firstCode.f k (([t222, t224] : List Int))).bind fun t228 => (if t228 = 0 then ((impl_machineFor.f k l0 a1).bind fun bt229 => (some (bt229.1, bt229.2.1, bt229.2.2, 0))) else (some (([] : List Int), ([] : List Int), ([] : List Int), t228))))) else ((impl_codeIf.f true 2).bind fun t238 => ((impl_firstCode.f k (([t222, t238] : List Int))).bind fun t242 => (if t242 = 0 then ((impl_machineFor.f k l0 a1).bind fun bt243 => (some (bt243.1, bt243.2.1, bt243.2.2, 0))) else (some (([] : List Int), ([] : List Int), ([] : List Int), t242))))))))
theorem impl_MachineFor.mono : ∀ a0 a1 k, LeO (impl_MachineFor.f k a0 a1) (impl_MachineFor.f (k + 1) a0 a1) := by
  intro a0 a1 k
  unfold impl_MachineFor.f
  repeat' first
      | (with_reducible exact impl_firstCode.mono _ _)
      | (with_reducible exact impl_machineFor.mono _ _ _)
      | (with_reducible exact slices_ContainsFunc_at_impl_MachineFor_c1.mono _ _)
      | (with_reducible exact LeO.refl _)
      | (with_reducible exact LeO.none _)
      | (with_reducible refine LeO.ite ?_ ?_)
      | (with_reducible refine LeO.bind ?_ (fun _ => ?_))
      | exact impl_firstCode.mono _ _
      | exact impl_machineFor.mono _ _ _
      | exact slices_ContainsFunc_at_impl_MachineFor_c1.mono _ _
      | exact LeO.none _
      | refine LeO.ite ?_ ?_
      | refine LeO.bind ?_ (fun _ => ?_)
/-! ### impl_MachineFor: what follows is its proof -/

set_option maxHeartbeats 8000000 in
set_option maxRecDepth 100000 in
theorem impl_MachineFor.calls (k : Nat) (A0 : Option Addr) (c0 : Nat) (l0 : List (S118)) (a1 : Int) (r1 : List Int) (r2 : List Int) (r3 : List Int) (r4 : Int) (w : World) (hr0 : Kd.C k118 w A0 l0.length l0) (hc0 : l0.length ≤ c0) (h : impl_MachineFor.f k l0 a1 = some (r1, r2, r3, r4)) :
    Calls Try.prog 54 #[.slice A0 l0.length c0, .int .i64 a1] w fun e w' => ∃ v0_ v1_ v2_ : Value, e = .returned (.tuple #[.agg #[v0_, v1_, v2_], .int .i64 r4]) ∧ Kd.R (Kd.int .i16) 38 w' w.heap.size (fun k_ => some k_ ≠ (v1_ : Value).ownBlock ∧ some k_ ≠ (v2_ : Value).ownBlock) v0_ r1 ∧ Kd.R (Kd.int .i16) 38 w' w.heap.size (fun k_ => some k_ ≠ (v0_ : Value).ownBlock ∧ some k_ ≠ (v2_ : Value).ownBlock) v1_ r2 ∧ Kd.R (Kd.int .i16) 38 w' w.heap.size (fun k_ => some k_ ≠ (v0_ : Value).ownBlock ∧ some k_ ≠ (v1_ : Value).ownBlock) v2_ r3 ∧ Below w.heap.size w w' := by
 have hu29 := Try.underlying29
 have HR0 := Aside0.mk hr0
 have HC0 := Aside0.mk hc0
 clear hr0 hc0
 have HB := Aside0.mk (Below.refl w.heap.size w)
 have H : ((slices_ContainsFunc_at_impl_MachineFor_c1.f k l0).bind fun t221 => ((impl_codeIf.f t221 1).bind fun t222 => ((impl_isSteps.f a1).bind fun t223 => (if t223 = true then ((impl_codeIf.f (decide ((l0.length : Int) > a1)) 2).bind fun t224 => ((impl_firstCode.f k (([t222, t224] : List Int))).bind fun t228 => (if t228 = 0 then ((impl_machineFor.f k l0 a1).bind fun bt229 => (some (bt229.1, bt229.2.1, bt229.2.2, 0))) else (some (([] : List Int), ([] : List Int), ([] : List Int), t228))))) else ((impl_codeIf.f true 2).bind fun t238 => ((impl_firstCode.f k (([t222, t238] : List Int))).bind fun t242 => (if t242 = 0 then ((impl_machineFor.f k l0 a1).bind fun bt243 => (some (bt243.1, bt243.2.1, bt243.2.2, 0))) else (some (([] : List Int), ([] : List Int), ([] : List Int), t242))))))))) = some (r1, r2, r3, r4) := h
 clear h
 replace H := Option.bind_eq_some_iff.mp H
 obtain ⟨t221, A30, H⟩ := H
 replace H : ((impl_codeIf.f t221 1).bind fun t222 => ((impl_isSteps.f a1).bind fun t223 => (if t223 = true then ((impl_codeIf.f (decide ((l0.length : Int) > a1)) 2).bind fun t224 => ((impl_firstCode.f k (([t222, t224] : List Int))).bind fun t228 => (if t228 = 0 then ((impl_machineFor.f k l0 a1).bind fun bt229 => (some (bt229.1, bt229.2.1, bt229.2.2, 0))) else (some (([] : List Int), ([] : List Int), ([] : List Int), t228))))) else ((impl_codeIf.f true 2).bind fun t238 => ((impl_firstCode.f k (([t222, t238] : List Int))).bind fun t242 => (if t242 = 0 then ((impl_machineFor.f k l0 a1).bind fun bt243 => (some (bt243.1, bt243.2.1, bt243.2.2, 0))) else (some (([] : List Int), ([] : List Int), ([] : List Int), t242)))))))) = some (r1, r2, r3, r4) := H
 have A3 := Aside0.mk A30
 clear A30
 replace H := Option.bind_eq_some_iff.mp H
 obtain ⟨t222, A40, H⟩ := H
 replace H : ((impl_isSteps.f a1).bind fun t223 => (if t223 = true then ((impl_codeIf.f (decide ((l0.length : Int) > a1)) 2).bind fun t224 => ((impl_firstCode.f k (([t222, t224] : List Int))).bind fun t228 => (if t228 = 0 then ((impl_machineFor.f k l0 a1).bind fun bt229 => (some (bt229.1, bt229.2.1, bt229.2.2, 0))) else (some (([] : List Int), ([] : List Int), ([] : List Int), t228))))) else ((impl_codeIf.f true 2).bind fun t238 => ((impl_firstCode.f k (([t222, t238] : List Int))).bind fun t242 => (if t242 = 0 then ((impl_machineFor.f k l0 a1).bind fun bt243 => (some (bt243.1, bt243.2.1, bt243.2.2, 0))) else (some (([] : List Int), ([] : List Int), ([] : List Int), t242))))))) = some (r1, r2, r3, r4) := H
 have A4 := Aside0.mk A40
 clear A40
 replace H := Option.bind_eq_some_iff.mp H
 obtain ⟨t223, A50, H⟩ := H
 replace H : (if t223 = true then ((impl_codeIf.f (decide ((l0.length : Int) > a1)) 2).bind fun t224 => ((impl_firstCode.f k (([t222, t224] : List Int))).bind fun t228 => (if t228 = 0 then ((impl_machineFor.f k l0 a1).bind fun bt229 => (some (bt229.1, bt229.2.1, bt229.2.2, 0))) else (some (([] : List Int), ([] : List Int), ([] : List Int), t228))))) else ((impl_codeIf.f true 2).bind fun t238 => ((impl_firstCode.f k (([t222, t238] : List Int))).bind fun t242 => (if t242 = 0 then ((impl_machineFor.f k l0 a1).bind fun bt243 => (some (bt243.1, bt243.2.1, bt243.2.2, 0))) else (some (([] : List Int), ([] : List Int), ([] : List Int), t242)))))) = some (r1, r2, r3, r4) := H
 have A5 := Aside0.mk A50
 clear A50
 by_cases c6 : t223 = true
 ·subst c6
  have H1 : ((impl_codeIf.f (decide ((l0.length : Int) > a1)) 2).bind fun t224 => ((impl_firstCode.f k (([t222, t224] : List Int))).bind fun t228 => (if t228 = 0 then ((impl_machineFor.f k l0 a1).bind fun bt229 => (some (bt229.1, bt229.2.1, bt229.2.2, 0))) else (some (([] : List Int), ([] : List Int), ([] : List Int), t228))))) = some (r1, r2, r3, r4) := by rw [if_pos rfl] at H; exact H
  clear H
  have H := H1
  clear H1
  replace H := Option.bind_eq_some_iff.mp H
  obtain ⟨t224, A70, H⟩ := H
  replace H : ((impl_firstCode.f k (([t222, t224] : List Int))).bind fun t228 => (if t228 = 0 then ((impl_machineFor.f k l0 a1).bind fun bt229 => (some (bt229.1, bt229.2.1, bt229.2.2, 0))) else (some (([] : List Int), ([] : List Int), ([] : List Int), t228)))) = some (r1, r2, r3, r4) := H
  have A7 := Aside0.mk A70
  clear A70
  obtain ⟨y225, hy225⟩ : ∃ y_ : List Int, y_ = (([t222, t224] : List Int)) := ⟨_, rfl⟩
  replace H : ((impl_firstCode.f k y225).bind fun t228 => (if t228 = 0 then ((impl_machineFor.f k l0 a1).bind fun bt229 => (some (bt229.1, bt229.2.1, bt229.2.2, 0))) else (some (([] : List Int), ([] : List Int), ([] : List Int), t228)))) = some (r1, r2, r3, r4) := by first | (rw [hy225]; with_reducible exact H) | (have H2_ := (Option.bind_some _ _).symm.trans H; rw [hy225]; with_reducible exact H2_) | (have H2_ := (Option.bind_some _ _).symm.trans H; with_reducible exact H2_) | with_reducible exact H | (rw [hy225]; exact H) | exact H
  have Ny225 := Aside0.mk hy225
  clear hy225
  replace H := Option.bind_eq_some_iff.mp H
  obtain ⟨t228, A80, H⟩ := H
  replace H : (if t228 = 0 then ((impl_machineFor.f k l0 a1).bind fun bt229 => (some (bt229.1, bt229.2.1, bt229.2.2, 0))) else (some (([] : List Int), ([] : List Int), ([] : List Int), t228))) = some (r1, r2, r3, r4) := H
  have A8 := Aside0.mk A80
  clear A80
  by_cases c9 : t228 = 0
  ·rw [if_pos c9] at H
   have c9b0 : (t228 == 0) = true := beq_iff_eq.mpr c9
   have c9b1 : (t228 != 0) = false := bne_eq_false_iff_eq.mpr c9
   clear c9
   replace H := Option.bind_eq_some_iff.mp H
   obtain ⟨⟨t229, t232, t235⟩, A100, H⟩ := H
   replace H : (some (t229, t232, t235, 0)) = some (r1, r2, r3, r4) := H
   have A10 := Aside0.mk A100
   clear A100
   simp only [Option.some.injEq, Prod.mk.injEq] at H
   obtain ⟨rfl, rfl, rfl, rfl⟩ := H
   go_enter Try.func54, Try.ntmps54
   go_wp2_with (first | ((with_reducible refine gate_dst (N := 4) rfl ?_); (try (refine gate_guard (by rfl) ?_; dsimp only)); refine box_event ?hg (N := 4) ?hd (cs := #[.slice none 0 0, .slice none 0 0, .slice none 0 0]) (t := 29) ?hr ?_; (case hd => rfl); (case hg => rfl); (case hr => exact a161_); intro gb220 hg w11 hbox hb; have n0_ := Aside0.mk (below_step a151_ hb); have n1_ := Aside0.mk (hbox); have n2_ := Aside0.mk ((a155_ : w.heap.size ≤ gb220)); have n3_ := Aside0.mk ((a155_ : w.heap.size ≤ gb220)); clear HB; have HB := n0_; have BK220 := n1_; have GW220 := n2_; have GE220 := n3_; clear n0_ n1_ n2_ n3_; clear hb hbox hg) | ((with_reducible refine gate_callee (f := 118) rfl ?_); refine goesL_ (some 9) rfl rfl Try.func118 (by kernel_rfl) rfl #[.slice A0 l0.length c0, Value.func (.func 119) #[] #[]] rfl a149_ ?_; (with_reducible refine (slices_ContainsFunc_at_impl_MachineFor_c1.calls k _ _ l0 t221 _ ?side1 ?side2 A3.out).mono ?_); (case side1 => exact a156_); (case side2 => exact HC0.out); rintro e w12 ⟨rfl, hb⟩; refine ⟨_, rfl, ?_⟩; have n0_ := Aside0.mk (blk_below (g := gb220) a150_ hb); have n1_ := Aside0.mk (below_step a148_ hb); clear BK220; clear HB; have BK220 := n0_; have HB := n1_; clear n0_ n1_; (try clear hb); (try clear hb2); (try clear hk); (try clear hi)) | ((with_reducible refine gate_callee (f := 107) rfl ?_); refine goesL_ (some 11) rfl rfl Try.func107 (by kernel_rfl) rfl #[.bool t221, .int .i64 1] rfl a149_ ?_; (with_reducible refine (impl_codeIf.calls t221 1 t222 _ A4.out).mono ?_); rintro e w' ⟨rfl, ⟨nd, rfl⟩⟩; refine ⟨_, rfl, ?_⟩; (try rw [World.drewN_drewN]); (try rw [World.drewN_drewN]); (try rw [World.drewN_drewN]); (try (rw [drewN_self w12]; generalize hq_ : World.drewN w12 _ = w12; have n0_ : Aside0 (w12.heap[gb220]? = some (.cells #[.slice none 0 0, .slice none 0 0, .slice none 0 0] 29 (0, 0))) := ⟨by rw [← hq_]; exact a150_⟩; have n1_ : Aside0 (Below w.heap.size w w12) := ⟨by rw [← hq_]; exact a148_⟩; clear BK220 HB hq_; have BK220 := n0_; have HB := n1_; clear n0_ n1_))) | ((with_reducible refine gate_callee (f := 120) rfl ?_); refine goesL_ (some 13) rfl rfl Try.func120 (by kernel_rfl) rfl #[.int .i64 a1] rfl a149_ ?_; (with_reducible refine (impl_isSteps.calls a1 true _ A5.out).mono ?_); rintro e w' ⟨rfl, ⟨nd, rfl⟩⟩; refine ⟨_, rfl, ?_⟩; (try rw [World.drewN_drewN]); (try rw [World.drewN_drewN]); (try rw [World.drewN_drewN]); (try (rw [drewN_self w12]; generalize hq_ : World.drewN w12 _ = w12; have n0_ : Aside0 (w12.heap[gb220]? = some (.cells #[.slice none 0 0, .slice none 0 0, .slice none 0 0] 29 (0, 0))) := ⟨by rw [← hq_]; exact a150_⟩; have n1_ : Aside0 (Below w.heap.size w w12) := ⟨by rw [← hq_]; exact a148_⟩; clear BK220 HB hq_; have BK220 := n0_; have HB := n1_; clear n0_ n1_))) | ((with_reducible refine gate_callee (f := 107) rfl ?_); refine goesL_ (some 21) rfl rfl Try.func107 (by kernel_rfl) rfl #[.bool (decide ((l0.length : Int) > a1)), .int .i64 2] rfl a149_ ?_; (with_reducible refine (impl_codeIf.calls (decide ((l0.length : Int) > a1)) 2 t224 _ A7.out).mono ?_); rintro e w' ⟨rfl, ⟨nd, rfl⟩⟩; refine ⟨_, rfl, ?_⟩; (try rw [World.drewN_drewN]); (try rw [World.drewN_drewN]); (try rw [World.drewN_drewN]); (try (rw [drewN_self w12]; generalize hq_ : World.drewN w12 _ = w12; have n0_ : Aside0 (w12.heap[gb220]? = some (.cells #[.slice none 0 0, .slice none 0 0, .slice none 0 0] 29 (0, 0))) := ⟨by rw [← hq_]; exact a150_⟩; have n1_ : Aside0 (Below w.heap.size w w12) := ⟨by rw [← hq_]; exact a148_⟩; clear BK220 HB hq_; have BK220 := n0_; have HB := n1_; clear n0_ n1_))) | ((with_reducible refine gate_dst (N := 22) rfl ?_); (try (refine gate_guard (by rfl) ?_; dsimp only)); refine Kd.R_lit (Kd.int .i64) _ 2 ?hg (N := 22) ?hd (xs := ([t222, t224] : List Int)) (inner := [.int .i64 t222, .int .i64 t224]) (ok := fun _ => True) (okp := fun _ => True) ?hr ?hp (fun _ hk => hk) trivial (Below.refl _ _) (Nat.le_refl _) (by simp) ?_; (case hd => rfl); (case hg => rfl); (case hr => exact a161_); (case hp => exact a159_); intro v226 w13 ho14 hb hg_ hnew_; clear hg_ hnew_; (first | rw [← Ny225.out] at ho14 | (simp only [Int.reduceToNat] at ho14; rw [← Ny225.out] at ho14)); have n0_ := Aside0.mk (Kd.R_lower ho14 (below_size a148_)); have n1_ := Aside0.mk (blk_below (g := gb220) a150_ hb); have n2_ := Aside0.mk (below_step a148_ hb); clear BK220; clear HB; have HO227 := n0_; have BK220 := n1_; have HB := n2_; clear n0_ n1_ n2_; clear hb ho14; obtain ⟨Ao15, co15, eo15⟩ := Kd.R_slice HO227.out; subst eo15) | ((with_reducible refine gate_callee (f := 106) rfl ?_); refine goesL_ (some 23) rfl rfl Try.func106 (by kernel_rfl) rfl #[.slice Ao15 y225.length co15] rfl a149_ ?_; (with_reducible refine (impl_firstCode.calls k _ _ y225 t228 _ ?side1 ?side2 A8.out).mono ?_); (case side1 => exact a157_); (case side2 => exact (Kd.R_reads' HO227.out).2.1); rintro e w' ⟨rfl, ⟨nd, rfl⟩⟩; refine ⟨_, rfl, ?_⟩; (try rw [World.drewN_drewN]); (try rw [World.drewN_drewN]); (try rw [World.drewN_drewN]); (try (rw [drewN_self w13]; generalize hq_ : World.drewN w13 _ = w13; have n0_ : Aside0 (Kd.R (Kd.int .i64) 2 w13 w.heap.size (fun _ => True) (.slice Ao15 y225.length co15) y225) := ⟨by rw [← hq_]; exact a153_⟩; have n1_ : Aside0 (w13.heap[gb220]? = some (.cells #[.slice none 0 0, .slice none 0 0, .slice none 0 0] 29 (0, 0))) := ⟨by rw [← hq_]; exact a150_⟩; have n2_ : Aside0 (Below w.heap.size w w13) := ⟨by rw [← hq_]; exact a148_⟩; clear HO227 BK220 HB hq_; have HO227 := n0_; have BK220 := n1_; have HB := n2_; clear n0_ n1_ n2_))) | ((with_reducible refine gate_callee (f := 121) rfl ?_); refine goesL_ (some 30) rfl rfl Try.func121 (by kernel_rfl) rfl #[.slice A0 l0.length c0, .int .i64 a1] rfl a149_ ?_; (with_reducible refine (impl_machineFor.calls k _ _ l0 a1 t229 t232 t235 _ ?side1 ?side2 A10.out).mono ?_); (case side1 => exact a156_); (case side2 => exact HC0.out); rintro e w16 ⟨v230, v233, v236, rfl, ho0, ho1, ho2, hb⟩; refine ⟨_, rfl, ?_⟩; have n0_ := Aside0.mk (Kd.R_below a153_ hb); have n1_ := Aside0.mk (Kd.R_lower ho0 (below_size a148_)); have n2_ := Aside0.mk (Kd.R_lower ho1 (below_size a148_)); have n3_ := Aside0.mk (Kd.R_lower ho2 (below_size a148_)); have n4_ := Aside0.mk (blk_below (g := gb220) a150_ hb); have n5_ := Aside0.mk (below_step a148_ hb); clear HO227; clear BK220; clear HB; have HO227 := n0_; have HO231 := n1_; have HO234 := n2_; have HO237 := n3_; have BK220 := n4_; have HB := n5_; clear n0_ n1_ n2_ n3_ n4_ n5_; (try clear hb); (try clear hb2); (try clear hk); (try clear hi); (try clear ho0); (try clear ho1); (try clear ho2); obtain ⟨Ao17, co17, eo17⟩ := Kd.R_slice HO231.out; subst eo17; have hcz18_0 : w16.cell? ⟨gb220, 0, none⟩ = some (.slice none 0 0) := (blk_cell BK220.out 0).trans rfl; have hcz18_1 : w16.cell? ⟨gb220, 1, none⟩ = some (.slice none 0 0) := (blk_cell BK220.out 1).trans rfl; have hcz18_2 : w16.cell? ⟨gb220, 2, none⟩ = some (.slice none 0 0) := (blk_cell BK220.out 2).trans rfl; have hfz18_0 := blk_frozen BK220.out 0; have hfz18_1 := blk_frozen BK220.out 1; have hfz18_2 := blk_frozen BK220.out 2; obtain ⟨Ao19, co19, eo19⟩ := Kd.R_slice HO234.out; subst eo19; obtain ⟨Ao20, co20, eo20⟩ := Kd.R_slice HO237.out; subst eo20))
   refine bodyPost_ret (results_ct rfl _ _ gb220 29 #[.slice Ao17 t229.length co17, .slice Ao19 t232.length co19, .slice Ao20 t235.length co20] (0, 0) _ rfl (by (with_reducible repeat (first | refine blk_drewN ?_ _ | refine blk_drew ?_ | refine blk_alloc ?_ _)); refine blk_put (cs := #[.slice Ao17 t229.length co17, .slice Ao19 t232.length co19, .slice none 0 0]) ?_ 2 _ rfl; (with_reducible repeat (first | refine blk_drewN ?_ _ | refine blk_drew ?_ | refine blk_alloc ?_ _)); refine blk_put (cs := #[.slice Ao17 t229.length co17, .slice none 0 0, .slice none 0 0]) ?_ 1 _ rfl; (with_reducible repeat (first | refine blk_drewN ?_ _ | refine blk_drew ?_ | refine blk_alloc ?_ _)); refine blk_put (cs := #[.slice none 0 0, .slice none 0 0, .slice none 0 0]) ?_ 0 _ rfl; (with_reducible repeat (first | refine blk_drewN ?_ _ | refine blk_drew ?_ | refine blk_alloc ?_ _)); exact BK220.out) Try.underlying29 rfl (by kernel_rfl)) rfl ?_
   exact ⟨_, _, _, by first | rfl | (simp [errW_none, errW_some] <;> rfl) | (simp [*, errW_none, errW_some] <;> rfl), by (with_reducible repeat (first | apply Kd.R_alloc | apply Kd.R_drewN | apply Kd.R_drew)); exact Kd.R_mono (Kd.R_far (p := ⟨gb220, 2, none⟩) (Kd.R_far (p := ⟨gb220, 1, none⟩) (Kd.R_far (p := ⟨gb220, 0, none⟩) (Kd.R_types HO231.out BK220.out (by decide)) (fun _ hk => hk.2) (.slice Ao17 t229.length co17)) (fun _ hk => hk.2) (.slice Ao19 t232.length co19)) (fun _ hk => hk.2) (.slice Ao20 t235.length co20)) (fun _ hk => ⟨hk.1.1, hk.1.2⟩), by (with_reducible repeat (first | apply Kd.R_alloc | apply Kd.R_drewN | apply Kd.R_drew)); exact Kd.R_mono (Kd.R_far (p := ⟨gb220, 2, none⟩) (Kd.R_far (p := ⟨gb220, 1, none⟩) (Kd.R_far (p := ⟨gb220, 0, none⟩) (Kd.R_types HO234.out BK220.out (by decide)) (fun _ hk => hk.2) (.slice Ao17 t229.length co17)) (fun _ hk => hk.2) (.slice Ao19 t232.length co19)) (fun _ hk => hk.2) (.slice Ao20 t235.length co20)) (fun _ hk => ⟨hk.1.1, hk.1.2⟩), by (with_reducible repeat (first | apply Kd.R_alloc | apply Kd.R_drewN | apply Kd.R_drew)); exact Kd.R_mono (Kd.R_far (p := ⟨gb220, 2, none⟩) (Kd.R_far (p := ⟨gb220, 1, none⟩) (Kd.R_far (p := ⟨gb220, 0, none⟩) (Kd.R_types HO237.out BK220.out (by decide)) (fun _ hk => hk.2) (.slice Ao17 t229.length co17)) (fun _ hk => hk.2) (.slice Ao19 t232.length co19)) (fun _ hk => hk.2) (.slice Ao20 t235.length co20)) (fun _ hk => ⟨hk.1.1, hk.1.2⟩), by repeat (first | (with_reducible first | exact HB.out | apply below_alloc | apply pw_below_drewN | apply below_drew1 | refine below_set ?_ GE220.out) | exact HB.out)⟩
  ·rw [if_neg c9] at H
   have c9b0 : (t228 == 0) = false := beq_eq_false_iff_ne.mpr c9
   have c9b1 : (t228 != 0) = true := bne_iff_ne.mpr c9
   simp only [Option.some.injEq, Prod.mk.injEq] at H
   obtain ⟨rfl, rfl, rfl, rfl⟩ := H
   go_enter Try.func54, Try.ntmps54
   go_wp2_with (first | ((with_reducible refine gate_dst (N := 4) rfl ?_); (try (refine gate_guard (by rfl) ?_; dsimp only)); refine box_event ?hg (N := 4) ?hd (cs := #[.slice none 0 0, .slice none 0 0, .slice none 0 0]) (t := 29) ?hr ?_; (case hd => rfl); (case hg => rfl); (case hr => exact a161_); intro gb220 hg w21 hbox hb; have n0_ := Aside0.mk (below_step a151_ hb); have n1_ := Aside0.mk (hbox); have n2_ := Aside0.mk ((a155_ : w.heap.size ≤ gb220)); have n3_ := Aside0.mk ((a155_ : w.heap.size ≤ gb220)); clear HB; have HB := n0_; have BK220 := n1_; have GW220 := n2_; have GE220 := n3_; clear n0_ n1_ n2_ n3_; clear hb hbox hg) | ((with_reducible refine gate_callee (f := 118) rfl ?_); refine goesL_ (some 9) rfl rfl Try.func118 (by kernel_rfl) rfl #[.slice A0 l0.length c0, Value.func (.func 119) #[] #[]] rfl a149_ ?_; (with_reducible refine (slices_ContainsFunc_at_impl_MachineFor_c1.calls k _ _ l0 t221 _ ?side1 ?side2 A3.out).mono ?_); (case side1 => exact a156_); (case side2 => exact HC0.out); rintro e w22 ⟨rfl, hb⟩; refine ⟨_, rfl, ?_⟩; have n0_ := Aside0.mk (blk_below (g := gb220) a150_ hb); have n1_ := Aside0.mk (below_step a148_ hb); clear BK220; clear HB; have BK220 := n0_; have HB := n1_; clear n0_ n1_; (try clear hb); (try clear hb2); (try clear hk); (try clear hi)) | ((with_reducible refine gate_callee (f := 107) rfl ?_); refine goesL_ (some 11) rfl rfl Try.func107 (by kernel_rfl) rfl #[.bool t221, .int .i64 1] rfl a149_ ?_; (with_reducible refine (impl_codeIf.calls t221 1 t222 _ A4.out).mono ?_); rintro e w' ⟨rfl, ⟨nd, rfl⟩⟩; refine ⟨_, rfl, ?_⟩; (try rw [World.drewN_drewN]); (try rw [World.drewN_drewN]); (try rw [World.drewN_drewN]); (try (rw [drewN_self w22]; generalize hq_ : World.drewN w22 _ = w22; have n0_ : Aside0 (w22.heap[gb220]? = some (.cells #[.slice none 0 0, .slice none 0 0, .slice none 0 0] 29 (0, 0))) := ⟨by rw [← hq_]; exact a150_⟩; have n1_ : Aside0 (Below w.heap.size w w22) := ⟨by rw [← hq_]; exact a148_⟩; clear BK220 HB hq_; have BK220 := n0_; have HB := n1_; clear n0_ n1_))) | ((with_reducible refine gate_callee (f := 120) rfl ?_); refine goesL_ (some 13) rfl rfl Try.func120 (by kernel_rfl) rfl #[.int .i64 a1] rfl a149_ ?_; (with_reducible refine (impl_isSteps.calls a1 true _ A5.out).mono ?_); rintro e w' ⟨rfl, ⟨nd, rfl⟩⟩; refine ⟨_, rfl, ?_⟩; (try rw [World.drewN_drewN]); (try rw [World.drewN_drewN]); (try rw [World.drewN_drewN]); (try (rw [drewN_self w22]; generalize hq_ : World.drewN w22 _ = w22; have n0_ : Aside0 (w22.heap[gb220]? = some (.cells #[.slice none 0 0, .slice none 0 0, .slice none 0 0] 29 (0, 0))) := ⟨by rw [← hq_]; exact a150_⟩; have n1_ : Aside0 (Below w.heap.size w w22) := ⟨by rw [← hq_]; exact a148_⟩; clear BK220 HB hq_; have BK220 := n0_; have HB := n1_; clear n0_ n1_))) | ((with_reducible refine gate_callee (f := 107) rfl ?_); refine goesL_ (some 21) rfl rfl Try.func107 (by kernel_rfl) rfl #[.bool (decide ((l0.length : Int) > a1)), .int .i64 2] rfl a149_ ?_; (with_reducible refine (impl_codeIf.calls (decide ((l0.length : Int) > a1)) 2 t224 _ A7.out).mono ?_); rintro e w' ⟨rfl, ⟨nd, rfl⟩⟩; refine ⟨_, rfl, ?_⟩; (try rw [World.drewN_drewN]); (try rw [World.drewN_drewN]); (try rw [World.drewN_drewN]); (try (rw [drewN_self w22]; generalize hq_ : World.drewN w22 _ = w22; have n0_ : Aside0 (w22.heap[gb220]? = some (.cells #[.slice none 0 0, .slice none 0 0, .slice none 0 0] 29 (0, 0))) := ⟨by rw [← hq_]; exact a150_⟩; have n1_ : Aside0 (Below w.heap.size w w22) := ⟨by rw [← hq_]; exact a148_⟩; clear BK220 HB hq_; have BK220 := n0_; have HB := n1_; clear n0_ n1_))) | ((with_reducible refine gate_dst (N := 22) rfl ?_); (try (refine gate_guard (by rfl) ?_; dsimp only)); refine Kd.R_lit (Kd.int .i64) _ 2 ?hg (N := 22) ?hd (xs := ([t222, t224] : List Int)) (inner := [.int .i64 t222, .int .i64 t224]) (ok := fun _ => True) (okp := fun _ => True) ?hr ?hp (fun _ hk => hk) trivial (Below.refl _ _) (Nat.le_refl _) (by simp) ?_; (case hd => rfl); (case hg => rfl); (case hr => exact a161_); (case hp => exact a159_); intro v226 w23 ho24 hb hg_ hnew_; clear hg_ hnew_; (first | rw [← Ny225.out] at ho24 | (simp only [Int.reduceToNat] at ho24; rw [← Ny225.out] at ho24)); have n0_ := Aside0.mk (Kd.R_lower ho24 (below_size a148_)); have n1_ := Aside0.mk (blk_below (g := gb220) a150_ hb); have n2_ := Aside0.mk (below_step a148_ hb); clear BK220; clear HB; have HO227 := n0_; have BK220 := n1_; have HB := n2_; clear n0_ n1_ n2_; clear hb ho24; obtain ⟨Ao25, co25, eo25⟩ := Kd.R_slice HO227.out; subst eo25) | ((with_reducible refine gate_callee (f := 106) rfl ?_); refine goesL_ (some 23) rfl rfl Try.func106 (by kernel_rfl) rfl #[.slice Ao25 y225.length co25] rfl a149_ ?_; (with_reducible refine (impl_firstCode.calls k _ _ y225 t228 _ ?side1 ?side2 A8.out).mono ?_); (case side1 => exact a157_); (case side2 => exact (Kd.R_reads' HO227.out).2.1); rintro e w' ⟨rfl, ⟨nd, rfl⟩⟩; refine ⟨_, rfl, ?_⟩; (try rw [World.drewN_drewN]); (try rw [World.drewN_drewN]); (try rw [World.drewN_drewN]); (try (rw [drewN_self w23]; generalize hq_ : World.drewN w23 _ = w23; have n0_ : Aside0 (Kd.R (Kd.int .i64) 2 w23 w.heap.size (fun _ => True) (.slice Ao25 y225.length co25) y225) := ⟨by rw [← hq_]; exact a153_⟩; have n1_ : Aside0 (w23.heap[gb220]? = some (.cells #[.slice none 0 0, .slice none 0 0, .slice none 0 0] 29 (0, 0))) := ⟨by rw [← hq_]; exact a150_⟩; have n2_ : Aside0 (Below w.heap.size w w23) := ⟨by rw [← hq_]; exact a148_⟩; clear HO227 BK220 HB hq_; have HO227 := n0_; have BK220 := n1_; have HB := n2_; clear n0_ n1_ n2_)); have hcz26_0 : w23.cell? ⟨gb220, 0, none⟩ = some (.slice none 0 0) := (blk_cell BK220.out 0).trans rfl; have hcz26_1 : w23.cell? ⟨gb220, 1, none⟩ = some (.slice none 0 0) := (blk_cell BK220.out 1).trans rfl; have hcz26_2 : w23.cell? ⟨gb220, 2, none⟩ = some (.slice none 0 0) := (blk_cell BK220.out 2).trans rfl; have hfz26_0 := blk_frozen BK220.out 0; have hfz26_1 := blk_frozen BK220.out 1; have hfz26_2 := blk_frozen BK220.out 2))
   refine bodyPost_ret (results_ct rfl _ _ gb220 29 #[.slice none 0 0, .slice none 0 0, .slice none 0 0] (0, 0) _ rfl a152_ Try.underlying29 rfl (by kernel_rfl)) rfl ?_
   exact ⟨_, _, _, by first | rfl | (simp [errW_none, errW_some] <;> rfl) | (simp [*, errW_none, errW_some] <;> rfl), by first | exact Kd.R_nil _ _ _ _ _ | exact Kd.N_nil _ _ _ _ _ | exact Kd.V_nil _ _ _ _ _ | exact Kd.Q_nil _ _ _ _ _ | exact Kd.S_nil _ _ _ _ _, by first | exact Kd.R_nil _ _ _ _ _ | exact Kd.N_nil _ _ _ _ _ | exact Kd.V_nil _ _ _ _ _ | exact Kd.Q_nil _ _ _ _ _ | exact Kd.S_nil _ _ _ _ _, by first | exact Kd.R_nil _ _ _ _ _ | exact Kd.N_nil _ _ _ _ _ | exact Kd.V_nil _ _ _ _ _ | exact Kd.Q_nil _ _ _ _ _ | exact Kd.S_nil _ _ _ _ _, by repeat (first | (with_reducible first | exact HB.out | apply below_alloc | apply pw_below_drewN | apply below_drew1 | refine below_set ?_ GE220.out) | exact HB.out)⟩
 ·replace c6 := Bool.eq_false_iff.mpr c6
  subst c6
  have H1 : ((impl_codeIf.f true 2).bind fun t238 => ((impl_firstCode.f k (([t222, t238] : List Int))).bind fun t242 => (if t242 = 0 then ((impl_machineFor.f k l0 a1).bind fun bt243 => (some (bt243.1, bt243.2.1, bt243.2.2, 0))) else (some (([] : List Int), ([] : List Int), ([] : List Int), t242))))) = some (r1, r2, r3, r4) := by rw [if_neg (show ¬ (false = true) by decide)] at H; exact H
  clear H
  have H := H1
  clear H1
  replace H := Option.bind_eq_some_iff.mp H
  obtain ⟨t238, A270, H⟩ := H
  replace H : ((impl_firstCode.f k (([t222, t238] : List Int))).bind fun t242 => (if t242 = 0 then ((impl_machineFor.f k l0 a1).bind fun bt243 => (some (bt243.1, bt243.2.1, bt243.2.2, 0))) else (some (([] : List Int), ([] : List Int), ([] : List Int), t242)))) = some (r1, r2, r3, r4) := H
  have A27 := Aside0.mk A270
  clear A270
  obtain ⟨y239, hy239⟩ : ∃ y_ : List Int, y_ = (([t222, t238] : List Int)) := ⟨_, rfl⟩
  replace H : ((impl_firstCode.f k y239).bind fun t242 => (if t242 = 0 then ((impl_machineFor.f k l0 a1).bind fun bt243 => (some (bt243.1, bt243.2.1, bt243.2.2, 0))) else (some (([] : List Int), ([] : List Int), ([] : List Int), t242)))) = some (r1, r2, r3, r4) := by first | (rw [hy239]; with_reducible exact H) | (have H2_ := (Option.bind_some _ _).symm.trans H; rw [hy239]; with_reducible exact H2_) | (have H2_ := (Option.bind_some _ _).symm.trans H; with_reducible exact H2_) | with_reducible exact H | (rw [hy239]; exact H) | exact H
  have Ny239 := Aside0.mk hy239
  clear hy239
  replace H := Option.bind_eq_some_iff.mp H
  obtain ⟨t242, A280, H⟩ := H
  replace H : (if t242 = 0 then ((impl_machineFor.f k l0 a1).bind fun bt243 => (some (bt243.1, bt243.2.1, bt243.2.2, 0))) else (some (([] : List Int), ([] : List Int), ([] : List Int), t242))) = some (r1, r2, r3, r4) := H
  have A28 := Aside0.mk A280
  clear A280
  by_cases c29 : t242 = 0
  ·rw [if_pos c29] at H
   have c29b0 : (t242 == 0) = true := beq_iff_eq.mpr c29
   have c29b1 : (t242 != 0) = false := bne_eq_false_iff_eq.mpr c29
   clear c29
   replace H := Option.bind_eq_some_iff.mp H
   obtain ⟨⟨t243, t246, t249⟩, A300, H⟩ := H
   replace H : (some (t243, t246, t249, 0)) = some (r1, r2, r3, r4) := H
   have A30 := Aside0.mk A300
   clear A300
   simp only [Option.some.injEq, Prod.mk.injEq] at H
   obtain ⟨rfl, rfl, rfl, rfl⟩ := H
   go_enter Try.func54, Try.ntmps54
   go_wp2_with (first | ((with_reducible refine gate_dst (N := 4) rfl ?_); (try (refine gate_guard (by rfl) ?_; dsimp only)); refine box_event ?hg (N := 4) ?hd (cs := #[.slice none 0 0, .slice none 0 0, .slice none 0 0]) (t := 29) ?hr ?_; (case hd => rfl); (case hg => rfl); (case hr => exact a161_); intro gb220 hg w31 hbox hb; have n0_ := Aside0.mk (below_step a151_ hb); have n1_ := Aside0.mk (hbox); have n2_ := Aside0.mk ((a155_ : w.heap.size ≤ gb220)); have n3_ := Aside0.mk ((a155_ : w.heap.size ≤ gb220)); clear HB; have HB := n0_; have BK220 := n1_; have GW220 := n2_; have GE220 := n3_; clear n0_ n1_ n2_ n3_; clear hb hbox hg) | ((with_reducible refine gate_callee (f := 118) rfl ?_); refine goesL_ (some 9) rfl rfl Try.func118 (by kernel_rfl) rfl #[.slice A0 l0.length c0, Value.func (.func 119) #[] #[]] rfl a149_ ?_; (with_reducible refine (slices_ContainsFunc_at_impl_MachineFor_c1.calls k _ _ l0 t221 _ ?side1 ?side2 A3.out).mono ?_); (case side1 => exact a156_); (case side2 => exact HC0.out); rintro e w32 ⟨rfl, hb⟩; refine ⟨_, rfl, ?_⟩; have n0_ := Aside0.mk (blk_below (g := gb220) a150_ hb); have n1_ := Aside0.mk (below_step a148_ hb); clear BK220; clear HB; have BK220 := n0_; have HB := n1_; clear n0_ n1_; (try clear hb); (try clear hb2); (try clear hk); (try clear hi)) | ((with_reducible refine gate_callee (f := 107) rfl ?_); refine goesL_ (some 11) rfl rfl Try.func107 (by kernel_rfl) rfl #[.bool t221, .int .i64 1] rfl a149_ ?_; (with_reducible refine (impl_codeIf.calls t221 1 t222 _ A4.out).mono ?_); rintro e w' ⟨rfl, ⟨nd, rfl⟩⟩; refine ⟨_, rfl, ?_⟩; (try rw [World.drewN_drewN]); (try rw [World.drewN_drewN]); (try rw [World.drewN_drewN]); (try (rw [drewN_self w32]; generalize hq_ : World.drewN w32 _ = w32; have n0_ : Aside0 (w32.heap[gb220]? = some (.cells #[.slice none 0 0, .slice none 0 0, .slice none 0 0] 29 (0, 0))) := ⟨by rw [← hq_]; exact a150_⟩; have n1_ : Aside0 (Below w.heap.size w w32) := ⟨by rw [← hq_]; exact a148_⟩; clear BK220 HB hq_; have BK220 := n0_; have HB := n1_; clear n0_ n1_))) | ((with_reducible refine gate_callee (f := 120) rfl ?_); refine goesL_ (some 13) rfl rfl Try.func120 (by kernel_rfl) rfl #[.int .i64 a1] rfl a149_ ?_; (with_reducible refine (impl_isSteps.calls a1 false _ A5.out).mono ?_); rintro e w' ⟨rfl, ⟨nd, rfl⟩⟩; refine ⟨_, rfl, ?_⟩; (try rw [World.drewN_drewN]); (try rw [World.drewN_drewN]); (try rw [World.drewN_drewN]); (try (rw [drewN_self w32]; generalize hq_ : World.drewN w32 _ = w32; have n0_ : Aside0 (w32.heap[gb220]? = some (.cells #[.slice none 0 0, .slice none 0 0, .slice none 0 0] 29 (0, 0))) := ⟨by rw [← hq_]; exact a150_⟩; have n1_ : Aside0 (Below w.heap.size w w32) := ⟨by rw [← hq_]; exact a148_⟩; clear BK220 HB hq_; have BK220 := n0_; have HB := n1_; clear n0_ n1_))) | ((with_reducible refine gate_callee (f := 107) rfl ?_); refine goesL_ (some 21) rfl rfl Try.func107 (by kernel_rfl) rfl #[.bool true, .int .i64 2] rfl a149_ ?_; (with_reducible refine (impl_codeIf.calls true 2 t238 _ A27.out).mono ?_); rintro e w' ⟨rfl, ⟨nd, rfl⟩⟩; refine ⟨_, rfl, ?_⟩; (try rw [World.drewN_drewN]); (try rw [World.drewN_drewN]); (try rw [World.drewN_drewN]); (try (rw [drewN_self w32]; generalize hq_ : World.drewN w32 _ = w32; have n0_ : Aside0 (w32.heap[gb220]? = some (.cells #[.slice none 0 0, .slice none 0 0, .slice none 0 0] 29 (0, 0))) := ⟨by rw [← hq_]; exact a150_⟩; have n1_ : Aside0 (Below w.heap.size w w32) := ⟨by rw [← hq_]; exact a148_⟩; clear BK220 HB hq_; have BK220 := n0_; have HB := n1_; clear n0_ n1_))) | ((with_reducible refine gate_dst (N := 22) rfl ?_); (try (refine gate_guard (by rfl) ?_; dsimp only)); refine Kd.R_lit (Kd.int .i64) _ 2 ?hg (N := 22) ?hd (xs := ([t222, t238] : List Int)) (inner := [.int .i64 t222, .int .i64 t238]) (ok := fun _ => True) (okp := fun _ => True) ?hr ?hp (fun _ hk => hk) trivial (Below.refl _ _) (Nat.le_refl _) (by simp) ?_; (case hd => rfl); (case hg => rfl); (case hr => exact a161_); (case hp => exact a160_); intro v240 w33 ho34 hb hg_ hnew_; clear hg_ hnew_; (first | rw [← Ny239.out] at ho34 | (simp only [Int.reduceToNat] at ho34; rw [← Ny239.out] at ho34)); have n0_ := Aside0.mk (Kd.R_lower ho34 (below_size a148_)); have n1_ := Aside0.mk (blk_below (g := gb220) a150_ hb); have n2_ := Aside0.mk (below_step a148_ hb); clear BK220; clear HB; have HO241 := n0_; have BK220 := n1_; have HB := n2_; clear n0_ n1_ n2_; clear hb ho34; obtain ⟨Ao35, co35, eo35⟩ := Kd.R_slice HO241.out; subst eo35) | ((with_reducible refine gate_callee (f := 106) rfl ?_); refine goesL_ (some 23) rfl rfl Try.func106 (by kernel_rfl) rfl #[.slice Ao35 y239.length co35] rfl a149_ ?_; (with_reducible refine (impl_firstCode.calls k _ _ y239 t242 _ ?side1 ?side2 A28.out).mono ?_); (case side1 => exact a158_); (case side2 => exact (Kd.R_reads' HO241.out).2.1); rintro e w' ⟨rfl, ⟨nd, rfl⟩⟩; refine ⟨_, rfl, ?_⟩; (try rw [World.drewN_drewN]); (try rw [World.drewN_drewN]); (try rw [World.drewN_drewN]); (try (rw [drewN_self w33]; generalize hq_ : World.drewN w33 _ = w33; have n0_ : Aside0 (Kd.R (Kd.int .i64) 2 w33 w.heap.size (fun _ => True) (.slice Ao35 y239.length co35) y239) := ⟨by rw [← hq_]; exact a154_⟩; have n1_ : Aside0 (w33.heap[gb220]? = some (.cells #[.slice none 0 0, .slice none 0 0, .slice none 0 0] 29 (0, 0))) := ⟨by rw [← hq_]; exact a150_⟩; have n2_ : Aside0 (Below w.heap.size w w33) := ⟨by rw [← hq_]; exact a148_⟩; clear HO241 BK220 HB hq_; have HO241 := n0_; have BK220 := n1_; have HB := n2_; clear n0_ n1_ n2_))) | ((with_reducible refine gate_callee (f := 121) rfl ?_); refine goesL_ (some 30) rfl rfl Try.func121 (by kernel_rfl) rfl #[.slice A0 l0.length c0, .int .i64 a1] rfl a149_ ?_; (with_reducible refine (impl_machineFor.calls k _ _ l0 a1 t243 t246 t249 _ ?side1 ?side2 A30.out).mono ?_); (case side1 => exact a156_); (case side2 => exact HC0.out); rintro e w36 ⟨v244, v247, v250, rfl, ho0, ho1, ho2, hb⟩; refine ⟨_, rfl, ?_⟩; have n0_ := Aside0.mk (Kd.R_below a154_ hb); have n1_ := Aside0.mk (Kd.R_lower ho0 (below_size a148_)); have n2_ := Aside0.mk (Kd.R_lower ho1 (below_size a148_)); have n3_ := Aside0.mk (Kd.R_lower ho2 (below_size a148_)); have n4_ := Aside0.mk (blk_below (g := gb220) a150_ hb); have n5_ := Aside0.mk (below_step a148_ hb); clear HO241; clear BK220; clear HB; have HO241 := n0_; have HO245 := n1_; have HO248 := n2_; have HO251 := n3_; have BK220 := n4_; have HB := n5_; clear n0_ n1_ n2_ n3_ n4_ n5_; (try clear hb); (try clear hb2); (try clear hk); (try clear hi); (try clear ho0); (try clear ho1); (try clear ho2); obtain ⟨Ao37, co37, eo37⟩ := Kd.R_slice HO245.out; subst eo37; have hcz38_0 : w36.cell? ⟨gb220, 0, none⟩ = some (.slice none 0 0) := (blk_cell BK220.out 0).trans rfl; have hcz38_1 : w36.cell? ⟨gb220, 1, none⟩ = some (.slice none 0 0) := (blk_cell BK220.out 1).trans rfl; have hcz38_2 : w36.cell? ⟨gb220, 2, none⟩ = some (.slice none 0 0) := (blk_cell BK220.out 2).trans rfl; have hfz38_0 := blk_frozen BK220.out 0; have hfz38_1 := blk_frozen BK220.out 1; have hfz38_2 := blk_frozen BK220.out 2; obtain ⟨Ao39, co39, eo39⟩ := Kd.R_slice HO248.out; subst eo39; obtain ⟨Ao40, co40, eo40⟩ := Kd.R_slice HO251.out; subst eo40))
   refine bodyPost_ret (results_ct rfl _ _ gb220 29 #[.slice Ao37 t243.length co37, .slice Ao39 t246.length co39, .slice Ao40 t249.length co40] (0, 0) _ rfl (by (with_reducible repeat (first | refine blk_drewN ?_ _ | refine blk_drew ?_ | refine blk_alloc ?_ _)); refine blk_put (cs := #[.slice Ao37 t243.length co37, .slice Ao39 t246.length co39, .slice none 0 0]) ?_ 2 _ rfl; (with_reducible repeat (first | refine blk_drewN ?_ _ | refine blk_drew ?_ | refine blk_alloc ?_ _)); refine blk_put (cs := #[.slice Ao37 t243.length co37, .slice none 0 0, .slice none 0 0]) ?_ 1 _ rfl; (with_reducible repeat (first | refine blk_drewN ?_ _ | refine blk_drew ?_ | refine blk_alloc ?_ _)); refine blk_put (cs := #[.slice none 0 0, .slice none 0 0, .slice none 0 0]) ?_ 0 _ rfl; (with_reducible repeat (first | refine blk_drewN ?_ _ | refine blk_drew ?_ | refine blk_alloc ?_ _)); exact BK220.out) Try.underlying29 rfl (by kernel_rfl)) rfl ?_
   exact ⟨_, _, _, by first | rfl | (simp [errW_none, errW_some] <;> rfl) | (simp [*, errW_none, errW_some] <;> rfl), by (with_reducible repeat (first | apply Kd.R_alloc | apply Kd.R_drewN | apply Kd.R_drew)); exact Kd.R_mono (Kd.R_far (p := ⟨gb220, 2, none⟩) (Kd.R_far (p := ⟨gb220, 1, none⟩) (Kd.R_far (p := ⟨gb220, 0, none⟩) (Kd.R_types HO245.out BK220.out (by decide)) (fun _ hk => hk.2) (.slice Ao37 t243.length co37)) (fun _ hk => hk.2) (.slice Ao39 t246.length co39)) (fun _ hk => hk.2) (.slice Ao40 t249.length co40)) (fun _ hk => ⟨hk.1.1, hk.1.2⟩), by (with_reducible repeat (first | apply Kd.R_alloc | apply Kd.R_drewN | apply Kd.R_drew)); exact Kd.R_mono (Kd.R_far (p := ⟨gb220, 2, none⟩) (Kd.R_far (p := ⟨gb220, 1, none⟩) (Kd.R_far (p := ⟨gb220, 0, none⟩) (Kd.R_types HO248.out BK220.out (by decide)) (fun _ hk => hk.2) (.slice Ao37 t243.length co37)) (fun _ hk => hk.2) (.slice Ao39 t246.length co39)) (fun _ hk => hk.2) (.slice Ao40 t249.length co40)) (fun _ hk => ⟨hk.1.1, hk.1.2⟩), by (with_reducible repeat (first | apply Kd.R_alloc | apply Kd.R_drewN | apply Kd.R_drew)); exact Kd.R_mono (Kd.R_far (p := ⟨gb220, 2, none⟩) (Kd.R_far (p := ⟨gb220, 1, none⟩) (Kd.R_far (p := ⟨gb220, 0, none⟩) (Kd.R_types HO251.out BK220.out (by decide)) (fun _ hk => hk.2) (.slice Ao37 t243.length co37)) (fun _ hk => hk.2) (.slice Ao39 t246.length co39)) (fun _ hk => hk.2) (.slice Ao40 t249.length co40)) (fun _ hk => ⟨hk.1.1, hk.1.2⟩), by repeat (first | (with_reducible first | exact HB.out | apply below_alloc | apply pw_below_drewN | apply below_drew1 | refine below_set ?_ GE220.out) | exact HB.out)⟩
  ·rw [if_neg c29] at H
   have c29b0 : (t242 == 0) = false := beq_eq_false_iff_ne.mpr c29
   have c29b1 : (t242 != 0) = true := bne_iff_ne.mpr c29
   simp only [Option.some.injEq, Prod.mk.injEq] at H
   obtain ⟨rfl, rfl, rfl, rfl⟩ := H
   go_enter Try.func54, Try.ntmps54
   go_wp2_with (first | ((with_reducible refine gate_dst (N := 4) rfl ?_); (try (refine gate_guard (by rfl) ?_; dsimp only)); refine box_event ?hg (N := 4) ?hd (cs := #[.slice none 0 0, .slice none 0 0, .slice none 0 0]) (t := 29) ?hr ?_; (case hd => rfl); (case hg => rfl); (case hr => exact a161_); intro gb220 hg w41 hbox hb; have n0_ := Aside0.mk (below_step a151_ hb); have n1_ := Aside0.mk (hbox); have n2_ := Aside0.mk ((a155_ : w.heap.size ≤ gb220)); have n3_ := Aside0.mk ((a155_ : w.heap.size ≤ gb220)); clear HB; have HB := n0_; have BK220 := n1_; have GW220 := n2_; have GE220 := n3_; clear n0_ n1_ n2_ n3_; clear hb hbox hg) | ((with_reducible refine gate_callee (f := 118) rfl ?_); refine goesL_ (some 9) rfl rfl Try.func118 (by kernel_rfl) rfl #[.slice A0 l0.length c0, Value.func (.func 119) #[] #[]] rfl a149_ ?_; (with_reducible refine (slices_ContainsFunc_at_impl_MachineFor_c1.calls k _ _ l0 t221 _ ?side1 ?side2 A3.out).mono ?_); (case side1 => exact a156_); (case side2 => exact HC0.out); rintro e w42 ⟨rfl, hb⟩; refine ⟨_, rfl, ?_⟩; have n0_ := Aside0.mk (blk_below (g := gb220) a150_ hb); have n1_ := Aside0.mk (below_step a148_ hb); clear BK220; clear HB; have BK220 := n0_; have HB := n1_; clear n0_ n1_; (try clear hb); (try clear hb2); (try clear hk); (try clear hi)) | ((with_reducible refine gate_callee (f := 107) rfl ?_); refine goesL_ (some 11) rfl rfl Try.func107 (by kernel_rfl) rfl #[.bool t221, .int .i64 1] rfl a149_ ?_; (with_reducible refine (impl_codeIf.calls t221 1 t222 _ A4.out).mono ?_); rintro e w' ⟨rfl, ⟨nd, rfl⟩⟩; refine ⟨_, rfl, ?_⟩; (try rw [World.drewN_drewN]); (try rw [World.drewN_drewN]); (try rw [World.drewN_drewN]); (try (rw [drewN_self w42]; generalize hq_ : World.drewN w42 _ = w42; have n0_ : Aside0 (w42.heap[gb220]? = some (.cells #[.slice none 0 0, .slice none 0 0, .slice none 0 0] 29 (0, 0))) := ⟨by rw [← hq_]; exact a150_⟩; have n1_ : Aside0 (Below w.heap.size w w42) := ⟨by rw [← hq_]; exact a148_⟩; clear BK220 HB hq_; have BK220 := n0_; have HB := n1_; clear n0_ n1_))) | ((with_reducible refine gate_callee (f := 120) rfl ?_); refine goesL_ (some 13) rfl rfl Try.func120 (by kernel_rfl) rfl #[.int .i64 a1] rfl a149_ ?_; (with_reducible refine (impl_isSteps.calls a1 false _ A5.out).mono ?_); rintro e w' ⟨rfl, ⟨nd, rfl⟩⟩; refine ⟨_, rfl, ?_⟩; (try rw [World.drewN_drewN]); (try rw [World.drewN_drewN]); (try rw [World.drewN_drewN]); (try (rw [drewN_self w42]; generalize hq_ : World.drewN w42 _ = w42; have n0_ : Aside0 (w42.heap[gb220]? = some (.cells #[.slice none 0 0, .slice none 0 0, .slice none 0 0] 29 (0, 0))) := ⟨by rw [← hq_]; exact a150_⟩; have n1_ : Aside0 (Below w.heap.size w w42) := ⟨by rw [← hq_]; exact a148_⟩; clear BK220 HB hq_; have BK220 := n0_; have HB := n1_; clear n0_ n1_))) | ((with_reducible refine gate_callee (f := 107) rfl ?_); refine goesL_ (some 21) rfl rfl Try.func107 (by kernel_rfl) rfl #[.bool true, .int .i64 2] rfl a149_ ?_; (with_reducible refine (impl_codeIf.calls true 2 t238 _ A27.out).mono ?_); rintro e w' ⟨rfl, ⟨nd, rfl⟩⟩; refine ⟨_, rfl, ?_⟩; (try rw [World.drewN_drewN]); (try rw [World.drewN_drewN]); (try rw [World.drewN_drewN]); (try (rw [drewN_self w42]; generalize hq_ : World.drewN w42 _ = w42; have n0_ : Aside0 (w42.heap[gb220]? = some (.cells #[.slice none 0 0, .slice none 0 0, .slice none 0 0] 29 (0, 0))) := ⟨by rw [← hq_]; exact a150_⟩; have n1_ : Aside0 (Below w.heap.size w w42) := ⟨by rw [← hq_]; exact a148_⟩; clear BK220 HB hq_; have BK220 := n0_; have HB := n1_; clear n0_ n1_))) | ((with_reducible refine gate_dst (N := 22) rfl ?_); (try (refine gate_guard (by rfl) ?_; dsimp only)); refine Kd.R_lit (Kd.int .i64) _ 2 ?hg (N := 22) ?hd (xs := ([t222, t238] : List Int)) (inner := [.int .i64 t222, .int .i64 t238]) (ok := fun _ => True) (okp := fun _ => True) ?hr ?hp (fun _ hk => hk) trivial (Below.refl _ _) (Nat.le_refl _) (by simp) ?_; (case hd => rfl); (case hg => rfl); (case hr => exact a161_); (case hp => exact a160_); intro v240 w43 ho44 hb hg_ hnew_; clear hg_ hnew_; (first | rw [← Ny239.out] at ho44 | (simp only [Int.reduceToNat] at ho44; rw [← Ny239.out] at ho44)); have n0_ := Aside0.mk (Kd.R_lower ho44 (below_size a148_)); have n1_ := Aside0.mk (blk_below (g := gb220) a150_ hb); have n2_ := Aside0.mk (below_step a148_ hb); clear BK220; clear HB; have HO241 := n0_; have BK220 := n1_; have HB := n2_; clear n0_ n1_ n2_; clear hb ho44; obtain ⟨Ao45, co45, eo45⟩ := Kd.R_slice HO241.out; subst eo45) | ((with_reducible refine gate_callee (f := 106) rfl ?_); refine goesL_ (some 23) rfl rfl Try.func106 (by kernel_rfl) rfl #[.slice Ao45 y239.length co45] rfl a149_ ?_; (with_reducible refine (impl_firstCode.calls k _ _ y239 t242 _ ?side1 ?side2 A28.out).mono ?_); (case side1 => exact a158_); (case side2 => exact (Kd.R_reads' HO241.out).2.1); rintro e w' ⟨rfl, ⟨nd, rfl⟩⟩; refine ⟨_, rfl, ?_⟩; (try rw [World.drewN_drewN]); (try rw [World.drewN_drewN]); (try rw [World.drewN_drewN]); (try (rw [drewN_self w43]; generalize hq_ : World.drewN w43 _ = w43; have n0_ : Aside0 (Kd.R (Kd.int .i64) 2 w43 w.heap.size (fun _ => True) (.slice Ao45 y239.length co45) y239) := ⟨by rw [← hq_]; exact a154_⟩; have n1_ : Aside0 (w43.heap[gb220]? = some (.cells #[.slice none 0 0, .slice none 0 0, .slice none 0 0] 29 (0, 0))) := ⟨by rw [← hq_]; exact a150_⟩; have n2_ : Aside0 (Below w.heap.size w w43) := ⟨by rw [← hq_]; exact a148_⟩; clear HO241 BK220 HB hq_; have HO241 := n0_; have BK220 := n1_; have HB := n2_; clear n0_ n1_ n2_)); have hcz46_0 : w43.cell? ⟨gb220, 0, none⟩ = some (.slice none 0 0) := (blk_cell BK220.out 0).trans rfl; have hcz46_1 : w43.cell? ⟨gb220, 1, none⟩ = some (.slice none 0 0) := (blk_cell BK220.out 1).trans rfl; have hcz46_2 : w43.cell? ⟨gb220, 2, none⟩ = some (.slice none 0 0) := (blk_cell BK220.out 2).trans rfl; have hfz46_0 := blk_frozen BK220.out 0; have hfz46_1 := blk_frozen BK220.out 1; have hfz46_2 := blk_frozen BK220.out 2))
   refine bodyPost_ret (results_ct rfl _ _ gb220 29 #[.slice none 0 0, .slice none 0 0, .slice none 0 0] (0, 0) _ rfl a152_ Try.underlying29 rfl (by kernel_rfl)) rfl ?_
   exact ⟨_, _, _, by first | rfl | (simp [errW_none, errW_some] <;> rfl) | (simp [*, errW_none, errW_some] <;> rfl), by first | exact Kd.R_nil _ _ _ _ _ | exact Kd.N_nil _ _ _ _ _ | exact Kd.V_nil _ _ _ _ _ | exact Kd.Q_nil _ _ _ _ _ | exact Kd.S_nil _ _ _ _ _, by first | exact Kd.R_nil _ _ _ _ _ | exact Kd.N_nil _ _ _ _ _ | exact Kd.V_nil _ _ _ _ _ | exact Kd.Q_nil _ _ _ _ _ | exact Kd.S_nil _ _ _ _ _, by first | exact Kd.R_nil _ _ _ _ _ | exact Kd.N_nil _ _ _ _ _ | exact Kd.V_nil _ _ _ _ _ | exact Kd.Q_nil _ _ _ _ _ | exact Kd.S_nil _ _ _ _ _, by repeat (first | (with_reducible first | exact HB.out | apply below_alloc | apply pw_below_drewN | apply below_drew1 | refine below_set ?_ GE220.out) | exact HB.out)⟩

/-! ### steps of laws_eqMark that come again: each is read where it is used -/
theorem a162_ {p : Prop} (h : p := by repeat (first | (with_reducible first | exact HB.out | apply below_alloc | apply pw_below_drewN | apply below_drew1 | refine below_set ?_ GE252.out) | exact HB.out)) : p := h
theorem a163_ {p : Prop} (h : p := by repeat (first | (with_reducible first | exact HB.out | apply below_alloc | apply pw_below_drewN | apply below_drew1) | exact HB.out)) : p := h
theorem a164_ {p : Prop} (h : p := by (with_reducible repeat (first | refine blk_drewN ?_ _ | refine blk_drew ?_ | refine blk_alloc ?_ _)); exact BK252.out) : p := h
theorem a165_ {p : Prop} (h : p := by rw [hg]; exact Nat.ne_of_lt (blk_lt (g := gb252) (o := .cells #[.int .i16 a0_0, .int .i16 a0_1] 74 (0, 0)) a164_)) : p := h
theorem a166_ {p : Prop} (h : p := by rw [hg]; exact Nat.ne_of_gt (blk_lt (g := gb252) (o := .cells #[.int .i16 a0_0, .int .i16 a0_1] 74 (0, 0)) a164_)) : p := h
theorem a167_ {p : Prop} (h : p := by rw [hg]; exact (below_size a163_)) : p := h
theorem a168_ {p : Prop} (h : p := by rw [hg]; exact (below_size a162_)) : p := h
theorem a169_ {p : Prop} (h : p := by first | (go_simp; done) | (go_simp; rfl)) : p := h

/-! ### laws_eqMark: function 114 -/
def laws_eqMark.l0 : Nat → Int → Int → Int → Int → Int → Option (Bool)
  | 0, _, _, _, _, _ => none
  | k + 1, x5, x253000, x253001, x254000, x254001 => if x5 < 2 then (if x5 = 0 then (if x253000 = x254000 then (laws_eqMark.l0 k (wrap64 (x5 + 1)) x253000 x253001 x254000 x254001) else (some false)) else (if x5 = 1 then (if x253001 = x254001 then (laws_eqMark.l0 k (wrap64 (x5 + 1)) x253000 x253001 x254000 x254001) else (some false)) else (none))) else (some true)
def laws_eqMark.f (k : Nat) (a0_0 : Int) (a0_1 : Int) (a1_0 : Int) (a1_1 : Int) : Option (Bool) := laws_eqMark.l0 k 0 a0_0 a0_1 a1_0 a1_1
theorem laws_eqMark.mono_l : ∀ k, (∀ y0 y1 y2 y3 y4, LeO (laws_eqMark.l0 k y0 y1 y2 y3 y4) (laws_eqMark.l0 (k + 1) y0 y1 y2 y3 y4))
  | 0 => fun _ _ _ _ _ r h => by simp [laws_eqMark.l0] at h
  | k + 1 => by
    have ih0 := laws_eqMark.mono_l k
    · intro y0 y1 y2 y3 y4
      unfold laws_eqMark.l0
      repeat' first
      | (with_reducible exact ih0 _ _ _ _ _)
      | (with_reducible exact LeO.refl _)
      | (with_reducible exact LeO.none _)
      | (with_reducible refine LeO.ite ?_ ?_)
      | (with_reducible refine LeO.bind ?_ (fun _ => ?_))
      | exact ih0 _ _ _ _ _
      | exact LeO.none _
      | refine LeO.ite ?_ ?_
      | refine LeO.bind ?_ (fun _ => ?_)
theorem laws_eqMark.mono : ∀ a0 a1 a2 a3 k, LeO (laws_eqMark.f k a0 a1 a2 a3) (laws_eqMark.f (k + 1) a0 a1 a2 a3) := by
  intro a0 a1 a2 a3 k
  have ih0 := laws_eqMark.mono_l k
  unfold laws_eqMark.f
  repeat' first
      | (with_reducible exact ih0 _ _ _ _ _)
      | (with_reducible exact LeO.refl _)
      | (with_reducible exact LeO.none _)
      | (with_reducible refine LeO.ite ?_ ?_)
      | (with_reducible refine LeO.bind ?_ (fun _ => ?_))
      | exact ih0 _ _ _ _ _
      | exact LeO.none _
      | refine LeO.ite ?_ ?_
      | refine LeO.bind ?_ (fun _ => ?_)
/-! ### laws_eqMark: what follows is its proof -/

set_option maxHeartbeats 8000000 in
set_option maxRecDepth 100000 in
theorem laws_eqMark.calls (k : Nat) (a0_0 : Int) (a0_1 : Int) (a1_0 : Int) (a1_1 : Int) (r : Bool) (w : World) (h : laws_eqMark.f k a0_0 a0_1 a1_0 a1_1 = some r) :
    Calls Try.prog 114 #[.agg #[.int .i16 a0_0, .int .i16 a0_1], .agg #[.int .i16 a1_0, .int .i16 a1_1]] w fun e w' => e = .returned (.bool r) ∧ Below w.heap.size w w' := by
 have hu74 := Try.underlying74
 have HB := Aside0.mk (Below.refl w.heap.size w)
 have H : (laws_eqMark.l0 k 0 a0_0 a0_1 a1_0 a1_1) = some r := h
 clear h
 have H' := Aside0.mk H
 clear H
 go_enter Try.func114, Try.ntmps114
 go_wp2_with (first | ((with_reducible refine gate_dst (N := 2) rfl ?_); refine box_event ?hg (N := 2) ?hd (cs := #[.int .i16 a0_0, .int .i16 a0_1]) (t := 74) ?hr ?_; (case hd => rfl); (case hg => rfl); (case hr => exact a169_); intro gb252 hg w3 hbox hb; have n0_ := Aside0.mk (below_step a163_ hb); have n1_ := Aside0.mk (hbox); have n2_ := Aside0.mk ((a167_ : w.heap.size ≤ gb252)); have n3_ := Aside0.mk ((a167_ : w.heap.size ≤ gb252)); clear HB; have HB := n0_; have BK252 := n1_; have GW252 := n2_; have GE252 := n3_; clear n0_ n1_ n2_ n3_; clear hb hbox hg) | ((with_reducible refine gate_dst (N := 3) rfl ?_); refine box_event ?hg (N := 3) ?hd (cs := #[.int .i16 a1_0, .int .i16 a1_1]) (t := 74) ?hr ?_; (case hd => rfl); (case hg => rfl); (case hr => exact a169_); intro gb253 hg w4 hbox hb; have n0_ := Aside0.mk (blk_below (g := gb252) a164_ hb); have n1_ := Aside0.mk (below_step a162_ hb); have n2_ := Aside0.mk (hbox); have n3_ := Aside0.mk ((a168_ : w.heap.size ≤ gb253)); have n4_ := Aside0.mk ((a168_ : w.heap.size ≤ gb253)); have n5_ := Aside0.mk ((a165_ : gb252 ≠ gb253)); have n6_ := Aside0.mk ((a166_ : gb253 ≠ gb252)); clear BK252; clear HB; have BK252 := n0_; have HB := n1_; have BK253 := n2_; have GW253 := n3_; have GE253 := n4_; have NB252_253 := n5_; have NB253_252 := n6_; clear n0_ n1_ n2_ n3_ n4_ n5_ n6_; clear hb hbox hg))
 repeat (go_quiet (first | ((with_reducible refine gate_dst (N := 2) rfl ?_); refine box_event ?hg (N := 2) ?hd (cs := #[.int .i16 a0_0, .int .i16 a0_1]) (t := 74) ?hr ?_; (case hd => rfl); (case hg => rfl); (case hr => exact a169_); intro gb252 hg w3 hbox hb; have n0_ := Aside0.mk (below_step a163_ hb); have n1_ := Aside0.mk (hbox); have n2_ := Aside0.mk ((a167_ : w.heap.size ≤ gb252)); have n3_ := Aside0.mk ((a167_ : w.heap.size ≤ gb252)); clear HB; have HB := n0_; have BK252 := n1_; have GW252 := n2_; have GE252 := n3_; clear n0_ n1_ n2_ n3_; clear hb hbox hg) | ((with_reducible refine gate_dst (N := 3) rfl ?_); refine box_event ?hg (N := 3) ?hd (cs := #[.int .i16 a1_0, .int .i16 a1_1]) (t := 74) ?hr ?_; (case hd => rfl); (case hg => rfl); (case hr => exact a169_); intro gb253 hg w4 hbox hb; have n0_ := Aside0.mk (blk_below (g := gb252) a164_ hb); have n1_ := Aside0.mk (below_step a162_ hb); have n2_ := Aside0.mk (hbox); have n3_ := Aside0.mk ((a168_ : w.heap.size ≤ gb253)); have n4_ := Aside0.mk ((a168_ : w.heap.size ≤ gb253)); have n5_ := Aside0.mk ((a165_ : gb252 ≠ gb253)); have n6_ := Aside0.mk ((a166_ : gb253 ≠ gb252)); clear BK252; clear HB; have BK252 := n0_; have HB := n1_; have BK253 := n2_; have GW253 := n3_; have GE253 := n4_; have NB252_253 := n5_; have NB253_252 := n6_; clear n0_ n1_ n2_ n3_ n4_ n5_ n6_; clear hb hbox hg)); try go_wp2_with (first | ((with_reducible refine gate_dst (N := 2) rfl ?_); refine box_event ?hg (N := 2) ?hd (cs := #[.int .i16 a0_0, .int .i16 a0_1]) (t := 74) ?hr ?_; (case hd => rfl); (case hg => rfl); (case hr => exact a169_); intro gb252 hg w3 hbox hb; have n0_ := Aside0.mk (below_step a163_ hb); have n1_ := Aside0.mk (hbox); have n2_ := Aside0.mk ((a167_ : w.heap.size ≤ gb252)); have n3_ := Aside0.mk ((a167_ : w.heap.size ≤ gb252)); clear HB; have HB := n0_; have BK252 := n1_; have GW252 := n2_; have GE252 := n3_; clear n0_ n1_ n2_ n3_; clear hb hbox hg) | ((with_reducible refine gate_dst (N := 3) rfl ?_); refine box_event ?hg (N := 3) ?hd (cs := #[.int .i16 a1_0, .int .i16 a1_1]) (t := 74) ?hr ?_; (case hd => rfl); (case hg => rfl); (case hr => exact a169_); intro gb253 hg w4 hbox hb; have n0_ := Aside0.mk (blk_below (g := gb252) a164_ hb); have n1_ := Aside0.mk (below_step a162_ hb); have n2_ := Aside0.mk (hbox); have n3_ := Aside0.mk ((a168_ : w.heap.size ≤ gb253)); have n4_ := Aside0.mk ((a168_ : w.heap.size ≤ gb253)); have n5_ := Aside0.mk ((a165_ : gb252 ≠ gb253)); have n6_ := Aside0.mk ((a166_ : gb253 ≠ gb252)); clear BK252; clear HB; have BK252 := n0_; have HB := n1_; have BK253 := n2_; have GW253 := n3_; have GE253 := n4_; have NB252_253 := n5_; have NB253_252 := n6_; clear n0_ n1_ n2_ n3_ n4_ n5_ n6_; clear hb hbox hg)))
 any_goals (first | (exfalso; (try simp only [decide_eq_true_eq, decide_eq_false_iff_not] at *); omega) | skip)
 go_loopg [5] k (fun kq v5 w' => ∃ (x5_1 : Int), v5 = .int .i64 x5_1 ∧ Aside0 (laws_eqMark.l0 kq x5_1 a0_0 a0_1 a1_0 a1_1 = some r) ∧ Aside0 (kq ≤ k) ∧ Aside0 (w'.heap[gb252]? = some (.cells #[.int .i16 a0_0, .int .i16 a0_1] 74 (0, 0))) ∧ Aside0 (w'.heap[gb253]? = some (.cells #[.int .i16 a1_0, .int .i16 a1_1] 74 (0, 0))) ∧ Aside0 (Below w.heap.size w w'))
 case atStart => exact ⟨(0), (by first | rfl | (simp; done) | (simp [*]; done)), H', ⟨Nat.le_refl _⟩, ⟨by (with_reducible repeat (first | refine blk_drewN ?_ _ | refine blk_drew ?_ | refine blk_alloc ?_ _)); exact BK252.out⟩, ⟨by (with_reducible repeat (first | refine blk_drewN ?_ _ | refine blk_drew ?_ | refine blk_alloc ?_ _)); exact BK253.out⟩, ⟨by repeat (first | (with_reducible first | exact HB.out | apply below_alloc | apply pw_below_drewN | apply below_drew1 | refine below_set ?_ GE252.out | refine below_set ?_ GE253.out) | exact HB.out)⟩⟩
 case round =>
  clear H'
  try clear c1
  try clear p2
  obtain ⟨x5_1, rfl, HA, HK1, BK252, BK253, HB⟩ := hrel
  cases gk with
  | zero => exact absurd HA.out (by simp [laws_eqMark.l0])
  | succ k1 =>
   have H := HA.out
   clear HA
   simp only [laws_eqMark.l0] at H
   by_cases c5 : x5_1 < 2
   ·rw [if_pos c5] at H
    have c5b0 : decide (x5_1 < 2) = true := decide_eq_true c5
    clear c5
    by_cases c6 : x5_1 = 0
    ·rw [if_pos c6] at H
     have c6b0 : (x5_1 == 0) = true := beq_iff_eq.mpr c6
     have c6b1 : (x5_1 != 0) = false := bne_eq_false_iff_eq.mpr c6
     have c6b2 : (0 ≤ x5_1) = True := eq_true (by omega)
     have c6b3 : (x5_1 < 2) = True := eq_true (by omega)
     have c6b4 : Int.toNat x5_1 = 0 := by omega
     have c6b5 : wrap64 (x5_1 + 1) = x5_1 + 1 := by unfold wrap64; omega
     clear c6
     by_cases c7 : a0_0 = a1_0
     ·rw [if_pos c7] at H
      have c7b0 : (a0_0 == a1_0) = true := beq_iff_eq.mpr c7
      have c7b1 : (a0_0 != a1_0) = false := bne_eq_false_iff_eq.mpr c7
      clear c7
      have H' := Aside0.mk H
      clear H
      have hnb8 := NB252_253.out
      have hnc8 := NB253_252.out
      have hcz9_0 : wr.cell? ⟨gb252, 0, none⟩ = some (.int .i16 a0_0) := (blk_cell BK252.out 0).trans rfl
      have hcz9_1 : wr.cell? ⟨gb252, 1, none⟩ = some (.int .i16 a0_1) := (blk_cell BK252.out 1).trans rfl
      have hfz9_0 := blk_frozen BK252.out 0
      have hfz9_1 := blk_frozen BK252.out 1
      have hcz10_0 : wr.cell? ⟨gb253, 0, none⟩ = some (.int .i16 a1_0) := (blk_cell BK253.out 0).trans rfl
      have hcz10_1 : wr.cell? ⟨gb253, 1, none⟩ = some (.int .i16 a1_1) := (blk_cell BK253.out 1).trans rfl
      have hfz10_0 := blk_frozen BK253.out 0
      have hfz10_1 := blk_frozen BK253.out 1
      go_wp2
      repeat (go_quiet (fail); try go_wp2)
      any_goals (first | (exfalso; (try simp only [decide_eq_true_eq, decide_eq_false_iff_not] at *); omega) | skip)
      go_roundg k1
      case measure => have := HK1.out; omega
      case rel => exact ⟨(wrap64 (x5_1 + 1)), (by first | rfl | (simp; done) | (simp [*]; done)), H', ⟨by have := HK1.out; omega⟩, ⟨by (with_reducible repeat (first | refine blk_drewN ?_ _ | refine blk_drew ?_ | refine blk_alloc ?_ _)); exact BK252.out⟩, ⟨by (with_reducible repeat (first | refine blk_drewN ?_ _ | refine blk_drew ?_ | refine blk_alloc ?_ _)); exact BK253.out⟩, ⟨by repeat (first | (with_reducible first | exact HB.out | apply below_alloc | apply pw_below_drewN | apply below_drew1 | refine below_set ?_ GE252.out | refine below_set ?_ GE253.out) | exact HB.out)⟩⟩
     ·rw [if_neg c7] at H
      have c7b0 : (a0_0 == a1_0) = false := beq_eq_false_iff_ne.mpr c7
      have c7b1 : (a0_0 != a1_0) = true := bne_iff_ne.mpr c7
      obtain rfl := Option.some.inj H
      have hnb11 := NB252_253.out
      have hnc11 := NB253_252.out
      have hcz12_0 : wr.cell? ⟨gb252, 0, none⟩ = some (.int .i16 a0_0) := (blk_cell BK252.out 0).trans rfl
      have hcz12_1 : wr.cell? ⟨gb252, 1, none⟩ = some (.int .i16 a0_1) := (blk_cell BK252.out 1).trans rfl
      have hfz12_0 := blk_frozen BK252.out 0
      have hfz12_1 := blk_frozen BK252.out 1
      have hcz13_0 : wr.cell? ⟨gb253, 0, none⟩ = some (.int .i16 a1_0) := (blk_cell BK253.out 0).trans rfl
      have hcz13_1 : wr.cell? ⟨gb253, 1, none⟩ = some (.int .i16 a1_1) := (blk_cell BK253.out 1).trans rfl
      have hfz13_0 := blk_frozen BK253.out 0
      have hfz13_1 := blk_frozen BK253.out 1
      go_wp2
      repeat (go_quiet (fail); try go_wp2)
      any_goals (first | (exfalso; (try simp only [decide_eq_true_eq, decide_eq_false_iff_not] at *); omega) | skip)
      go_ret
      exact ⟨by first | rfl | (simp [errW_none, errW_some] <;> rfl) | (simp [*, errW_none, errW_some] <;> rfl), by repeat (first | (with_reducible first | exact HB.out | apply below_alloc | apply pw_below_drewN | apply below_drew1 | refine below_set ?_ GE252.out | refine below_set ?_ GE253.out) | exact HB.out)⟩
    ·rw [if_neg c6] at H
     have c6b0 : (x5_1 == 0) = false := beq_eq_false_iff_ne.mpr c6
     have c6b1 : (x5_1 != 0) = true := bne_iff_ne.mpr c6
     by_cases c14 : x5_1 = 1
     ·rw [if_pos c14] at H
      have c14b0 : (x5_1 == 1) = true := beq_iff_eq.mpr c14
      have c14b1 : (x5_1 != 1) = false := bne_eq_false_iff_eq.mpr c14
      have c14b2 : (0 ≤ x5_1) = True := eq_true (by omega)
      have c14b3 : (x5_1 < 2) = True := eq_true (by omega)
      have c14b4 : Int.toNat x5_1 = 1 := by omega
      have c14b5 : wrap64 (x5_1 + 1) = x5_1 + 1 := by unfold wrap64; omega
      clear c14
      by_cases c15 : a0_1 = a1_1
      ·rw [if_pos c15] at H
       have c15b0 : (a0_1 == a1_1) = true := beq_iff_eq.mpr c15
       have c15b1 : (a0_1 != a1_1) = false := bne_eq_false_iff_eq.mpr c15
       clear c15
       have H' := Aside0.mk H
       clear H
       have hnb16 := NB252_253.out
       have hnc16 := NB253_252.out
       have hcz17_0 : wr.cell? ⟨gb252, 0, none⟩ = some (.int .i16 a0_0) := (blk_cell BK252.out 0).trans rfl
       have hcz17_1 : wr.cell? ⟨gb252, 1, none⟩ = some (.int .i16 a0_1) := (blk_cell BK252.out 1).trans rfl
       have hfz17_0 := blk_frozen BK252.out 0
       have hfz17_1 := blk_frozen BK252.out 1
       have hcz18_0 : wr.cell? ⟨gb253, 0, none⟩ = some (.int .i16 a1_0) := (blk_cell BK253.out 0).trans rfl
       have hcz18_1 : wr.cell? ⟨gb253, 1, none⟩ = some (.int .i16 a1_1) := (blk_cell BK253.out 1).trans rfl
       have hfz18_0 := blk_frozen BK253.out 0
       have hfz18_1 := blk_frozen BK253.out 1
       go_wp2
       repeat (go_quiet (fail); try go_wp2)
       any_goals (first | (exfalso; (try simp only [decide_eq_true_eq, decide_eq_false_iff_not] at *); omega) | skip)
       go_roundg k1
       case measure => have := HK1.out; omega
       case rel => exact ⟨(wrap64 (x5_1 + 1)), (by first | rfl | (simp; done) | (simp [*]; done)), H', ⟨by have := HK1.out; omega⟩, ⟨by (with_reducible repeat (first | refine blk_drewN ?_ _ | refine blk_drew ?_ | refine blk_alloc ?_ _)); exact BK252.out⟩, ⟨by (with_reducible repeat (first | refine blk_drewN ?_ _ | refine blk_drew ?_ | refine blk_alloc ?_ _)); exact BK253.out⟩, ⟨by repeat (first | (with_reducible first | exact HB.out | apply below_alloc | apply pw_below_drewN | apply below_drew1 | refine below_set ?_ GE252.out | refine below_set ?_ GE253.out) | exact HB.out)⟩⟩
      ·rw [if_neg c15] at H
       have c15b0 : (a0_1 == a1_1) = false := beq_eq_false_iff_ne.mpr c15
       have c15b1 : (a0_1 != a1_1) = true := bne_iff_ne.mpr c15
       obtain rfl := Option.some.inj H
       have hnb19 := NB252_253.out
       have hnc19 := NB253_252.out
       have hcz20_0 : wr.cell? ⟨gb252, 0, none⟩ = some (.int .i16 a0_0) := (blk_cell BK252.out 0).trans rfl
       have hcz20_1 : wr.cell? ⟨gb252, 1, none⟩ = some (.int .i16 a0_1) := (blk_cell BK252.out 1).trans rfl
       have hfz20_0 := blk_frozen BK252.out 0
       have hfz20_1 := blk_frozen BK252.out 1
       have hcz21_0 : wr.cell? ⟨gb253, 0, none⟩ = some (.int .i16 a1_0) := (blk_cell BK253.out 0).trans rfl
       have hcz21_1 : wr.cell? ⟨gb253, 1, none⟩ = some (.int .i16 a1_1) := (blk_cell BK253.out 1).trans rfl
       have hfz21_0 := blk_frozen BK253.out 0
       have hfz21_1 := blk_frozen BK253.out 1
       go_wp2
       repeat (go_quiet (fail); try go_wp2)
       any_goals (first | (exfalso; (try simp only [decide_eq_true_eq, decide_eq_false_iff_not] at *); omega) | skip)
       go_ret
       exact ⟨by first | rfl | (simp [errW_none, errW_some] <;> rfl) | (simp [*, errW_none, errW_some] <;> rfl), by repeat (first | (with_reducible first | exact HB.out | apply below_alloc | apply pw_below_drewN | apply below_drew1 | refine below_set ?_ GE252.out | refine below_set ?_ GE253.out) | exact HB.out)⟩
     ·rw [if_neg c14] at H
      exact absurd H (by simp)
   ·rw [if_neg c5] at H
    have c5b0 : decide (x5_1 < 2) = false := decide_eq_false c5
    clear c5
    obtain rfl := Option.some.inj H
    go_wp2
    repeat (go_quiet (fail); try go_wp2)
    any_goals (first | (exfalso; (try simp only [decide_eq_true_eq, decide_eq_false_iff_not] at *); omega) | skip)
    go_ret
    exact ⟨by first | rfl | (simp [errW_none, errW_some] <;> rfl) | (simp [*, errW_none, errW_some] <;> rfl), by repeat (first | (with_reducible first | exact HB.out | apply below_alloc | apply pw_below_drewN | apply below_drew1 | refine below_set ?_ GE252.out | refine below_set ?_ GE253.out) | exact HB.out)⟩

/-! ### steps of laws_eqStop that come again: each is read where it is used -/
theorem a170_ {p : Prop} (h : p := by repeat (first | (with_reducible first | exact HB.out | apply below_alloc | apply pw_below_drewN | apply below_drew1 | refine below_set ?_ GE254.out) | exact HB.out)) : p := h
theorem a171_ {p : Prop} (h : p := by (with_reducible repeat (first | refine blk_drewN ?_ _ | refine blk_drew ?_ | refine blk_alloc ?_ _)); exact BK254.out) : p := h
theorem a172_ {p : Prop} (h : p := by repeat (first | (with_reducible first | exact HB.out | apply below_alloc | apply pw_below_drewN | apply below_drew1) | exact HB.out)) : p := h
theorem a173_ {p : Prop} (h : p := by repeat (first | (with_reducible first | exact HB.out | apply below_alloc | apply pw_below_drewN | apply below_drew1 | refine below_set ?_ GE254.out | refine below_set ?_ GE255.out) | exact HB.out)) : p := h
theorem a174_ {p : Prop} (h : p := by (try simp only [List.map_toArray, List.map_cons, List.map_nil]); first | done | rfl | (simp only [List.length_drop, List.length_take]; rfl)) : p := h
theorem a175_ {p : Prop} (h : p := by (with_reducible repeat (first | refine blk_drewN ?_ _ | refine blk_drew ?_ | refine blk_alloc ?_ _)); exact BK255.out) : p := h
theorem a176_ {p : Prop} (h : p := by rw [hg]; exact Nat.ne_of_lt (blk_lt (g := gb254) (o := .cells #[.int .i16 a0_0, .int .i16 a0_1, .bool a0_2] 118 (0, 0)) a171_)) : p := h
theorem a177_ {p : Prop} (h : p := by rw [hg]; exact Nat.ne_of_gt (blk_lt (g := gb254) (o := .cells #[.int .i16 a0_0, .int .i16 a0_1, .bool a0_2] 118 (0, 0)) a171_)) : p := h
theorem a178_ {p : Prop} (h : p := by rw [hg]; exact (below_size a172_)) : p := h
theorem a179_ {p : Prop} (h : p := by rw [hg]; exact (below_size a170_)) : p := h
theorem a180_ {p : Prop} (h : p := by first | (go_simp; done) | (go_simp; rfl)) : p := h

/-! ### laws_eqStop: function 122 -/
def laws_eqStop.f (k : Nat) (a0_0 : Int) (a0_1 : Int) (a0_2 : Bool) (a1_0 : Int) (a1_1 : Int) (a1_2 : Bool) : Option (Bool) := (laws_eqMark.f k a0_0 a0_1 a1_0 a1_1).bind fun t256 => (if t256 = true then (if (a0_2 != a1_2) = true then (some false) else (some true)) else (some false))
theorem laws_eqStop.mono : ∀ a0 a1 a2 a3 a4 a5 k, LeO (laws_eqStop.f k a0 a1 a2 a3 a4 a5) (laws_eqStop.f (k + 1) a0 a1 a2 a3 a4 a5) := by
  intro a0 a1 a2 a3 a4 a5 k
  unfold laws_eqStop.f
  repeat' first
      | (with_reducible exact laws_eqMark.mono _ _ _ _ _)
      | (with_reducible exact LeO.refl _)
      | (with_reducible exact LeO.none _)
      | (with_reducible refine LeO.ite ?_ ?_)
      | (with_reducible refine LeO.bind ?_ (fun _ => ?_))
      | exact laws_eqMark.mono _ _ _ _ _
      | exact LeO.none _
      | refine LeO.ite ?_ ?_
      | refine LeO.bind ?_ (fun _ => ?_)
/-! ### laws_eqStop: what follows is its proof -/

set_option maxHeartbeats 8000000 in
set_option maxRecDepth 100000 in
theorem laws_eqStop.calls (k : Nat) (a0_0 : Int) (a0_1 : Int) (a0_2 : Bool) (a1_0 : Int) (a1_1 : Int) (a1_2 : Bool) (r : Bool) (w : World) (h : laws_eqStop.f k a0_0 a0_1 a0_2 a1_0 a1_1 a1_2 = some r) :
    Calls Try.prog 122 #[.agg #[.int .i16 a0_0, .int .i16 a0_1, .bool a0_2], .agg #[.int .i16 a1_0, .int .i16 a1_1, .bool a1_2]] w fun e w' => e = .returned (.bool r) ∧ Below w.heap.size w w' := by
 have hu118 := Try.underlying118
 have hu74 := Try.underlying74
 have HB := Aside0.mk (Below.refl w.heap.size w)
 have H : ((laws_eqMark.f k a0_0 a0_1 a1_0 a1_1).bind fun t256 => (if t256 = true then (if (a0_2 != a1_2) = true then (some false) else (some true)) else (some false))) = some r := h
 clear h
 replace H := Option.bind_eq_some_iff.mp H
 obtain ⟨t256, A30, H⟩ := H
 replace H : (if t256 = true then (if (a0_2 != a1_2) = true then (some false) else (some true)) else (some false)) = some r := H
 have A3 := Aside0.mk A30
 clear A30
 by_cases c4 : t256 = true
 ·subst c4
  have H1 : (if (a0_2 != a1_2) = true then (some false) else (some true)) = some r := by rw [if_pos rfl] at H; exact H
  clear H
  have H := H1
  clear H1
  by_cases c5 : (a0_2 != a1_2) = true
  ·rw [if_pos c5] at H
   have c5b0 : (a0_2 != a1_2) = true := c5
   (try (have c5b1 : decide (a0_2 = a1_2) = false := by simpa using c5))
   (try (have c5b2 : (a0_2 == a1_2) = false := by simpa using c5))
   (try (have c5b3 : ¬ (a0_2 = a1_2) := by simpa using c5))
   clear c5
   obtain rfl := Option.some.inj H
   go_enter Try.func122, Try.ntmps122
   go_wp2_with (first | ((with_reducible refine gate_dst (N := 2) rfl ?_); refine box_event ?hg (N := 2) ?hd (cs := #[.int .i16 a0_0, .int .i16 a0_1, .bool a0_2]) (t := 118) ?hr ?_; (case hd => rfl); (case hg => rfl); (case hr => exact a180_); intro gb254 hg w6 hbox hb; have n0_ := Aside0.mk (below_step a172_ hb); have n1_ := Aside0.mk (hbox); have n2_ := Aside0.mk ((a178_ : w.heap.size ≤ gb254)); have n3_ := Aside0.mk ((a178_ : w.heap.size ≤ gb254)); clear HB; have HB := n0_; have BK254 := n1_; have GW254 := n2_; have GE254 := n3_; clear n0_ n1_ n2_ n3_; clear hb hbox hg) | ((with_reducible refine gate_dst (N := 3) rfl ?_); refine box_event ?hg (N := 3) ?hd (cs := #[.int .i16 a1_0, .int .i16 a1_1, .bool a1_2]) (t := 118) ?hr ?_; (case hd => rfl); (case hg => rfl); (case hr => exact a180_); intro gb255 hg w7 hbox hb; have n0_ := Aside0.mk (blk_below (g := gb254) a171_ hb); have n1_ := Aside0.mk (below_step a170_ hb); have n2_ := Aside0.mk (hbox); have n3_ := Aside0.mk ((a179_ : w.heap.size ≤ gb255)); have n4_ := Aside0.mk ((a179_ : w.heap.size ≤ gb255)); have n5_ := Aside0.mk ((a176_ : gb254 ≠ gb255)); have n6_ := Aside0.mk ((a177_ : gb255 ≠ gb254)); clear BK254; clear HB; have BK254 := n0_; have HB := n1_; have BK255 := n2_; have GW255 := n3_; have GE255 := n4_; have NB254_255 := n5_; have NB255_254 := n6_; clear n0_ n1_ n2_ n3_ n4_ n5_ n6_; clear hb hbox hg; have hnb8 := NB254_255.out; have hnc8 := NB255_254.out; have hcz9_0 : w7.cell? ⟨gb254, 0, none⟩ = some (.int .i16 a0_0) := (blk_cell BK254.out 0).trans rfl; have hcz9_1 : w7.cell? ⟨gb254, 1, none⟩ = some (.int .i16 a0_1) := (blk_cell BK254.out 1).trans rfl; have hcz9_2 : w7.cell? ⟨gb254, 2, none⟩ = some (.bool a0_2) := (blk_cell BK254.out 2).trans rfl; have hfz9_0 := blk_frozen BK254.out 0; have hfz9_1 := blk_frozen BK254.out 1; have hfz9_2 := blk_frozen BK254.out 2; have hcz10_0 : w7.cell? ⟨gb255, 0, none⟩ = some (.int .i16 a1_0) := (blk_cell BK255.out 0).trans rfl; have hcz10_1 : w7.cell? ⟨gb255, 1, none⟩ = some (.int .i16 a1_1) := (blk_cell BK255.out 1).trans rfl; have hcz10_2 : w7.cell? ⟨gb255, 2, none⟩ = some (.bool a1_2) := (blk_cell BK255.out 2).trans rfl; have hfz10_0 := blk_frozen BK255.out 0; have hfz10_1 := blk_frozen BK255.out 1; have hfz10_2 := blk_frozen BK255.out 2) | ((with_reducible refine gate_callee (f := 114) rfl ?_); refine goesL_ (some 9) rfl rfl Try.func114 (by kernel_rfl) rfl #[.agg #[.int .i16 a0_0, .int .i16 a0_1], .agg #[.int .i16 a1_0, .int .i16 a1_1]] rfl a174_ ?_; (with_reducible refine (laws_eqMark.calls k a0_0 a0_1 a1_0 a1_1 true _ A3.out).mono ?_); rintro e w11 ⟨rfl, hb⟩; refine ⟨_, rfl, ?_⟩; have n0_ := Aside0.mk (blk_below (g := gb254) a171_ hb); have n1_ := Aside0.mk (blk_below (g := gb255) a175_ hb); have n2_ := Aside0.mk (below_step a173_ hb); clear BK254; clear BK255; clear HB; have BK254 := n0_; have BK255 := n1_; have HB := n2_; clear n0_ n1_ n2_; (try clear hb); (try clear hb2); (try clear hk); (try clear hi); have hcz12_0 : w11.cell? ⟨gb254, 0, none⟩ = some (.int .i16 a0_0) := (blk_cell BK254.out 0).trans rfl; have hcz12_1 : w11.cell? ⟨gb254, 1, none⟩ = some (.int .i16 a0_1) := (blk_cell BK254.out 1).trans rfl; have hcz12_2 : w11.cell? ⟨gb254, 2, none⟩ = some (.bool a0_2) := (blk_cell BK254.out 2).trans rfl; have hfz12_0 := blk_frozen BK254.out 0; have hfz12_1 := blk_frozen BK254.out 1; have hfz12_2 := blk_frozen BK254.out 2; have hcz13_0 : w11.cell? ⟨gb255, 0, none⟩ = some (.int .i16 a1_0) := (blk_cell BK255.out 0).trans rfl; have hcz13_1 : w11.cell? ⟨gb255, 1, none⟩ = some (.int .i16 a1_1) := (blk_cell BK255.out 1).trans rfl; have hcz13_2 : w11.cell? ⟨gb255, 2, none⟩ = some (.bool a1_2) := (blk_cell BK255.out 2).trans rfl; have hfz13_0 := blk_frozen BK255.out 0; have hfz13_1 := blk_frozen BK255.out 1; have hfz13_2 := blk_frozen BK255.out 2))
   go_ret
   exact ⟨by first | rfl | (simp [errW_none, errW_some] <;> rfl) | (simp [*, errW_none, errW_some] <;> rfl), by repeat (first | (with_reducible first | exact HB.out | apply below_alloc | apply pw_below_drewN | apply below_drew1 | refine below_set ?_ GE254.out | refine below_set ?_ GE255.out) | exact HB.out)⟩
  ·rw [if_neg c5] at H
   have c5b0 : (a0_2 != a1_2) = false := by simpa using c5
   (try (have c5b1 : decide (a0_2 = a1_2) = true := by simpa using c5))
   (try (have c5b2 : (a0_2 == a1_2) = true := by simpa using c5))
   clear c5
   obtain rfl := Option.some.inj H
   go_enter Try.func122, Try.ntmps122
   go_wp2_with (first | ((with_reducible refine gate_dst (N := 2) rfl ?_); refine box_event ?hg (N := 2) ?hd (cs := #[.int .i16 a0_0, .int .i16 a0_1, .bool a0_2]) (t := 118) ?hr ?_; (case hd => rfl); (case hg => rfl); (case hr => exact a180_); intro gb254 hg w14 hbox hb; have n0_ := Aside0.mk (below_step a172_ hb); have n1_ := Aside0.mk (hbox); have n2_ := Aside0.mk ((a178_ : w.heap.size ≤ gb254)); have n3_ := Aside0.mk ((a178_ : w.heap.size ≤ gb254)); clear HB; have HB := n0_; have BK254 := n1_; have GW254 := n2_; have GE254 := n3_; clear n0_ n1_ n2_ n3_; clear hb hbox hg) | ((with_reducible refine gate_dst (N := 3) rfl ?_); refine box_event ?hg (N := 3) ?hd (cs := #[.int .i16 a1_0, .int .i16 a1_1, .bool a1_2]) (t := 118) ?hr ?_; (case hd => rfl); (case hg => rfl); (case hr => exact a180_); intro gb255 hg w15 hbox hb; have n0_ := Aside0.mk (blk_below (g := gb254) a171_ hb); have n1_ := Aside0.mk (below_step a170_ hb); have n2_ := Aside0.mk (hbox); have n3_ := Aside0.mk ((a179_ : w.heap.size ≤ gb255)); have n4_ := Aside0.mk ((a179_ : w.heap.size ≤ gb255)); have n5_ := Aside0.mk ((a176_ : gb254 ≠ gb255)); have n6_ := Aside0.mk ((a177_ : gb255 ≠ gb254)); clear BK254; clear HB; have BK254 := n0_; have HB := n1_; have BK255 := n2_; have GW255 := n3_; have GE255 := n4_; have NB254_255 := n5_; have NB255_254 := n6_; clear n0_ n1_ n2_ n3_ n4_ n5_ n6_; clear hb hbox hg; have hnb16 := NB254_255.out; have hnc16 := NB255_254.out; have hcz17_0 : w15.cell? ⟨gb254, 0, none⟩ = some (.int .i16 a0_0) := (blk_cell BK254.out 0).trans rfl; have hcz17_1 : w15.cell? ⟨gb254, 1, none⟩ = some (.int .i16 a0_1) := (blk_cell BK254.out 1).trans rfl; have hcz17_2 : w15.cell? ⟨gb254, 2, none⟩ = some (.bool a0_2) := (blk_cell BK254.out 2).trans rfl; have hfz17_0 := blk_frozen BK254.out 0; have hfz17_1 := blk_frozen BK254.out 1; have hfz17_2 := blk_frozen BK254.out 2; have hcz18_0 : w15.cell? ⟨gb255, 0, none⟩ = some (.int .i16 a1_0) := (blk_cell BK255.out 0).trans rfl; have hcz18_1 : w15.cell? ⟨gb255, 1, none⟩ = some (.int .i16 a1_1) := (blk_cell BK255.out 1).trans rfl; have hcz18_2 : w15.cell? ⟨gb255, 2, none⟩ = some (.bool a1_2) := (blk_cell BK255.out 2).trans rfl; have hfz18_0 := blk_frozen BK255.out 0; have hfz18_1 := blk_frozen BK255.out 1; have hfz18_2 := blk_frozen BK255.out 2) | ((with_reducible refine gate_callee (f := 114) rfl ?_); refine goesL_ (some 9) rfl rfl Try.func114 (by kernel_rfl) rfl #[.agg #[.int .i16 a0_0, .int .i16 a0_1], .agg #[.int .i16 a1_0, .int .i16 a1_1]] rfl a174_ ?_; (with_reducible refine (laws_eqMark.calls k a0_0 a0_1 a1_0 a1_1 true _ A3.out).mono ?_); rintro e w19 ⟨rfl, hb⟩; refine ⟨_, rfl, ?_⟩; have n0_ := Aside0.mk (blk_below (g := gb254) a171_ hb); have n1_ := Aside0.mk (blk_below (g := gb255) a175_ hb); have n2_ := Aside0.mk (below_step a173_ hb); clear BK254; clear BK255; clear HB; have BK254 := n0_; have BK255 := n1_; have HB := n2_; clear n0_ n1_ n2_; (try clear hb); (try clear hb2); (try clear hk); (try clear hi); have hcz20_0 : w19.cell? ⟨gb254, 0, none⟩ = some (.int .i16 a0_0) := (blk_cell BK254.out 0).trans rfl; have hcz20_1 : w19.cell? ⟨gb254, 1, none⟩ = some (.int .i16 a0_1) := (blk_cell BK254.out 1).trans rfl; have hcz20_2 : w19.cell? ⟨gb254, 2, none⟩ = some (.bool a0_2) := (blk_cell BK254.out 2).trans rfl; have hfz20_0 := blk_frozen BK254.out 0; have hfz20_1 := blk_frozen BK254.out 1; have hfz20_2 := blk_frozen BK254.out 2; have hcz21_0 : w19.cell? ⟨gb255, 0, none⟩ = some (.int .i16 a1_0) := (blk_cell BK255.out 0).trans rfl; have hcz21_1 : w19.cell? ⟨gb255, 1, none⟩ = some (.int .i16 a1_1) := (blk_cell BK255.out 1).trans rfl; have hcz21_2 : w19.cell? ⟨gb255, 2, none⟩ = some (.bool a1_2) := (blk_cell BK255.out 2).trans rfl; have hfz21_0 := blk_frozen BK255.out 0; have hfz21_1 := blk_frozen BK255.out 1; have hfz21_2 := blk_frozen BK255.out 2))
   go_ret
   exact ⟨by first | rfl | (simp [errW_none, errW_some] <;> rfl) | (simp [*, errW_none, errW_some] <;> rfl), by repeat (first | (with_reducible first | exact HB.out | apply below_alloc | apply pw_below_drewN | apply below_drew1 | refine below_set ?_ GE254.out | refine below_set ?_ GE255.out) | exact HB.out)⟩
 ·replace c4 := Bool.eq_false_iff.mpr c4
  subst c4
  have H1 : (some false) = some r := by rw [if_neg (show ¬ (false = true) by decide)] at H; exact H
  clear H
  have H := H1
  clear H1
  obtain rfl := Option.some.inj H
  go_enter Try.func122, Try.ntmps122
  go_wp2_with (first | ((with_reducible refine gate_dst (N := 2) rfl ?_); refine box_event ?hg (N := 2) ?hd (cs := #[.int .i16 a0_0, .int .i16 a0_1, .bool a0_2]) (t := 118) ?hr ?_; (case hd => rfl); (case hg => rfl); (case hr => exact a180_); intro gb254 hg w22 hbox hb; have n0_ := Aside0.mk (below_step a172_ hb); have n1_ := Aside0.mk (hbox); have n2_ := Aside0.mk ((a178_ : w.heap.size ≤ gb254)); have n3_ := Aside0.mk ((a178_ : w.heap.size ≤ gb254)); clear HB; have HB := n0_; have BK254 := n1_; have GW254 := n2_; have GE254 := n3_; clear n0_ n1_ n2_ n3_; clear hb hbox hg) | ((with_reducible refine gate_dst (N := 3) rfl ?_); refine box_event ?hg (N := 3) ?hd (cs := #[.int .i16 a1_0, .int .i16 a1_1, .bool a1_2]) (t := 118) ?hr ?_; (case hd => rfl); (case hg => rfl); (case hr => exact a180_); intro gb255 hg w23 hbox hb; have n0_ := Aside0.mk (blk_below (g := gb254) a171_ hb); have n1_ := Aside0.mk (below_step a170_ hb); have n2_ := Aside0.mk (hbox); have n3_ := Aside0.mk ((a179_ : w.heap.size ≤ gb255)); have n4_ := Aside0.mk ((a179_ : w.heap.size ≤ gb255)); have n5_ := Aside0.mk ((a176_ : gb254 ≠ gb255)); have n6_ := Aside0.mk ((a177_ : gb255 ≠ gb254)); clear BK254; clear HB; have BK254 := n0_; have HB := n1_; have BK255 := n2_; have GW255 := n3_; have GE255 := n4_; have NB254_255 := n5_; have NB255_254 := n6_; clear n0_ n1_ n2_ n3_ n4_ n5_ n6_; clear hb hbox hg; have hnb24 := NB254_255.out; have hnc24 := NB255_254.out; have hcz25_0 : w23.cell? ⟨gb254, 0, none⟩ = some (.int .i16 a0_0) := (blk_cell BK254.out 0).trans rfl; have hcz25_1 : w23.cell? ⟨gb254, 1, none⟩ = some (.int .i16 a0_1) := (blk_cell BK254.out 1).trans rfl; have hcz25_2 : w23.cell? ⟨gb254, 2, none⟩ = some (.bool a0_2) := (blk_cell BK254.out 2).trans rfl; have hfz25_0 := blk_frozen BK254.out 0; have hfz25_1 := blk_frozen BK254.out 1; have hfz25_2 := blk_frozen BK254.out 2; have hcz26_0 : w23.cell? ⟨gb255, 0, none⟩ = some (.int .i16 a1_0) := (blk_cell BK255.out 0).trans rfl; have hcz26_1 : w23.cell? ⟨gb255, 1, none⟩ = some (.int .i16 a1_1) := (blk_cell BK255.out 1).trans rfl; have hcz26_2 : w23.cell? ⟨gb255, 2, none⟩ = some (.bool a1_2) := (blk_cell BK255.out 2).trans rfl; have hfz26_0 := blk_frozen BK255.out 0; have hfz26_1 := blk_frozen BK255.out 1; have hfz26_2 := blk_frozen BK255.out 2) | ((with_reducible refine gate_callee (f := 114) rfl ?_); refine goesL_ (some 9) rfl rfl Try.func114 (by kernel_rfl) rfl #[.agg #[.int .i16 a0_0, .int .i16 a0_1], .agg #[.int .i16 a1_0, .int .i16 a1_1]] rfl a174_ ?_; (with_reducible refine (laws_eqMark.calls k a0_0 a0_1 a1_0 a1_1 false _ A3.out).mono ?_); rintro e w27 ⟨rfl, hb⟩; refine ⟨_, rfl, ?_⟩; have n0_ := Aside0.mk (blk_below (g := gb254) a171_ hb); have n1_ := Aside0.mk (blk_below (g := gb255) a175_ hb); have n2_ := Aside0.mk (below_step a173_ hb); clear BK254; clear BK255; clear HB; have BK254 := n0_; have BK255 := n1_; have HB := n2_; clear n0_ n1_ n2_; (try clear hb); (try clear hb2); (try clear hk); (try clear hi)))
  go_ret
  exact ⟨by first | rfl | (simp [errW_none, errW_some] <;> rfl) | (simp [*, errW_none, errW_some] <;> rfl), by repeat (first | (with_reducible first | exact HB.out | apply below_alloc | apply pw_below_drewN | apply below_drew1 | refine below_set ?_ GE254.out | refine below_set ?_ GE255.out) | exact HB.out)⟩

/-! ### steps of laws_eqStopS that come again: each is read where it is used -/
theorem a181_ {p : Prop} (h : p := by first | exact ((HB.out.cell (World.block_lt_of_cell? w _ hw257_0)).trans hw257_0) | exact ((HB.out.cell (World.block_lt_of_cell? w _ hv257_0)).trans hv257_0) | exact hx257_0) : p := h
theorem a182_ {p : Prop} (h : p := by first | exact ((HB.out.cell (World.block_lt_of_cell? w _ hw257_1)).trans hw257_1) | exact ((HB.out.cell (World.block_lt_of_cell? w _ hv257_1)).trans hv257_1) | exact hx257_1) : p := h
theorem a183_ {p : Prop} (h : p := by first | exact ((HB.out.cell (World.block_lt_of_cell? w _ hw257_2)).trans hw257_2) | exact ((HB.out.cell (World.block_lt_of_cell? w _ hv257_2)).trans hv257_2) | exact hx257_2) : p := h
theorem a184_ {p : Prop} (h : p := by first | exact ((HB.out.cell (World.block_lt_of_cell? w _ hw258_0)).trans hw258_0) | exact ((HB.out.cell (World.block_lt_of_cell? w _ hv258_0)).trans hv258_0) | exact hx258_0) : p := h
theorem a185_ {p : Prop} (h : p := by first | exact ((HB.out.cell (World.block_lt_of_cell? w _ hw258_1)).trans hw258_1) | exact ((HB.out.cell (World.block_lt_of_cell? w _ hv258_1)).trans hv258_1) | exact hx258_1) : p := h
theorem a186_ {p : Prop} (h : p := by first | exact ((HB.out.cell (World.block_lt_of_cell? w _ hw258_2)).trans hw258_2) | exact ((HB.out.cell (World.block_lt_of_cell? w _ hv258_2)).trans hv258_2) | exact hx258_2) : p := h
theorem a187_ {p : Prop} (h : p := by first | (with_reducible assumption) | assumption) : p := h
theorem a188_ {p : Prop} (h : p := by (try simp only [List.map_toArray, List.map_cons, List.map_nil]); first | done | rfl | (simp only [List.length_drop, List.length_take]; rfl)) : p := h
theorem a189_ {p : Prop} (h : p := by repeat (first | (with_reducible first | exact HB.out | apply below_alloc | apply pw_below_drewN | apply below_drew1) | exact HB.out)) : p := h

/-! ### laws_eqStopS: function 55 -/
def laws_eqStopS.l0 : Nat → List (S118) → List (S118) → Int → Option (Bool)
  | 0, _, _, _ => none
  | k + 1, x0, x1, x5 => if x5 < (x0.length : Int) then (if 0 ≤ x5 then (if x5 < (x1.length : Int) then ((laws_eqStop.f k ((rd_T118 x0 x5).f0.f0) ((rd_T118 x0 x5).f0.f1) ((rd_T118 x0 x5).f1) ((rd_T118 x1 x5).f0.f0) ((rd_T118 x1 x5).f0.f1) ((rd_T118 x1 x5).f1)).bind fun t259 => (if t259 = true then (laws_eqStopS.l0 k x0 x1 (wrap64 (x5 + 1))) else (some false))) else (none)) else (none)) else (some true)
def laws_eqStopS.f (k : Nat) (l0 : List (S118)) (l1 : List (S118)) : Option (Bool) := if (l0.length : Int) = (l1.length : Int) then (laws_eqStopS.l0 k l0 l1 0) else (some false)
theorem laws_eqStopS.mono_l : ∀ k, (∀ y0 y1 y2, LeO (laws_eqStopS.l0 k y0 y1 y2) (laws_eqStopS.l0 (k + 1) y0 y1 y2))
  | 0 => fun _ _ _ r h => by simp [laws_eqStopS.l0] at h
  | k + 1 => by
    have ih0 := laws_eqStopS.mono_l k
    · intro y0 y1 y2
      unfold laws_eqStopS.l0
      repeat' first
      | (with_reducible exact ih0 _ _ _)
      | (with_reducible exact laws_eqStop.mono _ _ _ _ _ _ _)
      | (with_reducible exact LeO.refl _)
      | (with_reducible exact LeO.none _)
      | (with_reducible refine LeO.ite ?_ ?_)
      | (with_reducible refine LeO.bind ?_ (fun _ => ?_))
      | exact ih0 _ _ _
      | exact laws_eqStop.mono _ _ _ _ _ _ _
      | exact LeO.none _
      | refine LeO.ite ?_ ?_
      | refine LeO.bind ?_ (fun _ => ?_)
theorem laws_eqStopS.mono : ∀ a0 a1 k, LeO (laws_eqStopS.f k a0 a1) (laws_eqStopS.f (k + 1) a0 a1) := by
  intro a0 a1 k
  have ih0 := laws_eqStopS.mono_l k
  unfold laws_eqStopS.f
  repeat' first
      | (with_reducible exact ih0 _ _ _)
      | (with_reducible exact laws_eqStop.mono _ _ _ _ _ _ _)
      | (with_reducible exact LeO.refl _)
      | (with_reducible exact LeO.none _)
      | (with_reducible refine LeO.ite ?_ ?_)
      | (with_reducible refine LeO.bind ?_ (fun _ => ?_))
      | exact ih0 _ _ _
      | exact laws_eqStop.mono _ _ _ _ _ _ _
      | exact LeO.none _
      | refine LeO.ite ?_ ?_
      | refine LeO.bind ?_ (fun _ => ?_)
def laws_eqStopS.T6 : Bool × List (List Nat × List Nat) := (true, [([], []), ([], []), ([0, 1], [0, 1]), ([2], [2]), ([], []), ([], []), ([4, 5], [4, 5]), ([6], [6]), ([3, 7], [3, 7]), ([8], [8])])
def laws_eqStopS.B6 : List Nat := [0, 0, 3, 7, 0, 0, 48, 112, 255, 511]
theorem laws_eqStopS.tab6 : rtab .any (opsOf Try.f55 6) = laws_eqStopS.T6 := by kernel_rfl
theorem laws_eqStopS.bits6 : waitsOk laws_eqStopS.T6.2 laws_eqStopS.B6 = true := by kernel_rfl
/-! ### laws_eqStopS: what follows is its proof -/

end Go.Proofs.Ytnjcmalmnofbmaa.XFnExactMachineFor
