/- Printed by this repository's own program (wip/tools/xprint.py) for the law FnExactCheckReach: Lean functions that say what the Go functions compute, and the proofs that the machine comes to just that; no condition beyond those in each statement. -/
import Derived.Deep.WholeRow
import Derived.Laws.CopyOwn
import Derived.Test.YtkgeppbjfkhjcaaXFnExactCheckReachx0
import Derived.Test.YtkgeppbjfkhjcaaXFnExactCheckReachx6
import Derived.Test.YtkgeppbjfkhjcaaXFnExactCheckReachx7
namespace Go.Proofs.Ytkgeppbjfkhjcaa.XFnExactCheckReach
open Go.RowKit Go.Proofs.YtkgeppbjfkhjcaaW.PrintWords Go.Proofs.YtkgeppbjfkhjcaaW.PrintLast Go.Proofs.YtkgeppbjfkhjcaaW.PrintMore
attribute [local go_sem] max2_int min2_int max_two min_two max_three min_three max_four min_four   -- for this text's walks alone
set_option linter.unusedVariables false
set_option linter.unusedSimpArgs false

/-! ### impl_CheckReach: function 16 -/
mutual
def impl_CheckReach.j0 : Nat → Int → List (S69) → Bool → List Int → Int → Int → Int → Option (Bool × Int)
  | 0, _, _, _, _, _, _, _ => none
  | k + 1, x3, x4, x47, x204000, x204001, x204002, x204003 => if x47 = true then (some (false, 0)) else (impl_CheckReach.l0 k x3 x4 (wrap64 (x204002 + 2)) 0 x204000 x204001 x204002 x204003)
def impl_CheckReach.l0 : Nat → Int → List (S69) → Int → Int → List Int → Int → Int → Int → Option (Bool × Int)
  | 0, _, _, _, _, _, _, _, _ => none
  | k + 1, x3, x4, x50, x51, x204000, x204001, x204002, x204003 => if x51 < x50 then (if 0 ≤ x51 then (if x51 < (x4.length : Int) then ((impl_stretch_allowed.f x204000 x204001 x204002 x204003 x51).bind fun t212 => ((impl_led.f k ((rd_T69 x4 x51).f0) x3 t212).bind fun t213 => (if 0 ≤ (wrap64 (x51 + 1)) then (if (wrap64 (x51 + 1)) < (x4.length : Int) then ((impl_isWithin.f k t213 ((rd_T69 x4 (wrap64 (x51 + 1))).f0)).bind fun t215 => (if t215 = true then (impl_CheckReach.l0 k x3 x4 x50 (wrap64 (x51 + 1)) x204000 x204001 x204002 x204003) else (some (false, 0)))) else (none)) else (none)))) else (none)) else (none)) else (some (true, 0))
end
def impl_CheckReach.f (k : Nat) (l0 : List Int) (a1 : Int) (a2 : Int) (a3 : Int) (l4 : List (S69)) : Option (Bool × Int) := (impl_stretch_code.f k l0 a1 (wrap64 ((l4.length : Int) - 3)) a2 a3).bind fun t204 => (if t204 = 0 then ((impl_stretch_pair.f l0 a1 (wrap64 ((l4.length : Int) - 3)) a2).bind fun bt205 => ((impl_onePair.f bt205.1 bt205.2).bind fun t207 => (if 0 < (l4.length : Int) then ((impl_isWithin.f k t207 ((rd_T69 l4 0).f0)).bind fun t209 => (if t209 = true then (if 0 ≤ (wrap64 ((l4.length : Int) - 1)) then (if (wrap64 ((l4.length : Int) - 1)) < (l4.length : Int) then (if plq ((rd_T69 l4 (wrap64 ((l4.length : Int) - 1))).f0) = true then (impl_CheckReach.j0 k a3 l4 false l0 a1 (wrap64 ((l4.length : Int) - 3)) a2) else (impl_CheckReach.j0 k a3 l4 true l0 a1 (wrap64 ((l4.length : Int) - 3)) a2)) else (none)) else (none)) else (impl_CheckReach.j0 k a3 l4 true l0 a1 (wrap64 ((l4.length : Int) - 3)) a2))) else (none)))) else (some (false, t204)))
theorem impl_CheckReach.mono_l : ∀ k, (∀ y0 y1 y2 y3 y4 y5 y6, LeO (impl_CheckReach.j0 k y0 y1 y2 y3 y4 y5 y6) (impl_CheckReach.j0 (k + 1) y0 y1 y2 y3 y4 y5 y6)) ∧ (∀ y0 y1 y2 y3 y4 y5 y6 y7, LeO (impl_CheckReach.l0 k y0 y1 y2 y3 y4 y5 y6 y7) (impl_CheckReach.l0 (k + 1) y0 y1 y2 y3 y4 y5 y6 y7))
  | 0 => ⟨fun _ _ _ _ _ _ _ r h => by simp [impl_CheckReach.j0] at h, fun _ _ _ _ _ _ _ _ r h => by simp [impl_CheckReach.l0] at h⟩
  | k + 1 => by
    obtain ⟨ih0, ih1⟩ := impl_CheckReach.mono_l k
    refine ⟨?_, ?_⟩
    · intro y0 y1 y2 y3 y4 y5 y6
      unfold impl_CheckReach.j0
      repeat' first
      | (with_reducible exact ih0 _ _ _ _ _ _ _)
      | (with_reducible exact ih1 _ _ _ _ _ _ _ _)
      | (with_reducible exact impl_isWithin.mono _ _ _)
      | (with_reducible exact impl_led.mono _ _ _ _)
      | (with_reducible exact impl_stretch_code.mono _ _ _ _ _ _)
      | (with_reducible exact LeO.refl _)
      | (with_reducible exact LeO.none _)
      | (with_reducible refine LeO.ite ?_ ?_)
      | (with_reducible refine LeO.bind ?_ (fun _ => ?_))
      | exact ih0 _ _ _ _ _ _ _
      | exact ih1 _ _ _ _ _ _ _ _
      | exact impl_isWithin.mono _ _ _
      | exact impl_led.mono _ _ _ _
      | exact impl_stretch_code.mono _ _ _ _ _ _
      | exact LeO.none _
      | refine LeO.ite ?_ ?_
      | refine LeO.bind ?_ (fun _ => ?_)
    · intro y0 y1 y2 y3 y4 y5 y6 y7
      unfold impl_CheckReach.l0
      repeat' first
      | (with_reducible exact ih0 _ _ _ _ _ _ _)
      | (with_reducible exact ih1 _ _ _ _ _ _ _ _)
      | (with_reducible exact impl_isWithin.mono _ _ _)
      | (with_reducible exact impl_led.mono _ _ _ _)
      | (with_reducible exact impl_stretch_code.mono _ _ _ _ _ _)
      | (with_reducible exact LeO.refl _)
      | (with_reducible exact LeO.none _)
      | (with_reducible refine LeO.ite ?_ ?_)
      | (with_reducible refine LeO.bind ?_ (fun _ => ?_))
      | exact ih0 _ _ _ _ _ _ _
      | exact ih1 _ _ _ _ _ _ _ _
      | exact impl_isWithin.mono _ _ _
      | exact impl_led.mono _ _ _ _
      | exact impl_stretch_code.mono _ _ _ _ _ _
      | exact LeO.none _
      | refine LeO.ite ?_ ?_
      | refine LeO.bind ?_ (fun _ => ?_)
theorem impl_CheckReach.mono : ∀ a0 a1 a2 a3 a4 k, LeO (impl_CheckReach.f k a0 a1 a2 a3 a4) (impl_CheckReach.f (k + 1) a0 a1 a2 a3 a4) := by
  intro a0 a1 a2 a3 a4 k
  obtain ⟨ih0, ih1⟩ := impl_CheckReach.mono_l k
  unfold impl_CheckReach.f
  repeat' first
      | (with_reducible exact ih0 _ _ _ _ _ _ _)
      | (with_reducible exact ih1 _ _ _ _ _ _ _ _)
      | (with_reducible exact impl_isWithin.mono _ _ _)
      | (with_reducible exact impl_led.mono _ _ _ _)
      | (with_reducible exact impl_stretch_code.mono _ _ _ _ _ _)
      | (with_reducible exact LeO.refl _)
      | (with_reducible exact LeO.none _)
      | (with_reducible refine LeO.ite ?_ ?_)
      | (with_reducible refine LeO.bind ?_ (fun _ => ?_))
      | exact ih0 _ _ _ _ _ _ _
      | exact ih1 _ _ _ _ _ _ _ _
      | exact impl_isWithin.mono _ _ _
      | exact impl_led.mono _ _ _ _
      | exact impl_stretch_code.mono _ _ _ _ _ _
      | exact LeO.none _
      | refine LeO.ite ?_ ?_
      | refine LeO.bind ?_ (fun _ => ?_)
def impl_CheckReach.T5 : Bool × List (List Nat × List Nat) := (true, [([], []), ([0], [0]), ([1], [1]), ([1], [1]), ([2, 3, 1], [2, 3]), ([], []), ([5], [5]), ([6], [6]), ([4, 7, 4], [4, 7]), ([8], [8]), ([9, 8], [9]), ([10], [10]), ([10], [10]), ([12, 10], [10, 12]), ([13, 10], [10, 13]), ([11, 14, 10], [10, 11, 14]), ([15, 10], [10, 15]), ([10], [10]), ([16, 17, 10], [10, 16, 17]), ([10, 18], [10, 18])])
def impl_CheckReach.B5 : List Nat := [0, 1, 3, 3, 15, 0, 32, 96, 255, 511, 1023, 2047, 2047, 6143, 14335, 32767, 65535, 2047, 262143, 524287]
theorem impl_CheckReach.tab5 : rtab .any (opsOf Try.f16 5) = impl_CheckReach.T5 := by kernel_rfl
theorem impl_CheckReach.bits5 : waitsOk impl_CheckReach.T5.2 impl_CheckReach.B5 = true := by kernel_rfl
def impl_CheckReach.T10 : Bool × List (List Nat × List Nat) := (true, [([], []), ([], []), ([0, 1], [0, 1]), ([2], [2]), ([], []), ([], []), ([], []), ([5, 6], [5, 6]), ([3, 4, 7, 7], [3, 4, 7]), ([], []), ([], []), ([10], [10]), ([9, 11], [9, 11]), ([12], [12]), ([8, 13, 8], [8, 13]), ([14], [14])])
def impl_CheckReach.B10 : List Nat := [0, 0, 3, 7, 0, 0, 0, 96, 255, 0, 0, 1024, 3584, 7680, 16383, 32767]
theorem impl_CheckReach.tab10 : rtab .any (opsOf Try.f16 10) = impl_CheckReach.T10 := by kernel_rfl
theorem impl_CheckReach.bits10 : waitsOk impl_CheckReach.T10.2 impl_CheckReach.B10 = true := by kernel_rfl
set_option maxHeartbeats 8000000 in
set_option maxRecDepth 100000 in
theorem impl_CheckReach.calls (k : Nat) (A0 : Option Addr) (c0 : Nat) (l0 : List Int) (a1 : Int) (a2 : Int) (a3 : Int) (A4 : Option Addr) (c4 : Nat) (l4 : List (S69)) (r1 : Bool) (r2 : Int) (w : World) (hr0 : Kd.C (Kd.int .i16) w A0 l0.length l0) (hc0 : l0.length ≤ c0) (hr4 : Kd.C k69 w A4 l4.length l4) (hc4 : l4.length ≤ c4) (h : impl_CheckReach.f k l0 a1 a2 a3 l4 = some (r1, r2)) :
    Calls Try.prog 16 #[.slice A0 l0.length c0, .int .i64 a1, .int .i64 a2, .int .i64 a3, .slice A4 l4.length c4] w fun e w' => e = .returned (.tuple #[.bool r1, .int .i64 r2]) ∧ Below w.heap.size w w' := by
  have hu75 := Try.underlying75
  have hu69 := Try.underlying69
  have HR0 := Aside0.mk hr0
  have HC0 := Aside0.mk hc0
  clear hr0 hc0
  have HR4 := Aside0.mk hr4
  have HC4 := Aside0.mk hc4
  clear hr4 hc4
  have HB := Aside0.mk (Below.refl w.heap.size w)
  have H : ((impl_stretch_code.f k l0 a1 (wrap64 ((l4.length : Int) - 3)) a2 a3).bind fun t204 => (if t204 = 0 then ((impl_stretch_pair.f l0 a1 (wrap64 ((l4.length : Int) - 3)) a2).bind fun bt205 => ((impl_onePair.f bt205.1 bt205.2).bind fun t207 => (if 0 < (l4.length : Int) then ((impl_isWithin.f k t207 ((rd_T69 l4 0).f0)).bind fun t209 => (if t209 = true then (if 0 ≤ (wrap64 ((l4.length : Int) - 1)) then (if (wrap64 ((l4.length : Int) - 1)) < (l4.length : Int) then (if plq ((rd_T69 l4 (wrap64 ((l4.length : Int) - 1))).f0) = true then (impl_CheckReach.j0 k a3 l4 false l0 a1 (wrap64 ((l4.length : Int) - 3)) a2) else (impl_CheckReach.j0 k a3 l4 true l0 a1 (wrap64 ((l4.length : Int) - 3)) a2)) else (none)) else (none)) else (impl_CheckReach.j0 k a3 l4 true l0 a1 (wrap64 ((l4.length : Int) - 3)) a2))) else (none)))) else (some (false, t204)))) = some (r1, r2) := h
  clear h
  replace H := Option.bind_eq_some_iff.mp H
  obtain ⟨t204, A60, H⟩ := H
  replace H : (if t204 = 0 then ((impl_stretch_pair.f l0 a1 (wrap64 ((l4.length : Int) - 3)) a2).bind fun bt205 => ((impl_onePair.f bt205.1 bt205.2).bind fun t207 => (if 0 < (l4.length : Int) then ((impl_isWithin.f k t207 ((rd_T69 l4 0).f0)).bind fun t209 => (if t209 = true then (if 0 ≤ (wrap64 ((l4.length : Int) - 1)) then (if (wrap64 ((l4.length : Int) - 1)) < (l4.length : Int) then (if plq ((rd_T69 l4 (wrap64 ((l4.length : Int) - 1))).f0) = true then (impl_CheckReach.j0 k a3 l4 false l0 a1 (wrap64 ((l4.length : Int) - 3)) a2) else (impl_CheckReach.j0 k a3 l4 true l0 a1 (wrap64 ((l4.length : Int) - 3)) a2)) else (none)) else (none)) else (impl_CheckReach.j0 k a3 l4 true l0 a1 (wrap64 ((l4.length : Int) - 3)) a2))) else (none)))) else (some (false, t204))) = some (r1, r2) := H
  have A6 := Aside0.mk A60
  clear A60
  by_cases c7 : t204 = 0
  · rw [if_pos c7] at H
    have c7b0 : (t204 == 0) = true := beq_iff_eq.mpr c7
    have c7b1 : (t204 != 0) = false := bne_eq_false_iff_eq.mpr c7
    clear c7
    have HC8 := Aside0.mk H
    clear H
    go_enter Try.func16, Try.ntmps16
    go_upto_region 5 with (first | ((with_reducible refine gate_dst (N := 12) rfl ?_); (try (refine gate_guard (by rfl) ?_; dsimp only)); refine box_event ?hg (N := 12) ?hd (cs := #[.slice none 0 0, .int .i64 0, .int .i64 0, .int .i64 0]) (t := 75) ?hr ?_; (case hd => rfl); (case hg => rfl); (case hr => first | (go_simp; done) | (go_simp; rfl)); intro gb203 hg w9 hbox hb; have n0_ := Aside0.mk (below_step (by repeat (first | (with_reducible first | exact HB.out | apply below_alloc | apply pw_below_drewN | apply below_drew1) | exact HB.out)) hb); have n1_ := Aside0.mk (hbox); have n2_ := Aside0.mk ((by rw [hg]; exact (below_size (by repeat (first | (with_reducible first | exact HB.out | apply below_alloc | apply pw_below_drewN | apply below_drew1) | exact HB.out))) : w.heap.size ≤ gb203)); have n3_ := Aside0.mk ((by rw [hg]; exact (below_size (by repeat (first | (with_reducible first | exact HB.out | apply below_alloc | apply pw_below_drewN | apply below_drew1) | exact HB.out))) : w.heap.size ≤ gb203)); clear HB; have HB := n0_; have BK203 := n1_; have GW203 := n2_; have GE203 := n3_; clear n0_ n1_ n2_ n3_; clear hb hbox hg; have hcz10_0 : w9.cell? ⟨gb203, 0, none⟩ = some (.slice none 0 0) := (blk_cell BK203.out 0).trans rfl; have hcz10_1 : w9.cell? ⟨gb203, 1, none⟩ = some (.int .i64 0) := (blk_cell BK203.out 1).trans rfl; have hcz10_2 : w9.cell? ⟨gb203, 2, none⟩ = some (.int .i64 0) := (blk_cell BK203.out 2).trans rfl; have hcz10_3 : w9.cell? ⟨gb203, 3, none⟩ = some (.int .i64 0) := (blk_cell BK203.out 3).trans rfl; have hfz10_0 := blk_frozen BK203.out 0; have hfz10_1 := blk_frozen BK203.out 1; have hfz10_2 := blk_frozen BK203.out 2; have hfz10_3 := blk_frozen BK203.out 3) | ((with_reducible refine gate_callee (f := 36) rfl ?_); refine goesL_ (some 24) rfl rfl Try.func36 (by kernel_rfl) rfl #[.agg #[.slice A0 l0.length c0, .int .i64 a1, .int .i64 (wrap64 ((l4.length : Int) - 3)), .int .i64 a2], .int .i64 a3] rfl (by (try simp only [List.map_toArray, List.map_cons, List.map_nil]); first | done | rfl | (simp only [List.length_drop, List.length_take]; rfl)) ?_; (with_reducible refine (impl_stretch_code.calls k _ _ l0 a1 (wrap64 ((l4.length : Int) - 3)) a2 a3 t204 _ ?side1 ?side2 A6.out).mono ?_); (case side1 => exact Kd.C_below HR0.out (by repeat (first | (with_reducible first | exact HB.out | apply below_alloc | apply pw_below_drewN | apply below_drew1 | refine below_set ?_ GE203.out) | exact HB.out))); (case side2 => exact HC0.out); rintro e w11 ⟨rfl, hb⟩; refine ⟨_, rfl, ?_⟩; have n0_ := Aside0.mk (blk_below (g := gb203) (o := .cells #[.slice A0 l0.length c0, .int .i64 a1, .int .i64 (wrap64 ((l4.length : Int) - 3)), .int .i64 a2] 75 (0, 0)) (by (with_reducible repeat (first | refine blk_drewN ?_ _ | refine blk_drew ?_ | refine blk_alloc ?_ _)); refine blk_put (cs := #[.slice A0 l0.length c0, .int .i64 a1, .int .i64 (wrap64 ((l4.length : Int) - 3)), .int .i64 0]) ?_ 3 _ rfl; (with_reducible repeat (first | refine blk_drewN ?_ _ | refine blk_drew ?_ | refine blk_alloc ?_ _)); refine blk_put (cs := #[.slice A0 l0.length c0, .int .i64 a1, .int .i64 0, .int .i64 0]) ?_ 2 _ rfl; (with_reducible repeat (first | refine blk_drewN ?_ _ | refine blk_drew ?_ | refine blk_alloc ?_ _)); refine blk_put (cs := #[.slice A0 l0.length c0, .int .i64 0, .int .i64 0, .int .i64 0]) ?_ 1 _ rfl; (with_reducible repeat (first | refine blk_drewN ?_ _ | refine blk_drew ?_ | refine blk_alloc ?_ _)); refine blk_put (cs := #[.slice none 0 0, .int .i64 0, .int .i64 0, .int .i64 0]) ?_ 0 _ rfl; (with_reducible repeat (first | refine blk_drewN ?_ _ | refine blk_drew ?_ | refine blk_alloc ?_ _)); exact BK203.out) hb); have n1_ := Aside0.mk (below_step (by repeat (first | (with_reducible first | exact HB.out | apply below_alloc | apply pw_below_drewN | apply below_drew1 | refine below_set ?_ GE203.out) | exact HB.out)) hb); clear BK203; clear HB; have BK203 := n0_; have HB := n1_; clear n0_ n1_; (try clear hb); (try clear hb2); (try clear hk); (try clear hi)))
    (try simp only [Act.put, List.setIfInBounds_toArray, List.set_cons_zero, List.set_cons_succ])
    go_cut [47] (fun v47 wc => ∃ (kq : Nat) (x47_7 : Bool), v47 = .bool x47_7 ∧ Aside0 (impl_CheckReach.j0 kq a3 l4 x47_7 l0 a1 (wrap64 ((l4.length : Int) - 3)) a2 = some (r1, r2)) ∧ Aside0 (kq ≤ k) ∧ Aside0 (wc.heap[gb203]? = some (.cells #[(.slice A0 l0.length c0), .int .i64 a1, .int .i64 (wrap64 ((l4.length : Int) - 3)), .int .i64 a2] 75 (0, 0))) ∧ Aside0 (Below w.heap.size w wc))
    case first =>
      have H := HC8.out
      clear HC8
      replace H := Option.bind_eq_some_iff.mp H
      obtain ⟨⟨t205, t206⟩, A120, H⟩ := H
      replace H : ((impl_onePair.f t205 t206).bind fun t207 => (if 0 < (l4.length : Int) then ((impl_isWithin.f k t207 ((rd_T69 l4 0).f0)).bind fun t209 => (if t209 = true then (if 0 ≤ (wrap64 ((l4.length : Int) - 1)) then (if (wrap64 ((l4.length : Int) - 1)) < (l4.length : Int) then (if plq ((rd_T69 l4 (wrap64 ((l4.length : Int) - 1))).f0) = true then (impl_CheckReach.j0 k a3 l4 false l0 a1 (wrap64 ((l4.length : Int) - 3)) a2) else (impl_CheckReach.j0 k a3 l4 true l0 a1 (wrap64 ((l4.length : Int) - 3)) a2)) else (none)) else (none)) else (impl_CheckReach.j0 k a3 l4 true l0 a1 (wrap64 ((l4.length : Int) - 3)) a2))) else (none))) = some (r1, r2) := H
      have A12 := Aside0.mk A120
      clear A120
      replace H := Option.bind_eq_some_iff.mp H
      obtain ⟨t207, A130, H⟩ := H
      replace H : (if 0 < (l4.length : Int) then ((impl_isWithin.f k t207 ((rd_T69 l4 0).f0)).bind fun t209 => (if t209 = true then (if 0 ≤ (wrap64 ((l4.length : Int) - 1)) then (if (wrap64 ((l4.length : Int) - 1)) < (l4.length : Int) then (if plq ((rd_T69 l4 (wrap64 ((l4.length : Int) - 1))).f0) = true then (impl_CheckReach.j0 k a3 l4 false l0 a1 (wrap64 ((l4.length : Int) - 3)) a2) else (impl_CheckReach.j0 k a3 l4 true l0 a1 (wrap64 ((l4.length : Int) - 3)) a2)) else (none)) else (none)) else (impl_CheckReach.j0 k a3 l4 true l0 a1 (wrap64 ((l4.length : Int) - 3)) a2))) else (none)) = some (r1, r2) := H
      have A13 := Aside0.mk A130
      clear A130
      by_cases c14 : 0 < (l4.length : Int)
      · rw [if_pos c14] at H
        have c14b0 : decide (0 < (l4.length : Int)) = true := decide_eq_true c14
        have c14b1 : decide (0 < l4.length) = true := decide_eq_true (by omega)
        clear c14
        (first | rw [c14b0] | (simp only [i64_w, i32_w]; rw [c14b0]) | skip)
        replace H := Option.bind_eq_some_iff.mp H
        obtain ⟨t209, A150, H⟩ := H
        replace H : (if t209 = true then (if 0 ≤ (wrap64 ((l4.length : Int) - 1)) then (if (wrap64 ((l4.length : Int) - 1)) < (l4.length : Int) then (if plq ((rd_T69 l4 (wrap64 ((l4.length : Int) - 1))).f0) = true then (impl_CheckReach.j0 k a3 l4 false l0 a1 (wrap64 ((l4.length : Int) - 3)) a2) else (impl_CheckReach.j0 k a3 l4 true l0 a1 (wrap64 ((l4.length : Int) - 3)) a2)) else (none)) else (none)) else (impl_CheckReach.j0 k a3 l4 true l0 a1 (wrap64 ((l4.length : Int) - 3)) a2)) = some (r1, r2) := H
        have A15 := Aside0.mk A150
        clear A150
        by_cases c16 : t209 = true
        · subst c16
          have H1 : (if 0 ≤ (wrap64 ((l4.length : Int) - 1)) then (if (wrap64 ((l4.length : Int) - 1)) < (l4.length : Int) then (if plq ((rd_T69 l4 (wrap64 ((l4.length : Int) - 1))).f0) = true then (impl_CheckReach.j0 k a3 l4 false l0 a1 (wrap64 ((l4.length : Int) - 3)) a2) else (impl_CheckReach.j0 k a3 l4 true l0 a1 (wrap64 ((l4.length : Int) - 3)) a2)) else (none)) else (none)) = some (r1, r2) := by rw [if_pos rfl] at H; exact H
          clear H
          have H := H1
          clear H1
          obtain ⟨ji17, hji17⟩ : ∃ j_ : Int, (wrap64 ((l4.length : Int) - 1)) = j_ := ⟨_, rfl⟩
          replace H : (if 0 ≤ (ji17) then (if (ji17) < (l4.length : Int) then (if plq ((rd_T69 l4 (ji17)).f0) = true then (impl_CheckReach.j0 k a3 l4 false l0 a1 (wrap64 ((l4.length : Int) - 3)) a2) else (impl_CheckReach.j0 k a3 l4 true l0 a1 (wrap64 ((l4.length : Int) - 3)) a2)) else (none)) else (none)) = some (r1, r2) := by first | (rw [hji17] at H; exact H) | (simp only [hji17] at H ⊢; exact H)
          (try rw [hji17] at A12)
          (try rw [hji17] at A13)
          (try rw [hji17] at A15)
          have hji17w : (IntKind.i64.wrap ((l4.length : Int) - 1)) = ji17 := (i64_w _).trans hji17
          by_cases c18 : 0 ≤ (ji17)
          · rw [if_pos c18] at H
            have c18b0 : decide (0 ≤ (ji17)) = true := decide_eq_true c18
            clear c18
            by_cases c19 : (ji17) < (l4.length : Int)
            · rw [if_pos c19] at H
              have c19b0 : decide ((ji17) < (l4.length : Int)) = true := decide_eq_true c19
              clear c19
              by_cases c20 : plq ((rd_T69 l4 (ji17)).f0) = true
              · rw [if_pos c20] at H
                have PZe : plq ((rd_T69 l4 (ji17)).f0) = true := c20
                have PZn : (!plq ((rd_T69 l4 (ji17)).f0)) = false := by rw [c20]; rfl
                clear c20
                have H' := Aside0.mk H
                clear H
                try go_wp2
                have n0_ := Aside0.mk (blk_drew BK203.out)
                have n1_ := Aside0.mk (below_drew1 HB.out)
                clear BK203
                clear HB
                have BK203 := n0_
                have HB := n1_
                clear n0_ n1_
                have p208 : 0 ≤ (0 : Int) := (by omega)
                have q208 : 0 < (l4.length : Int) := of_decide_eq_true (by first | (with_reducible assumption) | assumption)
                obtain ⟨ad208, e208, hx208_0⟩ := at_T69 HR4.out 0 p208 q208
                have hw208_0 := hx208_0
                (try rw [show ((0 : Int)).toNat = 0 from rfl] at hw208_0)
                (try rw [show 0 * 64 = 0 from rfl] at hw208_0)
                (try rw [Addr.add_zero'] at hw208_0)
                cases e208
                have qi208 : (0 < l4.length) = True := eq_true (by omega)
                (try rw [show ((0 : Int)).toNat = 0 from rfl] at hx208_0)
                (try rw [show 0 * 64 = 0 from rfl] at hx208_0)
                (try rw [Addr.add_zero'] at hx208_0)
                replace hx208_0 := plAt.below (w := w) HB.out hx208_0 hx208_0.lt
                replace p208 := eq_true p208
                replace q208 := eq_true q208
                have p210 : 0 ≤ ((ji17) : Int) := of_decide_eq_true (by first | (with_reducible assumption) | assumption)
                have q210 : (ji17) < (l4.length : Int) := of_decide_eq_true (by first | (with_reducible assumption) | assumption)
                obtain ⟨ad210, e210, hx210_0⟩ := at_T69 HR4.out (ji17) p210 q210
                have hw210_0 := hx210_0
                obtain rfl : ad208 = ad210 := (by injection e210)
                replace hx210_0 := plAt.below (w := w) HB.out hx210_0 hx210_0.lt
                replace p210 := eq_true p210
                replace q210 := eq_true q210
                refine start_ (n := 20) (S := fun w' => w'.cell? ⟨gb203, 0, none⟩ = some (.slice A0 l0.length c0) ∧ w'.cell? ⟨gb203, 1, none⟩ = some (.int .i64 a1) ∧ w'.cell? ⟨gb203, 2, none⟩ = some (.int .i64 (wrap64 ((l4.length : Int) - 3))) ∧ w'.cell? ⟨gb203, 3, none⟩ = some (.int .i64 a2) ∧ plAt w' ad208 ((rd_T69 l4 0).f0) ∧ plAt w' (ad208.add (((ji17)).toNat * 64)) ((rd_T69 l4 (ji17)).f0)) (ds := []) #[false, false, false, false, false, false, false, false, false, false, false, false, false, false, false, false, false, false, false, false] (by kernel_rfl) rfl rfl ⟨(blk_cell BK203.out 0).trans rfl, (blk_cell BK203.out 1).trans rfl, (blk_cell BK203.out 2).trans rfl, (blk_cell BK203.out 3).trans rfl, (by first | exact (plAt.below (w := w) HB.out hw208_0 hw208_0.lt) | exact (plAt.below (w := w) HB.out hv208_0 hv208_0.lt) | exact hx208_0), (by first | exact (plAt.below (w := w) HB.out hw210_0 hw210_0.lt) | exact (plAt.below (w := w) HB.out hv210_0 hv210_0.lt) | exact hx210_0)⟩ (fun hHeld => ?_); refine with_tabW impl_CheckReach.tab5 impl_CheckReach.bits5 (fun HT_ HW_ => ?_)
                generalize w11.drew = w21 at BK203 HB hx208_0 hx210_0 hHeld ⊢
                refine pure_ (i := 5) (N := some 33) (v := ?_) (a' := ?_) #[false, false, false, false, false, true, false, false, false, false, false, false, false, false, false, false, false, false, false, false] rfl rfl (any_of HT_.out (by kernel_rfl)) (fun _ _ _ h => h) (Or.inl ⟨by rfl, ?_⟩) ?_ ?_
                rotate_left
                · intro w'
                  first | (refine pl_zeroRun ?_ pbuilt69; rfl) | (refine pl_neqRunX ?_ Try.underlying69 Try.underlying24 (by kernel_rfl) pgd69 PZn; exact ⟨_, _, _, rfl, rfl, rfl⟩) | (refine pl_eqlRunX ?_ Try.underlying69 Try.underlying24 (by kernel_rfl) pgd69 PZe; exact ⟨_, _, _, rfl, rfl, rfl⟩) | (go_simp; with_reducible rfl)
                rotate_left
                · simp only [Act.put, List.setIfInBounds_toArray, List.set_cons_zero, List.set_cons_succ, i64_w, i32_w]
                  rfl
                refine pure_ (i := 6) (N := some 34) (v := ?_) (a' := ?_) #[false, false, false, false, false, true, true, false, false, false, false, false, false, false, false, false, false, false, false, false] rfl rfl (any_of HT_.out (by kernel_rfl)) (fun _ _ _ h => h) (Or.inl ⟨by rfl, ?_⟩) ?_ ?_
                rotate_left
                · intro w'
                  first | (refine pl_zeroRun ?_ pbuilt69; rfl) | (refine pl_neqRunX ?_ Try.underlying69 Try.underlying24 (by kernel_rfl) pgd69 PZn; exact ⟨_, _, _, rfl, rfl, rfl⟩) | (refine pl_eqlRunX ?_ Try.underlying69 Try.underlying24 (by kernel_rfl) pgd69 PZe; exact ⟨_, _, _, rfl, rfl, rfl⟩) | (go_simp; with_reducible rfl)
                rotate_left
                · simp only [Act.put, List.setIfInBounds_toArray, List.set_cons_zero, List.set_cons_succ, i64_w, i32_w]
                  rfl
                refine take_ (i := 0) (N := some 28) (v := ?_) (a' := ?_) #[true, false, false, false, false, true, true, false, false, false, false, false, false, false, false, false, false, false, false, false] rfl rfl (take_ofW HT_.out HW_.out (by kernel_rfl)) (fun _ _ _ h => h) (Or.inl ⟨by rfl, ?_⟩) hHeld ?_ ?_
                rotate_left
                · rintro w' ⟨s0, s1, s2, s3, s4, s5⟩
                  first | (refine pl_loadRunX ?_ s4 Try.underlying69 (info_pl pinfo69); exact ⟨_, rfl, rfl⟩) | (refine pl_loadRunX ?_ s5 Try.underlying69 (info_pl pinfo69); exact ⟨_, rfl, rfl⟩) | (go_simp; with_reducible rfl)
                rotate_left
                · simp only [Act.put, List.setIfInBounds_toArray, List.set_cons_zero, List.set_cons_succ, i64_w, i32_w]
                  rfl
                refine take_ (i := 7) (N := some 35) (v := ?_) (a' := ?_) #[true, false, false, false, false, true, true, true, false, false, false, false, false, false, false, false, false, false, false, false] rfl rfl (take_ofW HT_.out HW_.out (by kernel_rfl)) (fun _ _ _ h => h) (Or.inl ⟨by rfl, ?_⟩) hHeld ?_ ?_
                rotate_left
                · rintro w' ⟨s0, s1, s2, s3, s4, s5⟩
                  first | (refine pl_loadRunX ?_ s4 Try.underlying69 (info_pl pinfo69); exact ⟨_, rfl, rfl⟩) | (refine pl_loadRunX ?_ s5 Try.underlying69 (info_pl pinfo69); exact ⟨_, rfl, rfl⟩) | (go_simp; with_reducible rfl)
                rotate_left
                · simp only [Act.put, List.setIfInBounds_toArray, List.set_cons_zero, List.set_cons_succ, i64_w, i32_w]
                  rfl
                refine one_ (i := 1) (N := some 29) #[true, true, false, false, false, true, true, true, false, false, false, false, false, false, false, false, false, false, false, false] rfl rfl (one_of HT_.out (by kernel_rfl)) (by decide) (fun K hK => ?_)
                refine goes_ Try.func39 (by kernel_rfl) rfl #[.agg #[.slice A0 l0.length c0, .int .i64 a1, .int .i64 (wrap64 ((l4.length : Int) - 3)), .int .i64 a2]] (by rfl) rfl rfl (by (try simp only [List.map_toArray, List.map_cons, List.map_nil]); first | done | rfl | (simp only [List.length_drop, List.length_take]; rfl)) ?_
                with_reducible refine (impl_stretch_pair.calls _ _ l0 a1 (wrap64 ((l4.length : Int) - 3)) a2 t205 t206 _ ?side1 ?side2 A12.out).mono ?_
                (case side1 => repeat (first | exact (Kd.C_below HR0.out HB.out) | (with_reducible refine Kd.C_alloc ?_ _) | (with_reducible refine Kd.C_drewN ?_ _) | (with_reducible refine Kd.C_drew ?_)))
                (case side2 => exact HC0.out)
                rintro e w22 ⟨rfl, hb⟩
                refine ⟨_, rfl, ?_⟩
                have n0_ := Aside0.mk (blk_below (g := gb203) (o := .cells #[.slice A0 l0.length c0, .int .i64 a1, .int .i64 (wrap64 ((l4.length : Int) - 3)), .int .i64 a2] 75 (0, 0)) (by (with_reducible repeat (first | refine blk_drewN ?_ _ | refine blk_drew ?_ | refine blk_alloc ?_ _)); exact BK203.out) hb)
                have n1_ := Aside0.mk (below_step (by repeat (first | (with_reducible first | exact HB.out | apply below_alloc | apply pw_below_drewN | apply below_drew1 | refine below_set ?_ GE203.out) | exact HB.out)) hb)
                clear BK203
                clear HB
                have BK203 := n0_
                have HB := n1_
                clear n0_ n1_
                (try clear hb)
                (try clear hb2)
                (try clear hk)
                (try clear hi)
                refine hK.out _ _ ⟨(blk_cell BK203.out 0).trans rfl, (blk_cell BK203.out 1).trans rfl, (blk_cell BK203.out 2).trans rfl, (blk_cell BK203.out 3).trans rfl, (by first | exact (plAt.below (w := w) HB.out hw208_0 hw208_0.lt) | exact (plAt.below (w := w) HB.out hv208_0 hv208_0.lt) | exact hx208_0), (by first | exact (plAt.below (w := w) HB.out hw210_0 hw210_0.lt) | exact (plAt.below (w := w) HB.out hv210_0 hv210_0.lt) | exact hx210_0)⟩ (fun hHeld => ?_)
                clear hK K
                refine norm_ (a' := ?_) ?_ ?_
                rotate_left
                · show Act.put _ (some 29) _ = _
                  simp only [Act.put, List.setIfInBounds_toArray, List.set_cons_zero, List.set_cons_succ, i64_w, i32_w]
                  rfl
                refine pure_ (i := 2) (N := some 30) (v := ?_) (a' := ?_) #[true, true, true, false, false, true, true, true, false, false, false, false, false, false, false, false, false, false, false, false] rfl rfl (any_of HT_.out (by kernel_rfl)) (fun _ _ _ h => h) (Or.inl ⟨by rfl, ?_⟩) ?_ ?_
                rotate_left
                · intro w'
                  first | (refine pl_zeroRun ?_ pbuilt69; rfl) | (refine pl_neqRunX ?_ Try.underlying69 Try.underlying24 (by kernel_rfl) pgd69 PZn; exact ⟨_, _, _, rfl, rfl, rfl⟩) | (refine pl_eqlRunX ?_ Try.underlying69 Try.underlying24 (by kernel_rfl) pgd69 PZe; exact ⟨_, _, _, rfl, rfl, rfl⟩) | (go_simp; with_reducible rfl)
                rotate_left
                · simp only [Act.put, List.setIfInBounds_toArray, List.set_cons_zero, List.set_cons_succ, i64_w, i32_w]
                  rfl
                refine pure_ (i := 3) (N := some 31) (v := ?_) (a' := ?_) #[true, true, true, true, false, true, true, true, false, false, false, false, false, false, false, false, false, false, false, false] rfl rfl (any_of HT_.out (by kernel_rfl)) (fun _ _ _ h => h) (Or.inl ⟨by rfl, ?_⟩) ?_ ?_
                rotate_left
                · intro w'
                  first | (refine pl_zeroRun ?_ pbuilt69; rfl) | (refine pl_neqRunX ?_ Try.underlying69 Try.underlying24 (by kernel_rfl) pgd69 PZn; exact ⟨_, _, _, rfl, rfl, rfl⟩) | (refine pl_eqlRunX ?_ Try.underlying69 Try.underlying24 (by kernel_rfl) pgd69 PZe; exact ⟨_, _, _, rfl, rfl, rfl⟩) | (go_simp; with_reducible rfl)
                rotate_left
                · simp only [Act.put, List.setIfInBounds_toArray, List.set_cons_zero, List.set_cons_succ, i64_w, i32_w]
                  rfl
                refine one_ (i := 4) (N := some 32) #[true, true, true, true, true, true, true, true, false, false, false, false, false, false, false, false, false, false, false, false] rfl rfl (one_of HT_.out (by kernel_rfl)) (by decide) (fun K hK => ?_)
                refine goes_ Try.func38 (by kernel_rfl) rfl #[.int .i64 t205, .int .i64 t206] (by rfl) rfl rfl (by (try simp only [List.map_toArray, List.map_cons, List.map_nil]); first | done | rfl | (simp only [List.length_drop, List.length_take]; rfl)) ?_
                with_reducible refine (impl_onePair.calls t205 t206 t207 _ A13.out).mono ?_
                rintro e w23 ⟨rfl, hb⟩
                refine ⟨_, rfl, ?_⟩
                have n0_ := Aside0.mk (blk_below (g := gb203) (o := .cells #[.slice A0 l0.length c0, .int .i64 a1, .int .i64 (wrap64 ((l4.length : Int) - 3)), .int .i64 a2] 75 (0, 0)) (by (with_reducible repeat (first | refine blk_drewN ?_ _ | refine blk_drew ?_ | refine blk_alloc ?_ _)); exact BK203.out) hb)
                have n1_ := Aside0.mk (below_step (by repeat (first | (with_reducible first | exact HB.out | apply below_alloc | apply pw_below_drewN | apply below_drew1 | refine below_set ?_ GE203.out) | exact HB.out)) hb)
                clear BK203
                clear HB
                have BK203 := n0_
                have HB := n1_
                clear n0_ n1_
                (try clear hb)
                (try clear hb2)
                (try clear hk)
                (try clear hi)
                refine hK.out _ _ ⟨(blk_cell BK203.out 0).trans rfl, (blk_cell BK203.out 1).trans rfl, (blk_cell BK203.out 2).trans rfl, (blk_cell BK203.out 3).trans rfl, (by first | exact (plAt.below (w := w) HB.out hw208_0 hw208_0.lt) | exact (plAt.below (w := w) HB.out hv208_0 hv208_0.lt) | exact hx208_0), (by first | exact (plAt.below (w := w) HB.out hw210_0 hw210_0.lt) | exact (plAt.below (w := w) HB.out hv210_0 hv210_0.lt) | exact hx210_0)⟩ (fun hHeld => ?_)
                clear hK K
                refine norm_ (a' := ?_) ?_ ?_
                rotate_left
                · show Act.put _ (some 32) _ = _
                  simp only [Act.put, List.setIfInBounds_toArray, List.set_cons_zero, List.set_cons_succ, i64_w, i32_w]
                  rfl
                refine one_ (i := 8) (N := some 36) #[true, true, true, true, true, true, true, true, true, false, false, false, false, false, false, false, false, false, false, false] rfl rfl (one_of HT_.out (by kernel_rfl)) (by decide) (fun K hK => ?_)
                refine goes_ Try.func37 (by kernel_rfl) rfl #[.agg (plA t207), .agg (plA ((rd_T69 l4 0).f0))] (by rfl) rfl rfl (by (try simp only [List.map_toArray, List.map_cons, List.map_nil]); first | done | rfl | (simp only [List.length_drop, List.length_take]; rfl)) ?_
                with_reducible refine (impl_isWithin.calls k t207 ((rd_T69 l4 0).f0) true _ A15.out).mono ?_
                rintro e w24 ⟨rfl, hb⟩
                refine ⟨_, rfl, ?_⟩
                have n0_ := Aside0.mk (blk_below (g := gb203) (o := .cells #[.slice A0 l0.length c0, .int .i64 a1, .int .i64 (wrap64 ((l4.length : Int) - 3)), .int .i64 a2] 75 (0, 0)) (by (with_reducible repeat (first | refine blk_drewN ?_ _ | refine blk_drew ?_ | refine blk_alloc ?_ _)); exact BK203.out) hb)
                have n1_ := Aside0.mk (below_step (by repeat (first | (with_reducible first | exact HB.out | apply below_alloc | apply pw_below_drewN | apply below_drew1 | refine below_set ?_ GE203.out) | exact HB.out)) hb)
                clear BK203
                clear HB
                have BK203 := n0_
                have HB := n1_
                clear n0_ n1_
                (try clear hb)
                (try clear hb2)
                (try clear hk)
                (try clear hi)
                refine hK.out _ _ ⟨(blk_cell BK203.out 0).trans rfl, (blk_cell BK203.out 1).trans rfl, (blk_cell BK203.out 2).trans rfl, (blk_cell BK203.out 3).trans rfl, (by first | exact (plAt.below (w := w) HB.out hw208_0 hw208_0.lt) | exact (plAt.below (w := w) HB.out hv208_0 hv208_0.lt) | exact hx208_0), (by first | exact (plAt.below (w := w) HB.out hw210_0 hw210_0.lt) | exact (plAt.below (w := w) HB.out hv210_0 hv210_0.lt) | exact hx210_0)⟩ (fun hHeld => ?_)
                clear hK K
                refine norm_ (a' := ?_) ?_ ?_
                rotate_left
                · show Act.put _ (some 36) _ = _
                  simp only [Act.put, List.setIfInBounds_toArray, List.set_cons_zero, List.set_cons_succ, i64_w, i32_w]
                  rfl
                refine pure_ (i := 9) (N := some 37) (v := ?_) (a' := ?_) #[true, true, true, true, true, true, true, true, true, true, false, false, false, false, false, false, false, false, false, false] rfl rfl (any_of HT_.out (by kernel_rfl)) (fun _ _ _ h => h) (Or.inl ⟨by rfl, ?_⟩) ?_ ?_
                rotate_left
                · intro w'
                  first | (refine pl_zeroRun ?_ pbuilt69; rfl) | (refine pl_neqRunX ?_ Try.underlying69 Try.underlying24 (by kernel_rfl) pgd69 PZn; exact ⟨_, _, _, rfl, rfl, rfl⟩) | (refine pl_eqlRunX ?_ Try.underlying69 Try.underlying24 (by kernel_rfl) pgd69 PZe; exact ⟨_, _, _, rfl, rfl, rfl⟩) | (go_simp; with_reducible rfl)
                rotate_left
                · simp only [Act.put, List.setIfInBounds_toArray, List.set_cons_zero, List.set_cons_succ, i64_w, i32_w]
                  rfl
                refine pure_ (i := 10) (N := some 38) (v := ?_) (a' := ?_) #[true, true, true, true, true, true, true, true, true, true, true, false, false, false, false, false, false, false, false, false] rfl rfl (any_of HT_.out (by kernel_rfl)) (fun _ _ _ h => h) (Or.inl ⟨by rfl, ?_⟩) ?_ ?_
                rotate_left
                · intro w'
                  first | (refine pl_zeroRun ?_ pbuilt69; rfl) | (refine pl_neqRunX ?_ Try.underlying69 Try.underlying24 (by kernel_rfl) pgd69 PZn; exact ⟨_, _, _, rfl, rfl, rfl⟩) | (refine pl_eqlRunX ?_ Try.underlying69 Try.underlying24 (by kernel_rfl) pgd69 PZe; exact ⟨_, _, _, rfl, rfl, rfl⟩) | (go_simp; with_reducible rfl)
                rotate_left
                · simp only [Act.put, List.setIfInBounds_toArray, List.set_cons_zero, List.set_cons_succ, i64_w, i32_w]
                  rfl
                refine pure_ (i := 11) (N := some 39) (v := ?_) (a' := ?_) #[true, true, true, true, true, true, true, true, true, true, true, true, false, false, false, false, false, false, false, false] rfl rfl (any_of HT_.out (by kernel_rfl)) (fun _ _ _ h => h) (Or.inl ⟨by rfl, ?_⟩) ?_ ?_
                rotate_left
                · intro w'
                  first | (refine pl_zeroRun ?_ pbuilt69; rfl) | (refine pl_neqRunX ?_ Try.underlying69 Try.underlying24 (by kernel_rfl) pgd69 PZn; exact ⟨_, _, _, rfl, rfl, rfl⟩) | (refine pl_eqlRunX ?_ Try.underlying69 Try.underlying24 (by kernel_rfl) pgd69 PZe; exact ⟨_, _, _, rfl, rfl, rfl⟩) | (go_simp; with_reducible rfl)
                rotate_left
                · simp only [Act.put, List.setIfInBounds_toArray, List.set_cons_zero, List.set_cons_succ, i64_w, i32_w]
                  rfl
                refine pure_ (i := 12) (N := some 40) (v := ?_) (a' := ?_) #[true, true, true, true, true, true, true, true, true, true, true, true, true, false, false, false, false, false, false, false] rfl rfl (any_of HT_.out (by kernel_rfl)) (fun _ _ _ h => h) (Or.inl ⟨by rfl, ?_⟩) ?_ ?_
                rotate_left
                · intro w'
                  first | (refine pl_zeroRun ?_ pbuilt69; rfl) | (refine pl_neqRunX ?_ Try.underlying69 Try.underlying24 (by kernel_rfl) pgd69 PZn; exact ⟨_, _, _, rfl, rfl, rfl⟩) | (refine pl_eqlRunX ?_ Try.underlying69 Try.underlying24 (by kernel_rfl) pgd69 PZe; exact ⟨_, _, _, rfl, rfl, rfl⟩) | (go_simp; with_reducible rfl)
                rotate_left
                · simp only [Act.put, List.setIfInBounds_toArray, List.set_cons_zero, List.set_cons_succ, i64_w, i32_w]
                  rfl
                refine pure_ (i := 13) (N := some 41) (v := ?_) (a' := ?_) #[true, true, true, true, true, true, true, true, true, true, true, true, true, true, false, false, false, false, false, false] rfl rfl (any_of HT_.out (by kernel_rfl)) (fun _ _ _ h => h) (Or.inl ⟨by rfl, ?_⟩) ?_ ?_
                rotate_left
                · intro w'
                  first | (refine pl_zeroRun ?_ pbuilt69; rfl) | (refine pl_neqRunX ?_ Try.underlying69 Try.underlying24 (by kernel_rfl) pgd69 PZn; exact ⟨_, _, _, rfl, rfl, rfl⟩) | (refine pl_eqlRunX ?_ Try.underlying69 Try.underlying24 (by kernel_rfl) pgd69 PZe; exact ⟨_, _, _, rfl, rfl, rfl⟩) | (go_simp; with_reducible rfl)
                rotate_left
                · simp only [Act.put, List.setIfInBounds_toArray, List.set_cons_zero, List.set_cons_succ, i64_w, i32_w]
                  rfl
                refine pure_ (i := 14) (N := some 42) (v := ?_) (a' := ?_) #[true, true, true, true, true, true, true, true, true, true, true, true, true, true, true, false, false, false, false, false] rfl rfl (any_of HT_.out (by kernel_rfl)) (fun _ _ _ h => h) (Or.inl ⟨by rfl, ?_⟩) ?_ ?_
                rotate_left
                · intro w'
                  first | (refine pl_zeroRun ?_ pbuilt69; rfl) | (refine pl_neqRunX ?_ Try.underlying69 Try.underlying24 (by kernel_rfl) pgd69 PZn; exact ⟨_, _, _, rfl, rfl, rfl⟩) | (refine pl_eqlRunX ?_ Try.underlying69 Try.underlying24 (by kernel_rfl) pgd69 PZe; exact ⟨_, _, _, rfl, rfl, rfl⟩) | (go_simp; with_reducible rfl)
                rotate_left
                · simp only [Act.put, List.setIfInBounds_toArray, List.set_cons_zero, List.set_cons_succ, i64_w, i32_w]
                  rfl
                refine pure_ (i := 15) (N := some 43) (v := ?_) (a' := ?_) #[true, true, true, true, true, true, true, true, true, true, true, true, true, true, true, true, false, false, false, false] rfl rfl (any_of HT_.out (by kernel_rfl)) (fun _ _ _ h => h) (Or.inl ⟨by rfl, ?_⟩) ?_ ?_
                rotate_left
                · intro w'
                  first | (refine pl_zeroRun ?_ pbuilt69; rfl) | (refine pl_neqRunX ?_ Try.underlying69 Try.underlying24 (by kernel_rfl) pgd69 PZn; exact ⟨_, _, _, rfl, rfl, rfl⟩) | (refine pl_eqlRunX ?_ Try.underlying69 Try.underlying24 (by kernel_rfl) pgd69 PZe; exact ⟨_, _, _, rfl, rfl, rfl⟩) | (go_simp; with_reducible rfl)
                rotate_left
                · simp only [Act.put, List.setIfInBounds_toArray, List.set_cons_zero, List.set_cons_succ, i64_w, i32_w]
                  rfl
                refine pure_ (i := 17) (N := some 45) (v := ?_) (a' := ?_) #[true, true, true, true, true, true, true, true, true, true, true, true, true, true, true, true, false, true, false, false] rfl rfl (any_of HT_.out (by kernel_rfl)) (fun _ _ _ h => h) (Or.inl ⟨by rfl, ?_⟩) ?_ ?_
                rotate_left
                · intro w'
                  first | (refine pl_zeroRun ?_ pbuilt69; rfl) | (refine pl_neqRunX ?_ Try.underlying69 Try.underlying24 (by kernel_rfl) pgd69 PZn; exact ⟨_, _, _, rfl, rfl, rfl⟩) | (refine pl_eqlRunX ?_ Try.underlying69 Try.underlying24 (by kernel_rfl) pgd69 PZe; exact ⟨_, _, _, rfl, rfl, rfl⟩) | (go_simp; with_reducible rfl)
                rotate_left
                · simp only [Act.put, List.setIfInBounds_toArray, List.set_cons_zero, List.set_cons_succ, i64_w, i32_w]
                  rfl
                refine take_ (i := 16) (N := some 44) (v := ?_) (a' := ?_) #[true, true, true, true, true, true, true, true, true, true, true, true, true, true, true, true, true, true, false, false] rfl rfl (take_ofW HT_.out HW_.out (by kernel_rfl)) (fun _ _ _ h => h) (Or.inl ⟨by rfl, ?_⟩) hHeld ?_ ?_
                rotate_left
                · rintro w' ⟨s0, s1, s2, s3, s4, s5⟩
                  first | (refine pl_loadRunX ?_ s4 Try.underlying69 (info_pl pinfo69); exact ⟨_, rfl, rfl⟩) | (refine pl_loadRunX ?_ s5 Try.underlying69 (info_pl pinfo69); exact ⟨_, rfl, rfl⟩) | (go_simp; with_reducible rfl)
                rotate_left
                · simp only [Act.put, List.setIfInBounds_toArray, List.set_cons_zero, List.set_cons_succ, i64_w, i32_w]
                  rfl
                refine pure_ (i := 18) (N := some 46) (v := ?_) (a' := ?_) #[true, true, true, true, true, true, true, true, true, true, true, true, true, true, true, true, true, true, true, false] rfl rfl (any_of HT_.out (by kernel_rfl)) (fun _ _ _ h => h) (Or.inl ⟨by rfl, ?_⟩) ?_ ?_
                rotate_left
                · intro w'
                  first | (refine pl_zeroRun ?_ pbuilt69; rfl) | (refine pl_neqRunX ?_ Try.underlying69 Try.underlying24 (by kernel_rfl) pgd69 PZn; exact ⟨_, _, _, rfl, rfl, rfl⟩) | (refine pl_eqlRunX ?_ Try.underlying69 Try.underlying24 (by kernel_rfl) pgd69 PZe; exact ⟨_, _, _, rfl, rfl, rfl⟩) | (go_simp; with_reducible rfl)
                rotate_left
                · simp only [Act.put, List.setIfInBounds_toArray, List.set_cons_zero, List.set_cons_succ, i64_w, i32_w]
                  rfl
                refine pure_ (i := 19) (N := some 47) (v := ?_) (a' := ?_) #[true, true, true, true, true, true, true, true, true, true, true, true, true, true, true, true, true, true, true, true] rfl rfl (any_of HT_.out (by kernel_rfl)) (fun _ _ _ h => h) (Or.inl ⟨by rfl, ?_⟩) ?_ ?_
                rotate_left
                · intro w'
                  first | (refine pl_zeroRun ?_ pbuilt69; rfl) | (refine pl_neqRunX ?_ Try.underlying69 Try.underlying24 (by kernel_rfl) pgd69 PZn; exact ⟨_, _, _, rfl, rfl, rfl⟩) | (refine pl_eqlRunX ?_ Try.underlying69 Try.underlying24 (by kernel_rfl) pgd69 PZe; exact ⟨_, _, _, rfl, rfl, rfl⟩) | (go_simp; with_reducible rfl)
                rotate_left
                · simp only [Act.put, List.setIfInBounds_toArray, List.set_cons_zero, List.set_cons_succ, i64_w, i32_w]
                  rfl
                refine done_ (done_of HT_.out (by kernel_rfl)) ?_
                try go_wp2
                go_meet
                case rel => exact ⟨_, (false), (by first | rfl | (simp; done) | (simp [*]; done)), H', ⟨by first | omega | exact Nat.le_refl _⟩, ⟨by (with_reducible repeat (first | refine blk_drewN ?_ _ | refine blk_drew ?_ | refine blk_alloc ?_ _)); exact BK203.out⟩, ⟨by repeat (first | (with_reducible first | exact HB.out | apply below_alloc | apply pw_below_drewN | apply below_drew1 | refine below_set ?_ GE203.out) | exact HB.out)⟩⟩
              · rw [if_neg c20] at H
                have PZe : plq ((rd_T69 l4 (ji17)).f0) = false := Bool.eq_false_iff.mpr c20
                have PZn : (!plq ((rd_T69 l4 (ji17)).f0)) = true := by rw [Bool.eq_false_iff.mpr c20]; rfl
                have H' := Aside0.mk H
                clear H
                try go_wp2
                have n0_ := Aside0.mk (blk_drew BK203.out)
                have n1_ := Aside0.mk (below_drew1 HB.out)
                clear BK203
                clear HB
                have BK203 := n0_
                have HB := n1_
                clear n0_ n1_
                have p208 : 0 ≤ (0 : Int) := (by omega)
                have q208 : 0 < (l4.length : Int) := of_decide_eq_true (by first | (with_reducible assumption) | assumption)
                obtain ⟨ad208, e208, hx208_0⟩ := at_T69 HR4.out 0 p208 q208
                have hw208_0 := hx208_0
                (try rw [show ((0 : Int)).toNat = 0 from rfl] at hw208_0)
                (try rw [show 0 * 64 = 0 from rfl] at hw208_0)
                (try rw [Addr.add_zero'] at hw208_0)
                cases e208
                have qi208 : (0 < l4.length) = True := eq_true (by omega)
                (try rw [show ((0 : Int)).toNat = 0 from rfl] at hx208_0)
                (try rw [show 0 * 64 = 0 from rfl] at hx208_0)
                (try rw [Addr.add_zero'] at hx208_0)
                replace hx208_0 := plAt.below (w := w) HB.out hx208_0 hx208_0.lt
                replace p208 := eq_true p208
                replace q208 := eq_true q208
                have p210 : 0 ≤ ((ji17) : Int) := of_decide_eq_true (by first | (with_reducible assumption) | assumption)
                have q210 : (ji17) < (l4.length : Int) := of_decide_eq_true (by first | (with_reducible assumption) | assumption)
                obtain ⟨ad210, e210, hx210_0⟩ := at_T69 HR4.out (ji17) p210 q210
                have hw210_0 := hx210_0
                obtain rfl : ad208 = ad210 := (by injection e210)
                replace hx210_0 := plAt.below (w := w) HB.out hx210_0 hx210_0.lt
                replace p210 := eq_true p210
                replace q210 := eq_true q210
                refine start_ (n := 20) (S := fun w' => w'.cell? ⟨gb203, 0, none⟩ = some (.slice A0 l0.length c0) ∧ w'.cell? ⟨gb203, 1, none⟩ = some (.int .i64 a1) ∧ w'.cell? ⟨gb203, 2, none⟩ = some (.int .i64 (wrap64 ((l4.length : Int) - 3))) ∧ w'.cell? ⟨gb203, 3, none⟩ = some (.int .i64 a2) ∧ plAt w' ad208 ((rd_T69 l4 0).f0) ∧ plAt w' (ad208.add (((ji17)).toNat * 64)) ((rd_T69 l4 (ji17)).f0)) (ds := []) #[false, false, false, false, false, false, false, false, false, false, false, false, false, false, false, false, false, false, false, false] (by kernel_rfl) rfl rfl ⟨(blk_cell BK203.out 0).trans rfl, (blk_cell BK203.out 1).trans rfl, (blk_cell BK203.out 2).trans rfl, (blk_cell BK203.out 3).trans rfl, (by first | exact (plAt.below (w := w) HB.out hw208_0 hw208_0.lt) | exact (plAt.below (w := w) HB.out hv208_0 hv208_0.lt) | exact hx208_0), (by first | exact (plAt.below (w := w) HB.out hw210_0 hw210_0.lt) | exact (plAt.below (w := w) HB.out hv210_0 hv210_0.lt) | exact hx210_0)⟩ (fun hHeld => ?_); refine with_tabW impl_CheckReach.tab5 impl_CheckReach.bits5 (fun HT_ HW_ => ?_)
                generalize w11.drew = w25 at BK203 HB hx208_0 hx210_0 hHeld ⊢
                refine pure_ (i := 5) (N := some 33) (v := ?_) (a' := ?_) #[false, false, false, false, false, true, false, false, false, false, false, false, false, false, false, false, false, false, false, false] rfl rfl (any_of HT_.out (by kernel_rfl)) (fun _ _ _ h => h) (Or.inl ⟨by rfl, ?_⟩) ?_ ?_
                rotate_left
                · intro w'
                  first | (refine pl_zeroRun ?_ pbuilt69; rfl) | (refine pl_neqRunX ?_ Try.underlying69 Try.underlying24 (by kernel_rfl) pgd69 PZn; exact ⟨_, _, _, rfl, rfl, rfl⟩) | (refine pl_eqlRunX ?_ Try.underlying69 Try.underlying24 (by kernel_rfl) pgd69 PZe; exact ⟨_, _, _, rfl, rfl, rfl⟩) | (go_simp; with_reducible rfl)
                rotate_left
                · simp only [Act.put, List.setIfInBounds_toArray, List.set_cons_zero, List.set_cons_succ, i64_w, i32_w]
                  rfl
                refine pure_ (i := 6) (N := some 34) (v := ?_) (a' := ?_) #[false, false, false, false, false, true, true, false, false, false, false, false, false, false, false, false, false, false, false, false] rfl rfl (any_of HT_.out (by kernel_rfl)) (fun _ _ _ h => h) (Or.inl ⟨by rfl, ?_⟩) ?_ ?_
                rotate_left
                · intro w'
                  first | (refine pl_zeroRun ?_ pbuilt69; rfl) | (refine pl_neqRunX ?_ Try.underlying69 Try.underlying24 (by kernel_rfl) pgd69 PZn; exact ⟨_, _, _, rfl, rfl, rfl⟩) | (refine pl_eqlRunX ?_ Try.underlying69 Try.underlying24 (by kernel_rfl) pgd69 PZe; exact ⟨_, _, _, rfl, rfl, rfl⟩) | (go_simp; with_reducible rfl)
                rotate_left
                · simp only [Act.put, List.setIfInBounds_toArray, List.set_cons_zero, List.set_cons_succ, i64_w, i32_w]
                  rfl
                refine take_ (i := 0) (N := some 28) (v := ?_) (a' := ?_) #[true, false, false, false, false, true, true, false, false, false, false, false, false, false, false, false, false, false, false, false] rfl rfl (take_ofW HT_.out HW_.out (by kernel_rfl)) (fun _ _ _ h => h) (Or.inl ⟨by rfl, ?_⟩) hHeld ?_ ?_
                rotate_left
                · rintro w' ⟨s0, s1, s2, s3, s4, s5⟩
                  first | (refine pl_loadRunX ?_ s4 Try.underlying69 (info_pl pinfo69); exact ⟨_, rfl, rfl⟩) | (refine pl_loadRunX ?_ s5 Try.underlying69 (info_pl pinfo69); exact ⟨_, rfl, rfl⟩) | (go_simp; with_reducible rfl)
                rotate_left
                · simp only [Act.put, List.setIfInBounds_toArray, List.set_cons_zero, List.set_cons_succ, i64_w, i32_w]
                  rfl
                refine take_ (i := 7) (N := some 35) (v := ?_) (a' := ?_) #[true, false, false, false, false, true, true, true, false, false, false, false, false, false, false, false, false, false, false, false] rfl rfl (take_ofW HT_.out HW_.out (by kernel_rfl)) (fun _ _ _ h => h) (Or.inl ⟨by rfl, ?_⟩) hHeld ?_ ?_
                rotate_left
                · rintro w' ⟨s0, s1, s2, s3, s4, s5⟩
                  first | (refine pl_loadRunX ?_ s4 Try.underlying69 (info_pl pinfo69); exact ⟨_, rfl, rfl⟩) | (refine pl_loadRunX ?_ s5 Try.underlying69 (info_pl pinfo69); exact ⟨_, rfl, rfl⟩) | (go_simp; with_reducible rfl)
                rotate_left
                · simp only [Act.put, List.setIfInBounds_toArray, List.set_cons_zero, List.set_cons_succ, i64_w, i32_w]
                  rfl
                refine one_ (i := 1) (N := some 29) #[true, true, false, false, false, true, true, true, false, false, false, false, false, false, false, false, false, false, false, false] rfl rfl (one_of HT_.out (by kernel_rfl)) (by decide) (fun K hK => ?_)
                refine goes_ Try.func39 (by kernel_rfl) rfl #[.agg #[.slice A0 l0.length c0, .int .i64 a1, .int .i64 (wrap64 ((l4.length : Int) - 3)), .int .i64 a2]] (by rfl) rfl rfl (by (try simp only [List.map_toArray, List.map_cons, List.map_nil]); first | done | rfl | (simp only [List.length_drop, List.length_take]; rfl)) ?_
                with_reducible refine (impl_stretch_pair.calls _ _ l0 a1 (wrap64 ((l4.length : Int) - 3)) a2 t205 t206 _ ?side1 ?side2 A12.out).mono ?_
                (case side1 => repeat (first | exact (Kd.C_below HR0.out HB.out) | (with_reducible refine Kd.C_alloc ?_ _) | (with_reducible refine Kd.C_drewN ?_ _) | (with_reducible refine Kd.C_drew ?_)))
                (case side2 => exact HC0.out)
                rintro e w26 ⟨rfl, hb⟩
                refine ⟨_, rfl, ?_⟩
                have n0_ := Aside0.mk (blk_below (g := gb203) (o := .cells #[.slice A0 l0.length c0, .int .i64 a1, .int .i64 (wrap64 ((l4.length : Int) - 3)), .int .i64 a2] 75 (0, 0)) (by (with_reducible repeat (first | refine blk_drewN ?_ _ | refine blk_drew ?_ | refine blk_alloc ?_ _)); exact BK203.out) hb)
                have n1_ := Aside0.mk (below_step (by repeat (first | (with_reducible first | exact HB.out | apply below_alloc | apply pw_below_drewN | apply below_drew1 | refine below_set ?_ GE203.out) | exact HB.out)) hb)
                clear BK203
                clear HB
                have BK203 := n0_
                have HB := n1_
                clear n0_ n1_
                (try clear hb)
                (try clear hb2)
                (try clear hk)
                (try clear hi)
                refine hK.out _ _ ⟨(blk_cell BK203.out 0).trans rfl, (blk_cell BK203.out 1).trans rfl, (blk_cell BK203.out 2).trans rfl, (blk_cell BK203.out 3).trans rfl, (by first | exact (plAt.below (w := w) HB.out hw208_0 hw208_0.lt) | exact (plAt.below (w := w) HB.out hv208_0 hv208_0.lt) | exact hx208_0), (by first | exact (plAt.below (w := w) HB.out hw210_0 hw210_0.lt) | exact (plAt.below (w := w) HB.out hv210_0 hv210_0.lt) | exact hx210_0)⟩ (fun hHeld => ?_)
                clear hK K
                refine norm_ (a' := ?_) ?_ ?_
                rotate_left
                · show Act.put _ (some 29) _ = _
                  simp only [Act.put, List.setIfInBounds_toArray, List.set_cons_zero, List.set_cons_succ, i64_w, i32_w]
                  rfl
                refine pure_ (i := 2) (N := some 30) (v := ?_) (a' := ?_) #[true, true, true, false, false, true, true, true, false, false, false, false, false, false, false, false, false, false, false, false] rfl rfl (any_of HT_.out (by kernel_rfl)) (fun _ _ _ h => h) (Or.inl ⟨by rfl, ?_⟩) ?_ ?_
                rotate_left
                · intro w'
                  first | (refine pl_zeroRun ?_ pbuilt69; rfl) | (refine pl_neqRunX ?_ Try.underlying69 Try.underlying24 (by kernel_rfl) pgd69 PZn; exact ⟨_, _, _, rfl, rfl, rfl⟩) | (refine pl_eqlRunX ?_ Try.underlying69 Try.underlying24 (by kernel_rfl) pgd69 PZe; exact ⟨_, _, _, rfl, rfl, rfl⟩) | (go_simp; with_reducible rfl)
                rotate_left
                · simp only [Act.put, List.setIfInBounds_toArray, List.set_cons_zero, List.set_cons_succ, i64_w, i32_w]
                  rfl
                refine pure_ (i := 3) (N := some 31) (v := ?_) (a' := ?_) #[true, true, true, true, false, true, true, true, false, false, false, false, false, false, false, false, false, false, false, false] rfl rfl (any_of HT_.out (by kernel_rfl)) (fun _ _ _ h => h) (Or.inl ⟨by rfl, ?_⟩) ?_ ?_
                rotate_left
                · intro w'
                  first | (refine pl_zeroRun ?_ pbuilt69; rfl) | (refine pl_neqRunX ?_ Try.underlying69 Try.underlying24 (by kernel_rfl) pgd69 PZn; exact ⟨_, _, _, rfl, rfl, rfl⟩) | (refine pl_eqlRunX ?_ Try.underlying69 Try.underlying24 (by kernel_rfl) pgd69 PZe; exact ⟨_, _, _, rfl, rfl, rfl⟩) | (go_simp; with_reducible rfl)
                rotate_left
                · simp only [Act.put, List.setIfInBounds_toArray, List.set_cons_zero, List.set_cons_succ, i64_w, i32_w]
                  rfl
                refine one_ (i := 4) (N := some 32) #[true, true, true, true, true, true, true, true, false, false, false, false, false, false, false, false, false, false, false, false] rfl rfl (one_of HT_.out (by kernel_rfl)) (by decide) (fun K hK => ?_)
                refine goes_ Try.func38 (by kernel_rfl) rfl #[.int .i64 t205, .int .i64 t206] (by rfl) rfl rfl (by (try simp only [List.map_toArray, List.map_cons, List.map_nil]); first | done | rfl | (simp only [List.length_drop, List.length_take]; rfl)) ?_
                with_reducible refine (impl_onePair.calls t205 t206 t207 _ A13.out).mono ?_
                rintro e w27 ⟨rfl, hb⟩
                refine ⟨_, rfl, ?_⟩
                have n0_ := Aside0.mk (blk_below (g := gb203) (o := .cells #[.slice A0 l0.length c0, .int .i64 a1, .int .i64 (wrap64 ((l4.length : Int) - 3)), .int .i64 a2] 75 (0, 0)) (by (with_reducible repeat (first | refine blk_drewN ?_ _ | refine blk_drew ?_ | refine blk_alloc ?_ _)); exact BK203.out) hb)
                have n1_ := Aside0.mk (below_step (by repeat (first | (with_reducible first | exact HB.out | apply below_alloc | apply pw_below_drewN | apply below_drew1 | refine below_set ?_ GE203.out) | exact HB.out)) hb)
                clear BK203
                clear HB
                have BK203 := n0_
                have HB := n1_
                clear n0_ n1_
                (try clear hb)
                (try clear hb2)
                (try clear hk)
                (try clear hi)
                refine hK.out _ _ ⟨(blk_cell BK203.out 0).trans rfl, (blk_cell BK203.out 1).trans rfl, (blk_cell BK203.out 2).trans rfl, (blk_cell BK203.out 3).trans rfl, (by first | exact (plAt.below (w := w) HB.out hw208_0 hw208_0.lt) | exact (plAt.below (w := w) HB.out hv208_0 hv208_0.lt) | exact hx208_0), (by first | exact (plAt.below (w := w) HB.out hw210_0 hw210_0.lt) | exact (plAt.below (w := w) HB.out hv210_0 hv210_0.lt) | exact hx210_0)⟩ (fun hHeld => ?_)
                clear hK K
                refine norm_ (a' := ?_) ?_ ?_
                rotate_left
                · show Act.put _ (some 32) _ = _
                  simp only [Act.put, List.setIfInBounds_toArray, List.set_cons_zero, List.set_cons_succ, i64_w, i32_w]
                  rfl
                refine one_ (i := 8) (N := some 36) #[true, true, true, true, true, true, true, true, true, false, false, false, false, false, false, false, false, false, false, false] rfl rfl (one_of HT_.out (by kernel_rfl)) (by decide) (fun K hK => ?_)
                refine goes_ Try.func37 (by kernel_rfl) rfl #[.agg (plA t207), .agg (plA ((rd_T69 l4 0).f0))] (by rfl) rfl rfl (by (try simp only [List.map_toArray, List.map_cons, List.map_nil]); first | done | rfl | (simp only [List.length_drop, List.length_take]; rfl)) ?_
                with_reducible refine (impl_isWithin.calls k t207 ((rd_T69 l4 0).f0) true _ A15.out).mono ?_
                rintro e w28 ⟨rfl, hb⟩
                refine ⟨_, rfl, ?_⟩
                have n0_ := Aside0.mk (blk_below (g := gb203) (o := .cells #[.slice A0 l0.length c0, .int .i64 a1, .int .i64 (wrap64 ((l4.length : Int) - 3)), .int .i64 a2] 75 (0, 0)) (by (with_reducible repeat (first | refine blk_drewN ?_ _ | refine blk_drew ?_ | refine blk_alloc ?_ _)); exact BK203.out) hb)
                have n1_ := Aside0.mk (below_step (by repeat (first | (with_reducible first | exact HB.out | apply below_alloc | apply pw_below_drewN | apply below_drew1 | refine below_set ?_ GE203.out) | exact HB.out)) hb)
                clear BK203
                clear HB
                have BK203 := n0_
                have HB := n1_
                clear n0_ n1_
                (try clear hb)
                (try clear hb2)
                (try clear hk)
                (try clear hi)
                refine hK.out _ _ ⟨(blk_cell BK203.out 0).trans rfl, (blk_cell BK203.out 1).trans rfl, (blk_cell BK203.out 2).trans rfl, (blk_cell BK203.out 3).trans rfl, (by first | exact (plAt.below (w := w) HB.out hw208_0 hw208_0.lt) | exact (plAt.below (w := w) HB.out hv208_0 hv208_0.lt) | exact hx208_0), (by first | exact (plAt.below (w := w) HB.out hw210_0 hw210_0.lt) | exact (plAt.below (w := w) HB.out hv210_0 hv210_0.lt) | exact hx210_0)⟩ (fun hHeld => ?_)
                clear hK K
                refine norm_ (a' := ?_) ?_ ?_
                rotate_left
                · show Act.put _ (some 36) _ = _
                  simp only [Act.put, List.setIfInBounds_toArray, List.set_cons_zero, List.set_cons_succ, i64_w, i32_w]
                  rfl
                refine pure_ (i := 9) (N := some 37) (v := ?_) (a' := ?_) #[true, true, true, true, true, true, true, true, true, true, false, false, false, false, false, false, false, false, false, false] rfl rfl (any_of HT_.out (by kernel_rfl)) (fun _ _ _ h => h) (Or.inl ⟨by rfl, ?_⟩) ?_ ?_
                rotate_left
                · intro w'
                  first | (refine pl_zeroRun ?_ pbuilt69; rfl) | (refine pl_neqRunX ?_ Try.underlying69 Try.underlying24 (by kernel_rfl) pgd69 PZn; exact ⟨_, _, _, rfl, rfl, rfl⟩) | (refine pl_eqlRunX ?_ Try.underlying69 Try.underlying24 (by kernel_rfl) pgd69 PZe; exact ⟨_, _, _, rfl, rfl, rfl⟩) | (go_simp; with_reducible rfl)
                rotate_left
                · simp only [Act.put, List.setIfInBounds_toArray, List.set_cons_zero, List.set_cons_succ, i64_w, i32_w]
                  rfl
                refine pure_ (i := 10) (N := some 38) (v := ?_) (a' := ?_) #[true, true, true, true, true, true, true, true, true, true, true, false, false, false, false, false, false, false, false, false] rfl rfl (any_of HT_.out (by kernel_rfl)) (fun _ _ _ h => h) (Or.inl ⟨by rfl, ?_⟩) ?_ ?_
                rotate_left
                · intro w'
                  first | (refine pl_zeroRun ?_ pbuilt69; rfl) | (refine pl_neqRunX ?_ Try.underlying69 Try.underlying24 (by kernel_rfl) pgd69 PZn; exact ⟨_, _, _, rfl, rfl, rfl⟩) | (refine pl_eqlRunX ?_ Try.underlying69 Try.underlying24 (by kernel_rfl) pgd69 PZe; exact ⟨_, _, _, rfl, rfl, rfl⟩) | (go_simp; with_reducible rfl)
                rotate_left
                · simp only [Act.put, List.setIfInBounds_toArray, List.set_cons_zero, List.set_cons_succ, i64_w, i32_w]
                  rfl
                refine pure_ (i := 11) (N := some 39) (v := ?_) (a' := ?_) #[true, true, true, true, true, true, true, true, true, true, true, true, false, false, false, false, false, false, false, false] rfl rfl (any_of HT_.out (by kernel_rfl)) (fun _ _ _ h => h) (Or.inl ⟨by rfl, ?_⟩) ?_ ?_
                rotate_left
                · intro w'
                  first | (refine pl_zeroRun ?_ pbuilt69; rfl) | (refine pl_neqRunX ?_ Try.underlying69 Try.underlying24 (by kernel_rfl) pgd69 PZn; exact ⟨_, _, _, rfl, rfl, rfl⟩) | (refine pl_eqlRunX ?_ Try.underlying69 Try.underlying24 (by kernel_rfl) pgd69 PZe; exact ⟨_, _, _, rfl, rfl, rfl⟩) | (go_simp; with_reducible rfl)
                rotate_left
                · simp only [Act.put, List.setIfInBounds_toArray, List.set_cons_zero, List.set_cons_succ, i64_w, i32_w]
                  rfl
                refine pure_ (i := 12) (N := some 40) (v := ?_) (a' := ?_) #[true, true, true, true, true, true, true, true, true, true, true, true, true, false, false, false, false, false, false, false] rfl rfl (any_of HT_.out (by kernel_rfl)) (fun _ _ _ h => h) (Or.inl ⟨by rfl, ?_⟩) ?_ ?_
                rotate_left
                · intro w'
                  first | (refine pl_zeroRun ?_ pbuilt69; rfl) | (refine pl_neqRunX ?_ Try.underlying69 Try.underlying24 (by kernel_rfl) pgd69 PZn; exact ⟨_, _, _, rfl, rfl, rfl⟩) | (refine pl_eqlRunX ?_ Try.underlying69 Try.underlying24 (by kernel_rfl) pgd69 PZe; exact ⟨_, _, _, rfl, rfl, rfl⟩) | (go_simp; with_reducible rfl)
                rotate_left
                · simp only [Act.put, List.setIfInBounds_toArray, List.set_cons_zero, List.set_cons_succ, i64_w, i32_w]
                  rfl
                refine pure_ (i := 13) (N := some 41) (v := ?_) (a' := ?_) #[true, true, true, true, true, true, true, true, true, true, true, true, true, true, false, false, false, false, false, false] rfl rfl (any_of HT_.out (by kernel_rfl)) (fun _ _ _ h => h) (Or.inl ⟨by rfl, ?_⟩) ?_ ?_
                rotate_left
                · intro w'
                  first | (refine pl_zeroRun ?_ pbuilt69; rfl) | (refine pl_neqRunX ?_ Try.underlying69 Try.underlying24 (by kernel_rfl) pgd69 PZn; exact ⟨_, _, _, rfl, rfl, rfl⟩) | (refine pl_eqlRunX ?_ Try.underlying69 Try.underlying24 (by kernel_rfl) pgd69 PZe; exact ⟨_, _, _, rfl, rfl, rfl⟩) | (go_simp; with_reducible rfl)
                rotate_left
                · simp only [Act.put, List.setIfInBounds_toArray, List.set_cons_zero, List.set_cons_succ, i64_w, i32_w]
                  rfl
                refine pure_ (i := 14) (N := some 42) (v := ?_) (a' := ?_) #[true, true, true, true, true, true, true, true, true, true, true, true, true, true, true, false, false, false, false, false] rfl rfl (any_of HT_.out (by kernel_rfl)) (fun _ _ _ h => h) (Or.inl ⟨by rfl, ?_⟩) ?_ ?_
                rotate_left
                · intro w'
                  first | (refine pl_zeroRun ?_ pbuilt69; rfl) | (refine pl_neqRunX ?_ Try.underlying69 Try.underlying24 (by kernel_rfl) pgd69 PZn; exact ⟨_, _, _, rfl, rfl, rfl⟩) | (refine pl_eqlRunX ?_ Try.underlying69 Try.underlying24 (by kernel_rfl) pgd69 PZe; exact ⟨_, _, _, rfl, rfl, rfl⟩) | (go_simp; with_reducible rfl)
                rotate_left
                · simp only [Act.put, List.setIfInBounds_toArray, List.set_cons_zero, List.set_cons_succ, i64_w, i32_w]
                  rfl
                refine pure_ (i := 15) (N := some 43) (v := ?_) (a' := ?_) #[true, true, true, true, true, true, true, true, true, true, true, true, true, true, true, true, false, false, false, false] rfl rfl (any_of HT_.out (by kernel_rfl)) (fun _ _ _ h => h) (Or.inl ⟨by rfl, ?_⟩) ?_ ?_
                rotate_left
                · intro w'
                  first | (refine pl_zeroRun ?_ pbuilt69; rfl) | (refine pl_neqRunX ?_ Try.underlying69 Try.underlying24 (by kernel_rfl) pgd69 PZn; exact ⟨_, _, _, rfl, rfl, rfl⟩) | (refine pl_eqlRunX ?_ Try.underlying69 Try.underlying24 (by kernel_rfl) pgd69 PZe; exact ⟨_, _, _, rfl, rfl, rfl⟩) | (go_simp; with_reducible rfl)
                rotate_left
                · simp only [Act.put, List.setIfInBounds_toArray, List.set_cons_zero, List.set_cons_succ, i64_w, i32_w]
                  rfl
                refine pure_ (i := 17) (N := some 45) (v := ?_) (a' := ?_) #[true, true, true, true, true, true, true, true, true, true, true, true, true, true, true, true, false, true, false, false] rfl rfl (any_of HT_.out (by kernel_rfl)) (fun _ _ _ h => h) (Or.inl ⟨by rfl, ?_⟩) ?_ ?_
                rotate_left
                · intro w'
                  first | (refine pl_zeroRun ?_ pbuilt69; rfl) | (refine pl_neqRunX ?_ Try.underlying69 Try.underlying24 (by kernel_rfl) pgd69 PZn; exact ⟨_, _, _, rfl, rfl, rfl⟩) | (refine pl_eqlRunX ?_ Try.underlying69 Try.underlying24 (by kernel_rfl) pgd69 PZe; exact ⟨_, _, _, rfl, rfl, rfl⟩) | (go_simp; with_reducible rfl)
                rotate_left
                · simp only [Act.put, List.setIfInBounds_toArray, List.set_cons_zero, List.set_cons_succ, i64_w, i32_w]
                  rfl
                refine take_ (i := 16) (N := some 44) (v := ?_) (a' := ?_) #[true, true, true, true, true, true, true, true, true, true, true, true, true, true, true, true, true, true, false, false] rfl rfl (take_ofW HT_.out HW_.out (by kernel_rfl)) (fun _ _ _ h => h) (Or.inl ⟨by rfl, ?_⟩) hHeld ?_ ?_
                rotate_left
                · rintro w' ⟨s0, s1, s2, s3, s4, s5⟩
                  first | (refine pl_loadRunX ?_ s4 Try.underlying69 (info_pl pinfo69); exact ⟨_, rfl, rfl⟩) | (refine pl_loadRunX ?_ s5 Try.underlying69 (info_pl pinfo69); exact ⟨_, rfl, rfl⟩) | (go_simp; with_reducible rfl)
                rotate_left
                · simp only [Act.put, List.setIfInBounds_toArray, List.set_cons_zero, List.set_cons_succ, i64_w, i32_w]
                  rfl
                refine pure_ (i := 18) (N := some 46) (v := ?_) (a' := ?_) #[true, true, true, true, true, true, true, true, true, true, true, true, true, true, true, true, true, true, true, false] rfl rfl (any_of HT_.out (by kernel_rfl)) (fun _ _ _ h => h) (Or.inl ⟨by rfl, ?_⟩) ?_ ?_
                rotate_left
                · intro w'
                  first | (refine pl_zeroRun ?_ pbuilt69; rfl) | (refine pl_neqRunX ?_ Try.underlying69 Try.underlying24 (by kernel_rfl) pgd69 PZn; exact ⟨_, _, _, rfl, rfl, rfl⟩) | (refine pl_eqlRunX ?_ Try.underlying69 Try.underlying24 (by kernel_rfl) pgd69 PZe; exact ⟨_, _, _, rfl, rfl, rfl⟩) | (go_simp; with_reducible rfl)
                rotate_left
                · simp only [Act.put, List.setIfInBounds_toArray, List.set_cons_zero, List.set_cons_succ, i64_w, i32_w]
                  rfl
                refine pure_ (i := 19) (N := some 47) (v := ?_) (a' := ?_) #[true, true, true, true, true, true, true, true, true, true, true, true, true, true, true, true, true, true, true, true] rfl rfl (any_of HT_.out (by kernel_rfl)) (fun _ _ _ h => h) (Or.inl ⟨by rfl, ?_⟩) ?_ ?_
                rotate_left
                · intro w'
                  first | (refine pl_zeroRun ?_ pbuilt69; rfl) | (refine pl_neqRunX ?_ Try.underlying69 Try.underlying24 (by kernel_rfl) pgd69 PZn; exact ⟨_, _, _, rfl, rfl, rfl⟩) | (refine pl_eqlRunX ?_ Try.underlying69 Try.underlying24 (by kernel_rfl) pgd69 PZe; exact ⟨_, _, _, rfl, rfl, rfl⟩) | (go_simp; with_reducible rfl)
                rotate_left
                · simp only [Act.put, List.setIfInBounds_toArray, List.set_cons_zero, List.set_cons_succ, i64_w, i32_w]
                  rfl
                refine done_ (done_of HT_.out (by kernel_rfl)) ?_
                try go_wp2
                go_meet
                case rel => exact ⟨_, (true), (by first | rfl | (simp; done) | (simp [*]; done)), H', ⟨by first | omega | exact Nat.le_refl _⟩, ⟨by (with_reducible repeat (first | refine blk_drewN ?_ _ | refine blk_drew ?_ | refine blk_alloc ?_ _)); exact BK203.out⟩, ⟨by repeat (first | (with_reducible first | exact HB.out | apply below_alloc | apply pw_below_drewN | apply below_drew1 | refine below_set ?_ GE203.out) | exact HB.out)⟩⟩
            · rw [if_neg c19] at H
              exact absurd H (by simp)
          · rw [if_neg c18] at H
            exact absurd H (by simp)
        · replace c16 := Bool.eq_false_iff.mpr c16
          subst c16
          have H1 : (impl_CheckReach.j0 k a3 l4 true l0 a1 (wrap64 ((l4.length : Int) - 3)) a2) = some (r1, r2) := by rw [if_neg (show ¬ (false = true) by decide)] at H; exact H
          clear H
          have H := H1
          clear H1
          have H' := Aside0.mk H
          clear H
          try go_wp2
          have n0_ := Aside0.mk (blk_drew BK203.out)
          have n1_ := Aside0.mk (below_drew1 HB.out)
          clear BK203
          clear HB
          have BK203 := n0_
          have HB := n1_
          clear n0_ n1_
          have p208 : 0 ≤ (0 : Int) := (by omega)
          have q208 : 0 < (l4.length : Int) := of_decide_eq_true (by first | (with_reducible assumption) | assumption)
          obtain ⟨ad208, e208, hx208_0⟩ := at_T69 HR4.out 0 p208 q208
          have hw208_0 := hx208_0
          (try rw [show ((0 : Int)).toNat = 0 from rfl] at hw208_0)
          (try rw [show 0 * 64 = 0 from rfl] at hw208_0)
          (try rw [Addr.add_zero'] at hw208_0)
          cases e208
          have qi208 : (0 < l4.length) = True := eq_true (by omega)
          (try rw [show ((0 : Int)).toNat = 0 from rfl] at hx208_0)
          (try rw [show 0 * 64 = 0 from rfl] at hx208_0)
          (try rw [Addr.add_zero'] at hx208_0)
          replace hx208_0 := plAt.below (w := w) HB.out hx208_0 hx208_0.lt
          replace p208 := eq_true p208
          replace q208 := eq_true q208
          refine start_ (n := 20) (S := fun w' => w'.cell? ⟨gb203, 0, none⟩ = some (.slice A0 l0.length c0) ∧ w'.cell? ⟨gb203, 1, none⟩ = some (.int .i64 a1) ∧ w'.cell? ⟨gb203, 2, none⟩ = some (.int .i64 (wrap64 ((l4.length : Int) - 3))) ∧ w'.cell? ⟨gb203, 3, none⟩ = some (.int .i64 a2) ∧ plAt w' ad208 ((rd_T69 l4 0).f0)) (ds := []) #[false, false, false, false, false, false, false, false, false, false, false, false, false, false, false, false, false, false, false, false] (by kernel_rfl) rfl rfl ⟨(blk_cell BK203.out 0).trans rfl, (blk_cell BK203.out 1).trans rfl, (blk_cell BK203.out 2).trans rfl, (blk_cell BK203.out 3).trans rfl, (by first | exact (plAt.below (w := w) HB.out hw208_0 hw208_0.lt) | exact (plAt.below (w := w) HB.out hv208_0 hv208_0.lt) | exact hx208_0)⟩ (fun hHeld => ?_); refine with_tabW impl_CheckReach.tab5 impl_CheckReach.bits5 (fun HT_ HW_ => ?_)
          generalize w11.drew = w29 at BK203 HB hx208_0 hHeld ⊢
          refine pure_ (i := 5) (N := some 33) (v := ?_) (a' := ?_) #[false, false, false, false, false, true, false, false, false, false, false, false, false, false, false, false, false, false, false, false] rfl rfl (any_of HT_.out (by kernel_rfl)) (fun _ _ _ h => h) (Or.inl ⟨by rfl, ?_⟩) ?_ ?_
          rotate_left
          · intro w'
            first | (refine pl_zeroRun ?_ pbuilt69; rfl) | (refine pl_neqRunX ?_ Try.underlying69 Try.underlying24 (by kernel_rfl) pgd69 PZn; exact ⟨_, _, _, rfl, rfl, rfl⟩) | (refine pl_eqlRunX ?_ Try.underlying69 Try.underlying24 (by kernel_rfl) pgd69 PZe; exact ⟨_, _, _, rfl, rfl, rfl⟩) | (go_simp; with_reducible rfl)
          rotate_left
          · simp only [Act.put, List.setIfInBounds_toArray, List.set_cons_zero, List.set_cons_succ, i64_w, i32_w]
            rfl
          refine pure_ (i := 6) (N := some 34) (v := ?_) (a' := ?_) #[false, false, false, false, false, true, true, false, false, false, false, false, false, false, false, false, false, false, false, false] rfl rfl (any_of HT_.out (by kernel_rfl)) (fun _ _ _ h => h) (Or.inl ⟨by rfl, ?_⟩) ?_ ?_
          rotate_left
          · intro w'
            first | (refine pl_zeroRun ?_ pbuilt69; rfl) | (refine pl_neqRunX ?_ Try.underlying69 Try.underlying24 (by kernel_rfl) pgd69 PZn; exact ⟨_, _, _, rfl, rfl, rfl⟩) | (refine pl_eqlRunX ?_ Try.underlying69 Try.underlying24 (by kernel_rfl) pgd69 PZe; exact ⟨_, _, _, rfl, rfl, rfl⟩) | (go_simp; with_reducible rfl)
          rotate_left
          · simp only [Act.put, List.setIfInBounds_toArray, List.set_cons_zero, List.set_cons_succ, i64_w, i32_w]
            rfl
          refine take_ (i := 0) (N := some 28) (v := ?_) (a' := ?_) #[true, false, false, false, false, true, true, false, false, false, false, false, false, false, false, false, false, false, false, false] rfl rfl (take_ofW HT_.out HW_.out (by kernel_rfl)) (fun _ _ _ h => h) (Or.inl ⟨by rfl, ?_⟩) hHeld ?_ ?_
          rotate_left
          · rintro w' ⟨s0, s1, s2, s3, s4⟩
            first | (refine pl_loadRunX ?_ s4 Try.underlying69 (info_pl pinfo69); exact ⟨_, rfl, rfl⟩) | (go_simp; with_reducible rfl)
          rotate_left
          · simp only [Act.put, List.setIfInBounds_toArray, List.set_cons_zero, List.set_cons_succ, i64_w, i32_w]
            rfl
          refine take_ (i := 7) (N := some 35) (v := ?_) (a' := ?_) #[true, false, false, false, false, true, true, true, false, false, false, false, false, false, false, false, false, false, false, false] rfl rfl (take_ofW HT_.out HW_.out (by kernel_rfl)) (fun _ _ _ h => h) (Or.inl ⟨by rfl, ?_⟩) hHeld ?_ ?_
          rotate_left
          · rintro w' ⟨s0, s1, s2, s3, s4⟩
            first | (refine pl_loadRunX ?_ s4 Try.underlying69 (info_pl pinfo69); exact ⟨_, rfl, rfl⟩) | (go_simp; with_reducible rfl)
          rotate_left
          · simp only [Act.put, List.setIfInBounds_toArray, List.set_cons_zero, List.set_cons_succ, i64_w, i32_w]
            rfl
          refine one_ (i := 1) (N := some 29) #[true, true, false, false, false, true, true, true, false, false, false, false, false, false, false, false, false, false, false, false] rfl rfl (one_of HT_.out (by kernel_rfl)) (by decide) (fun K hK => ?_)
          refine goes_ Try.func39 (by kernel_rfl) rfl #[.agg #[.slice A0 l0.length c0, .int .i64 a1, .int .i64 (wrap64 ((l4.length : Int) - 3)), .int .i64 a2]] (by rfl) rfl rfl (by (try simp only [List.map_toArray, List.map_cons, List.map_nil]); first | done | rfl | (simp only [List.length_drop, List.length_take]; rfl)) ?_
          with_reducible refine (impl_stretch_pair.calls _ _ l0 a1 (wrap64 ((l4.length : Int) - 3)) a2 t205 t206 _ ?side1 ?side2 A12.out).mono ?_
          (case side1 => repeat (first | exact (Kd.C_below HR0.out HB.out) | (with_reducible refine Kd.C_alloc ?_ _) | (with_reducible refine Kd.C_drewN ?_ _) | (with_reducible refine Kd.C_drew ?_)))
          (case side2 => exact HC0.out)
          rintro e w30 ⟨rfl, hb⟩
          refine ⟨_, rfl, ?_⟩
          have n0_ := Aside0.mk (blk_below (g := gb203) (o := .cells #[.slice A0 l0.length c0, .int .i64 a1, .int .i64 (wrap64 ((l4.length : Int) - 3)), .int .i64 a2] 75 (0, 0)) (by (with_reducible repeat (first | refine blk_drewN ?_ _ | refine blk_drew ?_ | refine blk_alloc ?_ _)); exact BK203.out) hb)
          have n1_ := Aside0.mk (below_step (by repeat (first | (with_reducible first | exact HB.out | apply below_alloc | apply pw_below_drewN | apply below_drew1 | refine below_set ?_ GE203.out) | exact HB.out)) hb)
          clear BK203
          clear HB
          have BK203 := n0_
          have HB := n1_
          clear n0_ n1_
          (try clear hb)
          (try clear hb2)
          (try clear hk)
          (try clear hi)
          refine hK.out _ _ ⟨(blk_cell BK203.out 0).trans rfl, (blk_cell BK203.out 1).trans rfl, (blk_cell BK203.out 2).trans rfl, (blk_cell BK203.out 3).trans rfl, (by first | exact (plAt.below (w := w) HB.out hw208_0 hw208_0.lt) | exact (plAt.below (w := w) HB.out hv208_0 hv208_0.lt) | exact hx208_0)⟩ (fun hHeld => ?_)
          clear hK K
          refine norm_ (a' := ?_) ?_ ?_
          rotate_left
          · show Act.put _ (some 29) _ = _
            simp only [Act.put, List.setIfInBounds_toArray, List.set_cons_zero, List.set_cons_succ, i64_w, i32_w]
            rfl
          refine pure_ (i := 2) (N := some 30) (v := ?_) (a' := ?_) #[true, true, true, false, false, true, true, true, false, false, false, false, false, false, false, false, false, false, false, false] rfl rfl (any_of HT_.out (by kernel_rfl)) (fun _ _ _ h => h) (Or.inl ⟨by rfl, ?_⟩) ?_ ?_
          rotate_left
          · intro w'
            first | (refine pl_zeroRun ?_ pbuilt69; rfl) | (refine pl_neqRunX ?_ Try.underlying69 Try.underlying24 (by kernel_rfl) pgd69 PZn; exact ⟨_, _, _, rfl, rfl, rfl⟩) | (refine pl_eqlRunX ?_ Try.underlying69 Try.underlying24 (by kernel_rfl) pgd69 PZe; exact ⟨_, _, _, rfl, rfl, rfl⟩) | (go_simp; with_reducible rfl)
          rotate_left
          · simp only [Act.put, List.setIfInBounds_toArray, List.set_cons_zero, List.set_cons_succ, i64_w, i32_w]
            rfl
          refine pure_ (i := 3) (N := some 31) (v := ?_) (a' := ?_) #[true, true, true, true, false, true, true, true, false, false, false, false, false, false, false, false, false, false, false, false] rfl rfl (any_of HT_.out (by kernel_rfl)) (fun _ _ _ h => h) (Or.inl ⟨by rfl, ?_⟩) ?_ ?_
          rotate_left
          · intro w'
            first | (refine pl_zeroRun ?_ pbuilt69; rfl) | (refine pl_neqRunX ?_ Try.underlying69 Try.underlying24 (by kernel_rfl) pgd69 PZn; exact ⟨_, _, _, rfl, rfl, rfl⟩) | (refine pl_eqlRunX ?_ Try.underlying69 Try.underlying24 (by kernel_rfl) pgd69 PZe; exact ⟨_, _, _, rfl, rfl, rfl⟩) | (go_simp; with_reducible rfl)
          rotate_left
          · simp only [Act.put, List.setIfInBounds_toArray, List.set_cons_zero, List.set_cons_succ, i64_w, i32_w]
            rfl
          refine one_ (i := 4) (N := some 32) #[true, true, true, true, true, true, true, true, false, false, false, false, false, false, false, false, false, false, false, false] rfl rfl (one_of HT_.out (by kernel_rfl)) (by decide) (fun K hK => ?_)
          refine goes_ Try.func38 (by kernel_rfl) rfl #[.int .i64 t205, .int .i64 t206] (by rfl) rfl rfl (by (try simp only [List.map_toArray, List.map_cons, List.map_nil]); first | done | rfl | (simp only [List.length_drop, List.length_take]; rfl)) ?_
          with_reducible refine (impl_onePair.calls t205 t206 t207 _ A13.out).mono ?_
          rintro e w31 ⟨rfl, hb⟩
          refine ⟨_, rfl, ?_⟩
          have n0_ := Aside0.mk (blk_below (g := gb203) (o := .cells #[.slice A0 l0.length c0, .int .i64 a1, .int .i64 (wrap64 ((l4.length : Int) - 3)), .int .i64 a2] 75 (0, 0)) (by (with_reducible repeat (first | refine blk_drewN ?_ _ | refine blk_drew ?_ | refine blk_alloc ?_ _)); exact BK203.out) hb)
          have n1_ := Aside0.mk (below_step (by repeat (first | (with_reducible first | exact HB.out | apply below_alloc | apply pw_below_drewN | apply below_drew1 | refine below_set ?_ GE203.out) | exact HB.out)) hb)
          clear BK203
          clear HB
          have BK203 := n0_
          have HB := n1_
          clear n0_ n1_
          (try clear hb)
          (try clear hb2)
          (try clear hk)
          (try clear hi)
          refine hK.out _ _ ⟨(blk_cell BK203.out 0).trans rfl, (blk_cell BK203.out 1).trans rfl, (blk_cell BK203.out 2).trans rfl, (blk_cell BK203.out 3).trans rfl, (by first | exact (plAt.below (w := w) HB.out hw208_0 hw208_0.lt) | exact (plAt.below (w := w) HB.out hv208_0 hv208_0.lt) | exact hx208_0)⟩ (fun hHeld => ?_)
          clear hK K
          refine norm_ (a' := ?_) ?_ ?_
          rotate_left
          · show Act.put _ (some 32) _ = _
            simp only [Act.put, List.setIfInBounds_toArray, List.set_cons_zero, List.set_cons_succ, i64_w, i32_w]
            rfl
          refine one_ (i := 8) (N := some 36) #[true, true, true, true, true, true, true, true, true, false, false, false, false, false, false, false, false, false, false, false] rfl rfl (one_of HT_.out (by kernel_rfl)) (by decide) (fun K hK => ?_)
          refine goes_ Try.func37 (by kernel_rfl) rfl #[.agg (plA t207), .agg (plA ((rd_T69 l4 0).f0))] (by rfl) rfl rfl (by (try simp only [List.map_toArray, List.map_cons, List.map_nil]); first | done | rfl | (simp only [List.length_drop, List.length_take]; rfl)) ?_
          with_reducible refine (impl_isWithin.calls k t207 ((rd_T69 l4 0).f0) false _ A15.out).mono ?_
          rintro e w32 ⟨rfl, hb⟩
          refine ⟨_, rfl, ?_⟩
          have n0_ := Aside0.mk (blk_below (g := gb203) (o := .cells #[.slice A0 l0.length c0, .int .i64 a1, .int .i64 (wrap64 ((l4.length : Int) - 3)), .int .i64 a2] 75 (0, 0)) (by (with_reducible repeat (first | refine blk_drewN ?_ _ | refine blk_drew ?_ | refine blk_alloc ?_ _)); exact BK203.out) hb)
          have n1_ := Aside0.mk (below_step (by repeat (first | (with_reducible first | exact HB.out | apply below_alloc | apply pw_below_drewN | apply below_drew1 | refine below_set ?_ GE203.out) | exact HB.out)) hb)
          clear BK203
          clear HB
          have BK203 := n0_
          have HB := n1_
          clear n0_ n1_
          (try clear hb)
          (try clear hb2)
          (try clear hk)
          (try clear hi)
          refine hK.out _ _ ⟨(blk_cell BK203.out 0).trans rfl, (blk_cell BK203.out 1).trans rfl, (blk_cell BK203.out 2).trans rfl, (blk_cell BK203.out 3).trans rfl, (by first | exact (plAt.below (w := w) HB.out hw208_0 hw208_0.lt) | exact (plAt.below (w := w) HB.out hv208_0 hv208_0.lt) | exact hx208_0)⟩ (fun hHeld => ?_)
          clear hK K
          refine norm_ (a' := ?_) ?_ ?_
          rotate_left
          · show Act.put _ (some 36) _ = _
            simp only [Act.put, List.setIfInBounds_toArray, List.set_cons_zero, List.set_cons_succ, i64_w, i32_w]
            rfl
          refine pure_ (i := 9) (N := some 37) (v := ?_) (a' := ?_) #[true, true, true, true, true, true, true, true, true, true, false, false, false, false, false, false, false, false, false, false] rfl rfl (any_of HT_.out (by kernel_rfl)) (fun _ _ _ h => h) (Or.inl ⟨by rfl, ?_⟩) ?_ ?_
          rotate_left
          · intro w'
            first | (refine pl_zeroRun ?_ pbuilt69; rfl) | (refine pl_neqRunX ?_ Try.underlying69 Try.underlying24 (by kernel_rfl) pgd69 PZn; exact ⟨_, _, _, rfl, rfl, rfl⟩) | (refine pl_eqlRunX ?_ Try.underlying69 Try.underlying24 (by kernel_rfl) pgd69 PZe; exact ⟨_, _, _, rfl, rfl, rfl⟩) | (go_simp; with_reducible rfl)
          rotate_left
          · simp only [Act.put, List.setIfInBounds_toArray, List.set_cons_zero, List.set_cons_succ, i64_w, i32_w]
            rfl
          refine pure_ (i := 10) (N := some 38) (v := ?_) (a' := ?_) #[true, true, true, true, true, true, true, true, true, true, true, false, false, false, false, false, false, false, false, false] rfl rfl (any_of HT_.out (by kernel_rfl)) (fun _ _ _ h => h) (Or.inl ⟨by rfl, ?_⟩) ?_ ?_
          rotate_left
          · intro w'
            first | (refine pl_zeroRun ?_ pbuilt69; rfl) | (refine pl_neqRunX ?_ Try.underlying69 Try.underlying24 (by kernel_rfl) pgd69 PZn; exact ⟨_, _, _, rfl, rfl, rfl⟩) | (refine pl_eqlRunX ?_ Try.underlying69 Try.underlying24 (by kernel_rfl) pgd69 PZe; exact ⟨_, _, _, rfl, rfl, rfl⟩) | (go_simp; with_reducible rfl)
          rotate_left
          · simp only [Act.put, List.setIfInBounds_toArray, List.set_cons_zero, List.set_cons_succ, i64_w, i32_w]
            rfl
          refine pure_ (i := 11) (N := some 39) (v := undef) (a' := ?_) #[true, true, true, true, true, true, true, true, true, true, true, true, false, false, false, false, false, false, false, false] rfl rfl (any_of HT_.out (by kernel_rfl)) (fun _ _ _ h => h) (Or.inr ⟨by rfl, rfl⟩) ?_ ?_
          rotate_left
          · simp only [Act.put, List.setIfInBounds_toArray, List.set_cons_zero, List.set_cons_succ, i64_w, i32_w]
            rfl
          refine pure_ (i := 12) (N := some 40) (v := undef) (a' := ?_) #[true, true, true, true, true, true, true, true, true, true, true, true, true, false, false, false, false, false, false, false] rfl rfl (any_of HT_.out (by kernel_rfl)) (fun _ _ _ h => h) (Or.inr ⟨by rfl, rfl⟩) ?_ ?_
          rotate_left
          · simp only [Act.put, List.setIfInBounds_toArray, List.set_cons_zero, List.set_cons_succ, i64_w, i32_w]
            rfl
          refine pure_ (i := 13) (N := some 41) (v := undef) (a' := ?_) #[true, true, true, true, true, true, true, true, true, true, true, true, true, true, false, false, false, false, false, false] rfl rfl (any_of HT_.out (by kernel_rfl)) (fun _ _ _ h => h) (Or.inr ⟨by rfl, rfl⟩) ?_ ?_
          rotate_left
          · simp only [Act.put, List.setIfInBounds_toArray, List.set_cons_zero, List.set_cons_succ, i64_w, i32_w]
            rfl
          refine pure_ (i := 14) (N := some 42) (v := undef) (a' := ?_) #[true, true, true, true, true, true, true, true, true, true, true, true, true, true, true, false, false, false, false, false] rfl rfl (any_of HT_.out (by kernel_rfl)) (fun _ _ _ h => h) (Or.inr ⟨by rfl, rfl⟩) ?_ ?_
          rotate_left
          · simp only [Act.put, List.setIfInBounds_toArray, List.set_cons_zero, List.set_cons_succ, i64_w, i32_w]
            rfl
          refine pure_ (i := 15) (N := some 43) (v := undef) (a' := ?_) #[true, true, true, true, true, true, true, true, true, true, true, true, true, true, true, true, false, false, false, false] rfl rfl (any_of HT_.out (by kernel_rfl)) (fun _ _ _ h => h) (Or.inr ⟨by rfl, rfl⟩) ?_ ?_
          rotate_left
          · simp only [Act.put, List.setIfInBounds_toArray, List.set_cons_zero, List.set_cons_succ, i64_w, i32_w]
            rfl
          refine pure_ (i := 16) (N := some 44) (v := undef) (a' := ?_) #[true, true, true, true, true, true, true, true, true, true, true, true, true, true, true, true, true, false, false, false] rfl rfl (any_of HT_.out (by kernel_rfl)) (fun _ _ _ h => h) (Or.inr ⟨by rfl, rfl⟩) ?_ ?_
          rotate_left
          · simp only [Act.put, List.setIfInBounds_toArray, List.set_cons_zero, List.set_cons_succ, i64_w, i32_w]
            rfl
          refine pure_ (i := 17) (N := some 45) (v := undef) (a' := ?_) #[true, true, true, true, true, true, true, true, true, true, true, true, true, true, true, true, true, true, false, false] rfl rfl (any_of HT_.out (by kernel_rfl)) (fun _ _ _ h => h) (Or.inr ⟨by rfl, rfl⟩) ?_ ?_
          rotate_left
          · simp only [Act.put, List.setIfInBounds_toArray, List.set_cons_zero, List.set_cons_succ, i64_w, i32_w]
            rfl
          refine pure_ (i := 18) (N := some 46) (v := undef) (a' := ?_) #[true, true, true, true, true, true, true, true, true, true, true, true, true, true, true, true, true, true, true, false] rfl rfl (any_of HT_.out (by kernel_rfl)) (fun _ _ _ h => h) (Or.inr ⟨by rfl, rfl⟩) ?_ ?_
          rotate_left
          · simp only [Act.put, List.setIfInBounds_toArray, List.set_cons_zero, List.set_cons_succ, i64_w, i32_w]
            rfl
          refine pure_ (i := 19) (N := some 47) (v := ?_) (a' := ?_) #[true, true, true, true, true, true, true, true, true, true, true, true, true, true, true, true, true, true, true, true] rfl rfl (any_of HT_.out (by kernel_rfl)) (fun _ _ _ h => h) (Or.inl ⟨by rfl, ?_⟩) ?_ ?_
          rotate_left
          · intro w'
            first | (refine pl_zeroRun ?_ pbuilt69; rfl) | (refine pl_neqRunX ?_ Try.underlying69 Try.underlying24 (by kernel_rfl) pgd69 PZn; exact ⟨_, _, _, rfl, rfl, rfl⟩) | (refine pl_eqlRunX ?_ Try.underlying69 Try.underlying24 (by kernel_rfl) pgd69 PZe; exact ⟨_, _, _, rfl, rfl, rfl⟩) | (go_simp; with_reducible rfl)
          rotate_left
          · simp only [Act.put, List.setIfInBounds_toArray, List.set_cons_zero, List.set_cons_succ, i64_w, i32_w]
            rfl
          refine done_ (done_of HT_.out (by kernel_rfl)) ?_
          try go_wp2
          go_meet
          case rel => exact ⟨_, (true), (by first | rfl | (simp; done) | (simp [*]; done)), H', ⟨by first | omega | exact Nat.le_refl _⟩, ⟨by (with_reducible repeat (first | refine blk_drewN ?_ _ | refine blk_drew ?_ | refine blk_alloc ?_ _)); exact BK203.out⟩, ⟨by repeat (first | (with_reducible first | exact HB.out | apply below_alloc | apply pw_below_drewN | apply below_drew1 | refine below_set ?_ GE203.out) | exact HB.out)⟩⟩
      · rw [if_neg c14] at H
        exact absurd H (by simp)
    case rest =>
      clear HC8
      try clear c1
      try clear c2
      try clear p2
      try clear q2
      try clear hx2
      try clear qi2
      try clear c3
      try clear p6
      try clear c14
      try clear c16
      try clear c18
      try clear c19
      try clear c20
      try clear c20b0
      try clear c20b1
      try clear p20
      try clear q20
      try clear hx20
      try clear qi20
      try clear p21
      try clear q21
      try clear hx21
      try clear hx208_0
      try clear hx210_0
      try clear p208
      try clear p210
      try clear q208
      try clear q210
      obtain ⟨kq, x47_7, rfl, HA, HJ7, BK203, HB⟩ := hcut
      cases kq with
      | zero => exact absurd HA.out (by simp [impl_CheckReach.j0])
      | succ kj7 =>
        have H := HA.out
        clear HA
        simp only [impl_CheckReach.j0] at H
        by_cases c33 : x47_7 = true
        · subst c33
          have H1 : (some (false, 0)) = some (r1, r2) := by rw [if_pos rfl] at H; exact H
          clear H
          have H := H1
          clear H1
          simp only [Option.some.injEq, Prod.mk.injEq] at H
          obtain ⟨rfl, rfl⟩ := H
          go_wp2
          go_ret2
          exact ⟨by first | rfl | (simp [errW_none, errW_some] <;> rfl) | (simp [*, errW_none, errW_some] <;> rfl), by repeat (first | (with_reducible first | exact HB.out | apply below_alloc | apply pw_below_drewN | apply below_drew1 | refine below_set ?_ GE203.out) | exact HB.out)⟩
        · replace c33 := Bool.eq_false_iff.mpr c33
          subst c33
          have H1 : (impl_CheckReach.l0 kj7 a3 l4 (wrap64 ((wrap64 ((l4.length : Int) - 3)) + 2)) 0 l0 a1 (wrap64 ((l4.length : Int) - 3)) a2) = some (r1, r2) := by rw [if_neg (show ¬ (false = true) by decide)] at H; exact H
          clear H
          have H := H1
          clear H1
          have H' := Aside0.mk H
          clear H
          have hcz34_0 : wc.cell? ⟨gb203, 0, none⟩ = some (.slice A0 l0.length c0) := (blk_cell BK203.out 0).trans rfl
          have hcz34_1 : wc.cell? ⟨gb203, 1, none⟩ = some (.int .i64 a1) := (blk_cell BK203.out 1).trans rfl
          have hcz34_2 : wc.cell? ⟨gb203, 2, none⟩ = some (.int .i64 (wrap64 ((l4.length : Int) - 3))) := (blk_cell BK203.out 2).trans rfl
          have hcz34_3 : wc.cell? ⟨gb203, 3, none⟩ = some (.int .i64 a2) := (blk_cell BK203.out 3).trans rfl
          have hfz34_0 := blk_frozen BK203.out 0
          have hfz34_1 := blk_frozen BK203.out 1
          have hfz34_2 := blk_frozen BK203.out 2
          have hfz34_3 := blk_frozen BK203.out 3
          go_wp2
          go_loopg [51] kj7 (fun kq v51 w' => ∃ (x51_2 : Int), v51 = .int .i64 x51_2 ∧ Aside0 (impl_CheckReach.l0 kq a3 l4 (wrap64 ((wrap64 ((l4.length : Int) - 3)) + 2)) x51_2 l0 a1 (wrap64 ((l4.length : Int) - 3)) a2 = some (r1, r2)) ∧ Aside0 (kq ≤ kj7) ∧ Aside0 (w'.heap[gb203]? = some (.cells #[(.slice A0 l0.length c0), .int .i64 a1, .int .i64 (wrap64 ((l4.length : Int) - 3)), .int .i64 a2] 75 (0, 0))) ∧ Aside0 (Below w.heap.size w w'))
          case atStart => exact ⟨(0), (by first | rfl | (simp; done) | (simp [*]; done)), H', ⟨Nat.le_refl _⟩, ⟨by (with_reducible repeat (first | refine blk_drewN ?_ _ | refine blk_drew ?_ | refine blk_alloc ?_ _)); exact BK203.out⟩, ⟨by repeat (first | (with_reducible first | exact HB.out | apply below_alloc | apply pw_below_drewN | apply below_drew1 | refine below_set ?_ GE203.out) | exact HB.out)⟩⟩
          case round =>
            clear H'
            try clear c1
            try clear c2
            try clear p2
            try clear q2
            try clear hx2
            try clear qi2
            try clear c3
            try clear p6
            try clear c14
            try clear c16
            try clear c18
            try clear c19
            try clear c20
            try clear c20b0
            try clear c20b1
            try clear p20
            try clear q20
            try clear hx20
            try clear qi20
            try clear p21
            try clear q21
            try clear hx21
            try clear c33
            try clear hcz34_0
            try clear hcz34_1
            try clear hcz34_2
            try clear hcz34_3
            try clear hfz34_0
            try clear hfz34_1
            try clear hfz34_2
            try clear hfz34_3
            try clear hx208_0
            try clear hx210_0
            try clear p2
            try clear p20
            try clear p208
            try clear p21
            try clear p210
            try clear p6
            try clear q2
            try clear q20
            try clear q208
            try clear q21
            try clear q210
            obtain ⟨x51_2, rfl, HA, HK2, BK203, HB⟩ := hrel
            cases gk with
            | zero => exact absurd HA.out (by simp [impl_CheckReach.l0])
            | succ k2 =>
              have H := HA.out
              clear HA
              simp only [impl_CheckReach.l0] at H
              by_cases c35 : x51_2 < (wrap64 ((wrap64 ((l4.length : Int) - 3)) + 2))
              · rw [if_pos c35] at H
                have c35b0 : decide (x51_2 < (wrap64 ((wrap64 ((l4.length : Int) - 3)) + 2))) = true := decide_eq_true c35
                clear c35
                by_cases c36 : 0 ≤ x51_2
                · rw [if_pos c36] at H
                  have c36b0 : decide (0 ≤ x51_2) = true := decide_eq_true c36
                  clear c36
                  by_cases c37 : x51_2 < (l4.length : Int)
                  · rw [if_pos c37] at H
                    have c37b0 : decide (x51_2 < (l4.length : Int)) = true := decide_eq_true c37
                    clear c37
                    replace H := Option.bind_eq_some_iff.mp H
                    obtain ⟨t212, A380, H⟩ := H
                    replace H : ((impl_led.f k2 ((rd_T69 l4 x51_2).f0) a3 t212).bind fun t213 => (if 0 ≤ (wrap64 (x51_2 + 1)) then (if (wrap64 (x51_2 + 1)) < (l4.length : Int) then ((impl_isWithin.f k2 t213 ((rd_T69 l4 (wrap64 (x51_2 + 1))).f0)).bind fun t215 => (if t215 = true then (impl_CheckReach.l0 k2 a3 l4 (wrap64 ((wrap64 ((l4.length : Int) - 3)) + 2)) (wrap64 (x51_2 + 1)) l0 a1 (wrap64 ((l4.length : Int) - 3)) a2) else (some (false, 0)))) else (none)) else (none))) = some (r1, r2) := H
                    have A38 := Aside0.mk A380
                    clear A380
                    replace H := Option.bind_eq_some_iff.mp H
                    obtain ⟨t213, A390, H⟩ := H
                    replace H : (if 0 ≤ (wrap64 (x51_2 + 1)) then (if (wrap64 (x51_2 + 1)) < (l4.length : Int) then ((impl_isWithin.f k2 t213 ((rd_T69 l4 (wrap64 (x51_2 + 1))).f0)).bind fun t215 => (if t215 = true then (impl_CheckReach.l0 k2 a3 l4 (wrap64 ((wrap64 ((l4.length : Int) - 3)) + 2)) (wrap64 (x51_2 + 1)) l0 a1 (wrap64 ((l4.length : Int) - 3)) a2) else (some (false, 0)))) else (none)) else (none)) = some (r1, r2) := H
                    have A39 := Aside0.mk A390
                    clear A390
                    obtain ⟨ji40, hji40⟩ : ∃ j_ : Int, (wrap64 (x51_2 + 1)) = j_ := ⟨_, rfl⟩
                    replace H : (if 0 ≤ (ji40) then (if (ji40) < (l4.length : Int) then ((impl_isWithin.f k2 t213 ((rd_T69 l4 (ji40)).f0)).bind fun t215 => (if t215 = true then (impl_CheckReach.l0 k2 a3 l4 (wrap64 ((wrap64 ((l4.length : Int) - 3)) + 2)) ji40 l0 a1 (wrap64 ((l4.length : Int) - 3)) a2) else (some (false, 0)))) else (none)) else (none)) = some (r1, r2) := by first | (rw [hji40] at H; exact H) | (simp only [hji40] at H ⊢; exact H)
                    (try rw [hji40] at A38)
                    (try rw [hji40] at A39)
                    have hji40w : (IntKind.i64.wrap (x51_2 + 1)) = ji40 := (i64_w _).trans hji40
                    by_cases c41 : 0 ≤ (ji40)
                    · rw [if_pos c41] at H
                      have c41b0 : decide (0 ≤ (ji40)) = true := decide_eq_true c41
                      clear c41
                      by_cases c42 : (ji40) < (l4.length : Int)
                      · rw [if_pos c42] at H
                        have c42b0 : decide ((ji40) < (l4.length : Int)) = true := decide_eq_true c42
                        clear c42
                        replace H := Option.bind_eq_some_iff.mp H
                        obtain ⟨t215, A430, H⟩ := H
                        replace H : (if t215 = true then (impl_CheckReach.l0 k2 a3 l4 (wrap64 ((wrap64 ((l4.length : Int) - 3)) + 2)) ji40 l0 a1 (wrap64 ((l4.length : Int) - 3)) a2) else (some (false, 0))) = some (r1, r2) := H
                        have A43 := Aside0.mk A430
                        clear A430
                        by_cases c44 : t215 = true
                        · subst c44
                          have H1 : (impl_CheckReach.l0 k2 a3 l4 (wrap64 ((wrap64 ((l4.length : Int) - 3)) + 2)) ji40 l0 a1 (wrap64 ((l4.length : Int) - 3)) a2) = some (r1, r2) := by rw [if_pos rfl] at H; exact H
                          clear H
                          have H := H1
                          clear H1
                          have H' := Aside0.mk H
                          clear H
                          try go_wp2
                          have n0_ := Aside0.mk (blk_drew BK203.out)
                          have n1_ := Aside0.mk (below_drew1 HB.out)
                          clear BK203
                          clear HB
                          have BK203 := n0_
                          have HB := n1_
                          clear n0_ n1_
                          have p211 : 0 ≤ (x51_2 : Int) := of_decide_eq_true (by first | (with_reducible assumption) | assumption)
                          have q211 : x51_2 < (l4.length : Int) := of_decide_eq_true (by first | (with_reducible assumption) | assumption)
                          obtain ⟨ad211, e211, hx211_0⟩ := at_T69 HR4.out x51_2 p211 q211
                          have hw211_0 := hx211_0
                          cases e211
                          replace hx211_0 := plAt.below (w := w) HB.out hx211_0 hx211_0.lt
                          replace p211 := eq_true p211
                          replace q211 := eq_true q211
                          have p214 : 0 ≤ ((ji40) : Int) := of_decide_eq_true (by first | (with_reducible assumption) | assumption)
                          have q214 : (ji40) < (l4.length : Int) := of_decide_eq_true (by first | (with_reducible assumption) | assumption)
                          obtain ⟨ad214, e214, hx214_0⟩ := at_T69 HR4.out (ji40) p214 q214
                          have hw214_0 := hx214_0
                          obtain rfl : ad211 = ad214 := (by injection e214)
                          replace hx214_0 := plAt.below (w := w) HB.out hx214_0 hx214_0.lt
                          replace p214 := eq_true p214
                          replace q214 := eq_true q214
                          refine start_ (n := 16) (S := fun w' => w'.cell? ⟨gb203, 0, none⟩ = some (.slice A0 l0.length c0) ∧ w'.cell? ⟨gb203, 1, none⟩ = some (.int .i64 a1) ∧ w'.cell? ⟨gb203, 2, none⟩ = some (.int .i64 (wrap64 ((l4.length : Int) - 3))) ∧ w'.cell? ⟨gb203, 3, none⟩ = some (.int .i64 a2) ∧ plAt w' (ad211.add ((x51_2).toNat * 64)) ((rd_T69 l4 x51_2).f0) ∧ plAt w' (ad211.add (((ji40)).toNat * 64)) ((rd_T69 l4 (ji40)).f0)) (ds := []) #[false, false, false, false, false, false, false, false, false, false, false, false, false, false, false, false] (by kernel_rfl) rfl rfl ⟨(blk_cell BK203.out 0).trans rfl, (blk_cell BK203.out 1).trans rfl, (blk_cell BK203.out 2).trans rfl, (blk_cell BK203.out 3).trans rfl, (by first | exact (plAt.below (w := w) HB.out hw211_0 hw211_0.lt) | exact (plAt.below (w := w) HB.out hv211_0 hv211_0.lt) | exact hx211_0), (by first | exact (plAt.below (w := w) HB.out hw214_0 hw214_0.lt) | exact (plAt.below (w := w) HB.out hv214_0 hv214_0.lt) | exact hx214_0)⟩ (fun hHeld => ?_); refine with_tabW impl_CheckReach.tab10 impl_CheckReach.bits10 (fun HT_ HW_ => ?_)
                          generalize wr.drew = w45 at BK203 HB hx211_0 hx214_0 hHeld ⊢
                          refine pure_ (i := 0) (N := some 54) (v := ?_) (a' := ?_) #[true, false, false, false, false, false, false, false, false, false, false, false, false, false, false, false] rfl rfl (any_of HT_.out (by kernel_rfl)) (fun _ _ _ h => h) (Or.inl ⟨by rfl, ?_⟩) ?_ ?_
                          rotate_left
                          · intro w'
                            first | (refine pl_zeroRun ?_ pbuilt69; rfl) | (refine pl_neqRunX ?_ Try.underlying69 Try.underlying24 (by kernel_rfl) pgd69 PZn; exact ⟨_, _, _, rfl, rfl, rfl⟩) | (refine pl_eqlRunX ?_ Try.underlying69 Try.underlying24 (by kernel_rfl) pgd69 PZe; exact ⟨_, _, _, rfl, rfl, rfl⟩) | (go_simp; with_reducible rfl)
                          rotate_left
                          · simp only [Act.put, List.setIfInBounds_toArray, List.set_cons_zero, List.set_cons_succ, i64_w, i32_w]
                            rfl
                          refine pure_ (i := 1) (N := some 55) (v := ?_) (a' := ?_) #[true, true, false, false, false, false, false, false, false, false, false, false, false, false, false, false] rfl rfl (any_of HT_.out (by kernel_rfl)) (fun _ _ _ h => h) (Or.inl ⟨by rfl, ?_⟩) ?_ ?_
                          rotate_left
                          · intro w'
                            first | (refine pl_zeroRun ?_ pbuilt69; rfl) | (refine pl_neqRunX ?_ Try.underlying69 Try.underlying24 (by kernel_rfl) pgd69 PZn; exact ⟨_, _, _, rfl, rfl, rfl⟩) | (refine pl_eqlRunX ?_ Try.underlying69 Try.underlying24 (by kernel_rfl) pgd69 PZe; exact ⟨_, _, _, rfl, rfl, rfl⟩) | (go_simp; with_reducible rfl)
                          rotate_left
                          · simp only [Act.put, List.setIfInBounds_toArray, List.set_cons_zero, List.set_cons_succ, i64_w, i32_w]
                            rfl
                          refine pure_ (i := 2) (N := some 56) (v := ?_) (a' := ?_) #[true, true, true, false, false, false, false, false, false, false, false, false, false, false, false, false] rfl rfl (any_of HT_.out (by kernel_rfl)) (fun _ _ _ h => h) (Or.inl ⟨by rfl, ?_⟩) ?_ ?_
                          rotate_left
                          · intro w'
                            first | (refine pl_zeroRun ?_ pbuilt69; rfl) | (refine pl_neqRunX ?_ Try.underlying69 Try.underlying24 (by kernel_rfl) pgd69 PZn; exact ⟨_, _, _, rfl, rfl, rfl⟩) | (refine pl_eqlRunX ?_ Try.underlying69 Try.underlying24 (by kernel_rfl) pgd69 PZe; exact ⟨_, _, _, rfl, rfl, rfl⟩) | (go_simp; with_reducible rfl)
                          rotate_left
                          · simp only [Act.put, List.setIfInBounds_toArray, List.set_cons_zero, List.set_cons_succ, i64_w, i32_w]
                            rfl
                          refine pure_ (i := 4) (N := some 58) (v := ?_) (a' := ?_) #[true, true, true, false, true, false, false, false, false, false, false, false, false, false, false, false] rfl rfl (any_of HT_.out (by kernel_rfl)) (fun _ _ _ h => h) (Or.inl ⟨by rfl, ?_⟩) ?_ ?_
                          rotate_left
                          · intro w'
                            first | (refine pl_zeroRun ?_ pbuilt69; rfl) | (refine pl_neqRunX ?_ Try.underlying69 Try.underlying24 (by kernel_rfl) pgd69 PZn; exact ⟨_, _, _, rfl, rfl, rfl⟩) | (refine pl_eqlRunX ?_ Try.underlying69 Try.underlying24 (by kernel_rfl) pgd69 PZe; exact ⟨_, _, _, rfl, rfl, rfl⟩) | (go_simp; with_reducible rfl)
                          rotate_left
                          · simp only [Act.put, List.setIfInBounds_toArray, List.set_cons_zero, List.set_cons_succ, i64_w, i32_w]
                            rfl
                          refine pure_ (i := 6) (N := some 60) (v := ?_) (a' := ?_) #[true, true, true, false, true, false, true, false, false, false, false, false, false, false, false, false] rfl rfl (any_of HT_.out (by kernel_rfl)) (fun _ _ _ h => h) (Or.inl ⟨by rfl, ?_⟩) ?_ ?_
                          rotate_left
                          · intro w'
                            first | (refine pl_zeroRun ?_ pbuilt69; rfl) | (refine pl_neqRunX ?_ Try.underlying69 Try.underlying24 (by kernel_rfl) pgd69 PZn; exact ⟨_, _, _, rfl, rfl, rfl⟩) | (refine pl_eqlRunX ?_ Try.underlying69 Try.underlying24 (by kernel_rfl) pgd69 PZe; exact ⟨_, _, _, rfl, rfl, rfl⟩) | (go_simp; with_reducible rfl)
                          rotate_left
                          · simp only [Act.put, List.setIfInBounds_toArray, List.set_cons_zero, List.set_cons_succ, i64_w, i32_w]
                            rfl
                          refine pure_ (i := 9) (N := some 63) (v := ?_) (a' := ?_) #[true, true, true, false, true, false, true, false, false, true, false, false, false, false, false, false] rfl rfl (any_of HT_.out (by kernel_rfl)) (fun _ _ _ h => h) (Or.inl ⟨by rfl, ?_⟩) ?_ ?_
                          rotate_left
                          · intro w'
                            first | (refine pl_zeroRun ?_ pbuilt69; rfl) | (refine pl_neqRunX ?_ Try.underlying69 Try.underlying24 (by kernel_rfl) pgd69 PZn; exact ⟨_, _, _, rfl, rfl, rfl⟩) | (refine pl_eqlRunX ?_ Try.underlying69 Try.underlying24 (by kernel_rfl) pgd69 PZe; exact ⟨_, _, _, rfl, rfl, rfl⟩) | (go_simp; with_reducible rfl)
                          rotate_left
                          · simp only [Act.put, List.setIfInBounds_toArray, List.set_cons_zero, List.set_cons_succ, i64_w, i32_w]
                            rfl
                          refine pure_ (i := 10) (N := some 64) (v := ?_) (a' := ?_) #[true, true, true, false, true, false, true, false, false, true, true, false, false, false, false, false] rfl rfl (any_of HT_.out (by kernel_rfl)) (fun _ _ _ h => h) (Or.inl ⟨by rfl, ?_⟩) ?_ ?_
                          rotate_left
                          · intro w'
                            first | (refine pl_zeroRun ?_ pbuilt69; rfl) | (refine pl_neqRunX ?_ Try.underlying69 Try.underlying24 (by kernel_rfl) pgd69 PZn; exact ⟨_, _, _, rfl, rfl, rfl⟩) | (refine pl_eqlRunX ?_ Try.underlying69 Try.underlying24 (by kernel_rfl) pgd69 PZe; exact ⟨_, _, _, rfl, rfl, rfl⟩) | (go_simp; with_reducible rfl)
                          rotate_left
                          · simp only [Act.put, List.setIfInBounds_toArray, List.set_cons_zero, List.set_cons_succ, i64_w, i32_w]
                            rfl
                          refine pure_ (i := 11) (N := some 65) (v := ?_) (a' := ?_) #[true, true, true, false, true, false, true, false, false, true, true, true, false, false, false, false] rfl rfl (any_of HT_.out (by kernel_rfl)) (fun _ _ _ h => h) (Or.inl ⟨by rfl, ?_⟩) ?_ ?_
                          rotate_left
                          · intro w'
                            first | (refine pl_zeroRun ?_ pbuilt69; rfl) | (refine pl_neqRunX ?_ Try.underlying69 Try.underlying24 (by kernel_rfl) pgd69 PZn; exact ⟨_, _, _, rfl, rfl, rfl⟩) | (refine pl_eqlRunX ?_ Try.underlying69 Try.underlying24 (by kernel_rfl) pgd69 PZe; exact ⟨_, _, _, rfl, rfl, rfl⟩) | (go_simp; with_reducible rfl)
                          rotate_left
                          · simp only [Act.put, List.setIfInBounds_toArray, List.set_cons_zero, List.set_cons_succ, i64_w, i32_w]
                            rfl
                          refine pure_ (i := 12) (N := some 66) (v := ?_) (a' := ?_) #[true, true, true, false, true, false, true, false, false, true, true, true, true, false, false, false] rfl rfl (any_of HT_.out (by kernel_rfl)) (fun _ _ _ h => h) (Or.inl ⟨by rfl, ?_⟩) ?_ ?_
                          rotate_left
                          · intro w'
                            first | (refine pl_zeroRun ?_ pbuilt69; rfl) | (refine pl_neqRunX ?_ Try.underlying69 Try.underlying24 (by kernel_rfl) pgd69 PZn; exact ⟨_, _, _, rfl, rfl, rfl⟩) | (refine pl_eqlRunX ?_ Try.underlying69 Try.underlying24 (by kernel_rfl) pgd69 PZe; exact ⟨_, _, _, rfl, rfl, rfl⟩) | (go_simp; with_reducible rfl)
                          rotate_left
                          · simp only [Act.put, List.setIfInBounds_toArray, List.set_cons_zero, List.set_cons_succ, i64_w, i32_w]
                            rfl
                          refine take_ (i := 3) (N := some 57) (v := ?_) (a' := ?_) #[true, true, true, true, true, false, true, false, false, true, true, true, true, false, false, false] rfl rfl (take_ofW HT_.out HW_.out (by kernel_rfl)) (fun _ _ _ h => h) (Or.inl ⟨by rfl, ?_⟩) hHeld ?_ ?_
                          rotate_left
                          · rintro w' ⟨s0, s1, s2, s3, s4, s5⟩
                            first | (refine pl_loadRunX ?_ s4 Try.underlying69 (info_pl pinfo69); exact ⟨_, rfl, rfl⟩) | (refine pl_loadRunX ?_ s5 Try.underlying69 (info_pl pinfo69); exact ⟨_, rfl, rfl⟩) | (go_simp; with_reducible rfl)
                          rotate_left
                          · simp only [Act.put, List.setIfInBounds_toArray, List.set_cons_zero, List.set_cons_succ, i64_w, i32_w]
                            rfl
                          refine take_ (i := 5) (N := some 59) (v := ?_) (a' := ?_) #[true, true, true, true, true, true, true, false, false, true, true, true, true, false, false, false] rfl rfl (take_ofW HT_.out HW_.out (by kernel_rfl)) (fun _ _ _ h => h) (Or.inl ⟨by rfl, ?_⟩) hHeld ?_ ?_
                          rotate_left
                          · rintro w' ⟨s0, s1, s2, s3, s4, s5⟩
                            first | (refine pl_loadRunX ?_ s4 Try.underlying69 (info_pl pinfo69); exact ⟨_, rfl, rfl⟩) | (refine pl_loadRunX ?_ s5 Try.underlying69 (info_pl pinfo69); exact ⟨_, rfl, rfl⟩) | (go_simp; with_reducible rfl)
                          rotate_left
                          · simp only [Act.put, List.setIfInBounds_toArray, List.set_cons_zero, List.set_cons_succ, i64_w, i32_w]
                            rfl
                          refine take_ (i := 13) (N := some 67) (v := ?_) (a' := ?_) #[true, true, true, true, true, true, true, false, false, true, true, true, true, true, false, false] rfl rfl (take_ofW HT_.out HW_.out (by kernel_rfl)) (fun _ _ _ h => h) (Or.inl ⟨by rfl, ?_⟩) hHeld ?_ ?_
                          rotate_left
                          · rintro w' ⟨s0, s1, s2, s3, s4, s5⟩
                            first | (refine pl_loadRunX ?_ s4 Try.underlying69 (info_pl pinfo69); exact ⟨_, rfl, rfl⟩) | (refine pl_loadRunX ?_ s5 Try.underlying69 (info_pl pinfo69); exact ⟨_, rfl, rfl⟩) | (go_simp; with_reducible rfl)
                          rotate_left
                          · simp only [Act.put, List.setIfInBounds_toArray, List.set_cons_zero, List.set_cons_succ, i64_w, i32_w]
                            rfl
                          refine one_ (i := 7) (N := some 61) #[true, true, true, true, true, true, true, true, false, true, true, true, true, true, false, false] rfl rfl (one_of HT_.out (by kernel_rfl)) (by decide) (fun K hK => ?_)
                          refine goes_ Try.func41 (by kernel_rfl) rfl #[.agg #[.slice A0 l0.length c0, .int .i64 a1, .int .i64 (wrap64 ((l4.length : Int) - 3)), .int .i64 a2], .int .i64 x51_2] (by rfl) rfl rfl (by (try simp only [List.map_toArray, List.map_cons, List.map_nil]); first | done | rfl | (simp only [List.length_drop, List.length_take]; rfl)) ?_
                          with_reducible refine (impl_stretch_allowed.calls _ _ l0 a1 (wrap64 ((l4.length : Int) - 3)) a2 x51_2 t212 _ ?side1 ?side2 A38.out).mono ?_
                          (case side1 => repeat (first | exact (Kd.C_below HR0.out HB.out) | (with_reducible refine Kd.C_alloc ?_ _) | (with_reducible refine Kd.C_drewN ?_ _) | (with_reducible refine Kd.C_drew ?_)))
                          (case side2 => exact HC0.out)
                          rintro e w46 ⟨rfl, hb⟩
                          refine ⟨_, rfl, ?_⟩
                          have n0_ := Aside0.mk (blk_below (g := gb203) (o := .cells #[.slice A0 l0.length c0, .int .i64 a1, .int .i64 (wrap64 ((l4.length : Int) - 3)), .int .i64 a2] 75 (0, 0)) (by (with_reducible repeat (first | refine blk_drewN ?_ _ | refine blk_drew ?_ | refine blk_alloc ?_ _)); exact BK203.out) hb)
                          have n1_ := Aside0.mk (below_step (by repeat (first | (with_reducible first | exact HB.out | apply below_alloc | apply pw_below_drewN | apply below_drew1 | refine below_set ?_ GE203.out) | exact HB.out)) hb)
                          clear BK203
                          clear HB
                          have BK203 := n0_
                          have HB := n1_
                          clear n0_ n1_
                          (try clear hb)
                          (try clear hb2)
                          (try clear hk)
                          (try clear hi)
                          refine hK.out _ _ ⟨(blk_cell BK203.out 0).trans rfl, (blk_cell BK203.out 1).trans rfl, (blk_cell BK203.out 2).trans rfl, (blk_cell BK203.out 3).trans rfl, (by first | exact (plAt.below (w := w) HB.out hw211_0 hw211_0.lt) | exact (plAt.below (w := w) HB.out hv211_0 hv211_0.lt) | exact hx211_0), (by first | exact (plAt.below (w := w) HB.out hw214_0 hw214_0.lt) | exact (plAt.below (w := w) HB.out hv214_0 hv214_0.lt) | exact hx214_0)⟩ (fun hHeld => ?_)
                          clear hK K
                          refine norm_ (a' := ?_) ?_ ?_
                          rotate_left
                          · show Act.put _ (some 61) _ = _
                            simp only [Act.put, List.setIfInBounds_toArray, List.set_cons_zero, List.set_cons_succ, i64_w, i32_w]
                            rfl
                          refine one_ (i := 8) (N := some 62) #[true, true, true, true, true, true, true, true, true, true, true, true, true, true, false, false] rfl rfl (one_of HT_.out (by kernel_rfl)) (by decide) (fun K hK => ?_)
                          refine goes_ Try.func40 (by kernel_rfl) rfl #[.agg (plA ((rd_T69 l4 x51_2).f0)), .int .i64 a3, .int .u64 t212] (by rfl) rfl rfl (by (try simp only [List.map_toArray, List.map_cons, List.map_nil]); first | done | rfl | (simp only [List.length_drop, List.length_take]; rfl)) ?_
                          with_reducible refine (impl_led.calls k2 ((rd_T69 l4 x51_2).f0) a3 t212 t213 _ A39.out).mono ?_
                          rintro e w47 ⟨rfl, hb⟩
                          refine ⟨_, rfl, ?_⟩
                          have n0_ := Aside0.mk (blk_below (g := gb203) (o := .cells #[.slice A0 l0.length c0, .int .i64 a1, .int .i64 (wrap64 ((l4.length : Int) - 3)), .int .i64 a2] 75 (0, 0)) (by (with_reducible repeat (first | refine blk_drewN ?_ _ | refine blk_drew ?_ | refine blk_alloc ?_ _)); exact BK203.out) hb)
                          have n1_ := Aside0.mk (below_step (by repeat (first | (with_reducible first | exact HB.out | apply below_alloc | apply pw_below_drewN | apply below_drew1 | refine below_set ?_ GE203.out) | exact HB.out)) hb)
                          clear BK203
                          clear HB
                          have BK203 := n0_
                          have HB := n1_
                          clear n0_ n1_
                          (try clear hb)
                          (try clear hb2)
                          (try clear hk)
                          (try clear hi)
                          refine hK.out _ _ ⟨(blk_cell BK203.out 0).trans rfl, (blk_cell BK203.out 1).trans rfl, (blk_cell BK203.out 2).trans rfl, (blk_cell BK203.out 3).trans rfl, (by first | exact (plAt.below (w := w) HB.out hw211_0 hw211_0.lt) | exact (plAt.below (w := w) HB.out hv211_0 hv211_0.lt) | exact hx211_0), (by first | exact (plAt.below (w := w) HB.out hw214_0 hw214_0.lt) | exact (plAt.below (w := w) HB.out hv214_0 hv214_0.lt) | exact hx214_0)⟩ (fun hHeld => ?_)
                          clear hK K
                          refine norm_ (a' := ?_) ?_ ?_
                          rotate_left
                          · show Act.put _ (some 62) _ = _
                            simp only [Act.put, List.setIfInBounds_toArray, List.set_cons_zero, List.set_cons_succ, i64_w, i32_w]
                            rfl
                          refine one_ (i := 14) (N := some 68) #[true, true, true, true, true, true, true, true, true, true, true, true, true, true, true, false] rfl rfl (one_of HT_.out (by kernel_rfl)) (by decide) (fun K hK => ?_)
                          refine goes_ Try.func37 (by kernel_rfl) rfl #[.agg (plA t213), .agg (plA ((rd_T69 l4 (ji40)).f0))] (by rfl) rfl rfl (by (try simp only [List.map_toArray, List.map_cons, List.map_nil]); first | done | (simp only [hji40]; rfl) | rfl | (simp only [List.length_drop, List.length_take]; rfl)) ?_
                          with_reducible refine (impl_isWithin.calls k2 t213 ((rd_T69 l4 (ji40)).f0) true _ A43.out).mono ?_
                          rintro e w48 ⟨rfl, hb⟩
                          refine ⟨_, rfl, ?_⟩
                          have n0_ := Aside0.mk (blk_below (g := gb203) (o := .cells #[.slice A0 l0.length c0, .int .i64 a1, .int .i64 (wrap64 ((l4.length : Int) - 3)), .int .i64 a2] 75 (0, 0)) (by (with_reducible repeat (first | refine blk_drewN ?_ _ | refine blk_drew ?_ | refine blk_alloc ?_ _)); exact BK203.out) hb)
                          have n1_ := Aside0.mk (below_step (by repeat (first | (with_reducible first | exact HB.out | apply below_alloc | apply pw_below_drewN | apply below_drew1 | refine below_set ?_ GE203.out) | exact HB.out)) hb)
                          clear BK203
                          clear HB
                          have BK203 := n0_
                          have HB := n1_
                          clear n0_ n1_
                          (try clear hb)
                          (try clear hb2)
                          (try clear hk)
                          (try clear hi)
                          refine hK.out _ _ ⟨(blk_cell BK203.out 0).trans rfl, (blk_cell BK203.out 1).trans rfl, (blk_cell BK203.out 2).trans rfl, (blk_cell BK203.out 3).trans rfl, (by first | exact (plAt.below (w := w) HB.out hw211_0 hw211_0.lt) | exact (plAt.below (w := w) HB.out hv211_0 hv211_0.lt) | exact hx211_0), (by first | exact (plAt.below (w := w) HB.out hw214_0 hw214_0.lt) | exact (plAt.below (w := w) HB.out hv214_0 hv214_0.lt) | exact hx214_0)⟩ (fun hHeld => ?_)
                          clear hK K
                          refine norm_ (a' := ?_) ?_ ?_
                          rotate_left
                          · show Act.put _ (some 68) _ = _
                            simp only [Act.put, List.setIfInBounds_toArray, List.set_cons_zero, List.set_cons_succ, i64_w, i32_w]
                            rfl
                          refine pure_ (i := 15) (N := some 69) (v := ?_) (a' := ?_) #[true, true, true, true, true, true, true, true, true, true, true, true, true, true, true, true] rfl rfl (any_of HT_.out (by kernel_rfl)) (fun _ _ _ h => h) (Or.inl ⟨by rfl, ?_⟩) ?_ ?_
                          rotate_left
                          · intro w'
                            first | (refine pl_zeroRun ?_ pbuilt69; rfl) | (refine pl_neqRunX ?_ Try.underlying69 Try.underlying24 (by kernel_rfl) pgd69 PZn; exact ⟨_, _, _, rfl, rfl, rfl⟩) | (refine pl_eqlRunX ?_ Try.underlying69 Try.underlying24 (by kernel_rfl) pgd69 PZe; exact ⟨_, _, _, rfl, rfl, rfl⟩) | (go_simp; with_reducible rfl)
                          rotate_left
                          · simp only [Act.put, List.setIfInBounds_toArray, List.set_cons_zero, List.set_cons_succ, i64_w, i32_w]
                            rfl
                          refine done_ (done_of HT_.out (by kernel_rfl)) ?_
                          try go_wp2
                          go_roundg k2
                          case measure => have := HJ7.out; have := HK2.out; omega
                          case rel => exact ⟨(ji40), (by first | rfl | (simp; done) | (simp only [← hji40] <;> (first | rfl | simp)) | (simp [*]; done)), H', ⟨by have := HJ7.out; have := HK2.out; omega⟩, ⟨by (with_reducible repeat (first | refine blk_drewN ?_ _ | refine blk_drew ?_ | refine blk_alloc ?_ _)); exact BK203.out⟩, ⟨by repeat (first | (with_reducible first | exact HB.out | apply below_alloc | apply pw_below_drewN | apply below_drew1 | refine below_set ?_ GE203.out) | exact HB.out)⟩⟩
                        · replace c44 := Bool.eq_false_iff.mpr c44
                          subst c44
                          have H1 : (some (false, 0)) = some (r1, r2) := by rw [if_neg (show ¬ (false = true) by decide)] at H; exact H
                          clear H
                          have H := H1
                          clear H1
                          simp only [Option.some.injEq, Prod.mk.injEq] at H
                          obtain ⟨rfl, rfl⟩ := H
                          try go_wp2
                          have n0_ := Aside0.mk (blk_drew BK203.out)
                          have n1_ := Aside0.mk (below_drew1 HB.out)
                          clear BK203
                          clear HB
                          have BK203 := n0_
                          have HB := n1_
                          clear n0_ n1_
                          have p211 : 0 ≤ (x51_2 : Int) := of_decide_eq_true (by first | (with_reducible assumption) | assumption)
                          have q211 : x51_2 < (l4.length : Int) := of_decide_eq_true (by first | (with_reducible assumption) | assumption)
                          obtain ⟨ad211, e211, hx211_0⟩ := at_T69 HR4.out x51_2 p211 q211
                          have hw211_0 := hx211_0
                          cases e211
                          replace hx211_0 := plAt.below (w := w) HB.out hx211_0 hx211_0.lt
                          replace p211 := eq_true p211
                          replace q211 := eq_true q211
                          have p214 : 0 ≤ ((ji40) : Int) := of_decide_eq_true (by first | (with_reducible assumption) | assumption)
                          have q214 : (ji40) < (l4.length : Int) := of_decide_eq_true (by first | (with_reducible assumption) | assumption)
                          obtain ⟨ad214, e214, hx214_0⟩ := at_T69 HR4.out (ji40) p214 q214
                          have hw214_0 := hx214_0
                          obtain rfl : ad211 = ad214 := (by injection e214)
                          replace hx214_0 := plAt.below (w := w) HB.out hx214_0 hx214_0.lt
                          replace p214 := eq_true p214
                          replace q214 := eq_true q214
                          refine start_ (n := 16) (S := fun w' => w'.cell? ⟨gb203, 0, none⟩ = some (.slice A0 l0.length c0) ∧ w'.cell? ⟨gb203, 1, none⟩ = some (.int .i64 a1) ∧ w'.cell? ⟨gb203, 2, none⟩ = some (.int .i64 (wrap64 ((l4.length : Int) - 3))) ∧ w'.cell? ⟨gb203, 3, none⟩ = some (.int .i64 a2) ∧ plAt w' (ad211.add ((x51_2).toNat * 64)) ((rd_T69 l4 x51_2).f0) ∧ plAt w' (ad211.add (((ji40)).toNat * 64)) ((rd_T69 l4 (ji40)).f0)) (ds := []) #[false, false, false, false, false, false, false, false, false, false, false, false, false, false, false, false] (by kernel_rfl) rfl rfl ⟨(blk_cell BK203.out 0).trans rfl, (blk_cell BK203.out 1).trans rfl, (blk_cell BK203.out 2).trans rfl, (blk_cell BK203.out 3).trans rfl, (by first | exact (plAt.below (w := w) HB.out hw211_0 hw211_0.lt) | exact (plAt.below (w := w) HB.out hv211_0 hv211_0.lt) | exact hx211_0), (by first | exact (plAt.below (w := w) HB.out hw214_0 hw214_0.lt) | exact (plAt.below (w := w) HB.out hv214_0 hv214_0.lt) | exact hx214_0)⟩ (fun hHeld => ?_); refine with_tabW impl_CheckReach.tab10 impl_CheckReach.bits10 (fun HT_ HW_ => ?_)
                          generalize wr.drew = w49 at BK203 HB hx211_0 hx214_0 hHeld ⊢
                          refine pure_ (i := 0) (N := some 54) (v := ?_) (a' := ?_) #[true, false, false, false, false, false, false, false, false, false, false, false, false, false, false, false] rfl rfl (any_of HT_.out (by kernel_rfl)) (fun _ _ _ h => h) (Or.inl ⟨by rfl, ?_⟩) ?_ ?_
                          rotate_left
                          · intro w'
                            first | (refine pl_zeroRun ?_ pbuilt69; rfl) | (refine pl_neqRunX ?_ Try.underlying69 Try.underlying24 (by kernel_rfl) pgd69 PZn; exact ⟨_, _, _, rfl, rfl, rfl⟩) | (refine pl_eqlRunX ?_ Try.underlying69 Try.underlying24 (by kernel_rfl) pgd69 PZe; exact ⟨_, _, _, rfl, rfl, rfl⟩) | (go_simp; with_reducible rfl)
                          rotate_left
                          · simp only [Act.put, List.setIfInBounds_toArray, List.set_cons_zero, List.set_cons_succ, i64_w, i32_w]
                            rfl
                          refine pure_ (i := 1) (N := some 55) (v := ?_) (a' := ?_) #[true, true, false, false, false, false, false, false, false, false, false, false, false, false, false, false] rfl rfl (any_of HT_.out (by kernel_rfl)) (fun _ _ _ h => h) (Or.inl ⟨by rfl, ?_⟩) ?_ ?_
                          rotate_left
                          · intro w'
                            first | (refine pl_zeroRun ?_ pbuilt69; rfl) | (refine pl_neqRunX ?_ Try.underlying69 Try.underlying24 (by kernel_rfl) pgd69 PZn; exact ⟨_, _, _, rfl, rfl, rfl⟩) | (refine pl_eqlRunX ?_ Try.underlying69 Try.underlying24 (by kernel_rfl) pgd69 PZe; exact ⟨_, _, _, rfl, rfl, rfl⟩) | (go_simp; with_reducible rfl)
                          rotate_left
                          · simp only [Act.put, List.setIfInBounds_toArray, List.set_cons_zero, List.set_cons_succ, i64_w, i32_w]
                            rfl
                          refine pure_ (i := 2) (N := some 56) (v := ?_) (a' := ?_) #[true, true, true, false, false, false, false, false, false, false, false, false, false, false, false, false] rfl rfl (any_of HT_.out (by kernel_rfl)) (fun _ _ _ h => h) (Or.inl ⟨by rfl, ?_⟩) ?_ ?_
                          rotate_left
                          · intro w'
                            first | (refine pl_zeroRun ?_ pbuilt69; rfl) | (refine pl_neqRunX ?_ Try.underlying69 Try.underlying24 (by kernel_rfl) pgd69 PZn; exact ⟨_, _, _, rfl, rfl, rfl⟩) | (refine pl_eqlRunX ?_ Try.underlying69 Try.underlying24 (by kernel_rfl) pgd69 PZe; exact ⟨_, _, _, rfl, rfl, rfl⟩) | (go_simp; with_reducible rfl)
                          rotate_left
                          · simp only [Act.put, List.setIfInBounds_toArray, List.set_cons_zero, List.set_cons_succ, i64_w, i32_w]
                            rfl
                          refine pure_ (i := 4) (N := some 58) (v := ?_) (a' := ?_) #[true, true, true, false, true, false, false, false, false, false, false, false, false, false, false, false] rfl rfl (any_of HT_.out (by kernel_rfl)) (fun _ _ _ h => h) (Or.inl ⟨by rfl, ?_⟩) ?_ ?_
                          rotate_left
                          · intro w'
                            first | (refine pl_zeroRun ?_ pbuilt69; rfl) | (refine pl_neqRunX ?_ Try.underlying69 Try.underlying24 (by kernel_rfl) pgd69 PZn; exact ⟨_, _, _, rfl, rfl, rfl⟩) | (refine pl_eqlRunX ?_ Try.underlying69 Try.underlying24 (by kernel_rfl) pgd69 PZe; exact ⟨_, _, _, rfl, rfl, rfl⟩) | (go_simp; with_reducible rfl)
                          rotate_left
                          · simp only [Act.put, List.setIfInBounds_toArray, List.set_cons_zero, List.set_cons_succ, i64_w, i32_w]
                            rfl
                          refine pure_ (i := 6) (N := some 60) (v := ?_) (a' := ?_) #[true, true, true, false, true, false, true, false, false, false, false, false, false, false, false, false] rfl rfl (any_of HT_.out (by kernel_rfl)) (fun _ _ _ h => h) (Or.inl ⟨by rfl, ?_⟩) ?_ ?_
                          rotate_left
                          · intro w'
                            first | (refine pl_zeroRun ?_ pbuilt69; rfl) | (refine pl_neqRunX ?_ Try.underlying69 Try.underlying24 (by kernel_rfl) pgd69 PZn; exact ⟨_, _, _, rfl, rfl, rfl⟩) | (refine pl_eqlRunX ?_ Try.underlying69 Try.underlying24 (by kernel_rfl) pgd69 PZe; exact ⟨_, _, _, rfl, rfl, rfl⟩) | (go_simp; with_reducible rfl)
                          rotate_left
                          · simp only [Act.put, List.setIfInBounds_toArray, List.set_cons_zero, List.set_cons_succ, i64_w, i32_w]
                            rfl
                          refine pure_ (i := 9) (N := some 63) (v := ?_) (a' := ?_) #[true, true, true, false, true, false, true, false, false, true, false, false, false, false, false, false] rfl rfl (any_of HT_.out (by kernel_rfl)) (fun _ _ _ h => h) (Or.inl ⟨by rfl, ?_⟩) ?_ ?_
                          rotate_left
                          · intro w'
                            first | (refine pl_zeroRun ?_ pbuilt69; rfl) | (refine pl_neqRunX ?_ Try.underlying69 Try.underlying24 (by kernel_rfl) pgd69 PZn; exact ⟨_, _, _, rfl, rfl, rfl⟩) | (refine pl_eqlRunX ?_ Try.underlying69 Try.underlying24 (by kernel_rfl) pgd69 PZe; exact ⟨_, _, _, rfl, rfl, rfl⟩) | (go_simp; with_reducible rfl)
                          rotate_left
                          · simp only [Act.put, List.setIfInBounds_toArray, List.set_cons_zero, List.set_cons_succ, i64_w, i32_w]
                            rfl
                          refine pure_ (i := 10) (N := some 64) (v := ?_) (a' := ?_) #[true, true, true, false, true, false, true, false, false, true, true, false, false, false, false, false] rfl rfl (any_of HT_.out (by kernel_rfl)) (fun _ _ _ h => h) (Or.inl ⟨by rfl, ?_⟩) ?_ ?_
                          rotate_left
                          · intro w'
                            first | (refine pl_zeroRun ?_ pbuilt69; rfl) | (refine pl_neqRunX ?_ Try.underlying69 Try.underlying24 (by kernel_rfl) pgd69 PZn; exact ⟨_, _, _, rfl, rfl, rfl⟩) | (refine pl_eqlRunX ?_ Try.underlying69 Try.underlying24 (by kernel_rfl) pgd69 PZe; exact ⟨_, _, _, rfl, rfl, rfl⟩) | (go_simp; with_reducible rfl)
                          rotate_left
                          · simp only [Act.put, List.setIfInBounds_toArray, List.set_cons_zero, List.set_cons_succ, i64_w, i32_w]
                            rfl
                          refine pure_ (i := 11) (N := some 65) (v := ?_) (a' := ?_) #[true, true, true, false, true, false, true, false, false, true, true, true, false, false, false, false] rfl rfl (any_of HT_.out (by kernel_rfl)) (fun _ _ _ h => h) (Or.inl ⟨by rfl, ?_⟩) ?_ ?_
                          rotate_left
                          · intro w'
                            first | (refine pl_zeroRun ?_ pbuilt69; rfl) | (refine pl_neqRunX ?_ Try.underlying69 Try.underlying24 (by kernel_rfl) pgd69 PZn; exact ⟨_, _, _, rfl, rfl, rfl⟩) | (refine pl_eqlRunX ?_ Try.underlying69 Try.underlying24 (by kernel_rfl) pgd69 PZe; exact ⟨_, _, _, rfl, rfl, rfl⟩) | (go_simp; with_reducible rfl)
                          rotate_left
                          · simp only [Act.put, List.setIfInBounds_toArray, List.set_cons_zero, List.set_cons_succ, i64_w, i32_w]
                            rfl
                          refine pure_ (i := 12) (N := some 66) (v := ?_) (a' := ?_) #[true, true, true, false, true, false, true, false, false, true, true, true, true, false, false, false] rfl rfl (any_of HT_.out (by kernel_rfl)) (fun _ _ _ h => h) (Or.inl ⟨by rfl, ?_⟩) ?_ ?_
                          rotate_left
                          · intro w'
                            first | (refine pl_zeroRun ?_ pbuilt69; rfl) | (refine pl_neqRunX ?_ Try.underlying69 Try.underlying24 (by kernel_rfl) pgd69 PZn; exact ⟨_, _, _, rfl, rfl, rfl⟩) | (refine pl_eqlRunX ?_ Try.underlying69 Try.underlying24 (by kernel_rfl) pgd69 PZe; exact ⟨_, _, _, rfl, rfl, rfl⟩) | (go_simp; with_reducible rfl)
                          rotate_left
                          · simp only [Act.put, List.setIfInBounds_toArray, List.set_cons_zero, List.set_cons_succ, i64_w, i32_w]
                            rfl
                          refine take_ (i := 3) (N := some 57) (v := ?_) (a' := ?_) #[true, true, true, true, true, false, true, false, false, true, true, true, true, false, false, false] rfl rfl (take_ofW HT_.out HW_.out (by kernel_rfl)) (fun _ _ _ h => h) (Or.inl ⟨by rfl, ?_⟩) hHeld ?_ ?_
                          rotate_left
                          · rintro w' ⟨s0, s1, s2, s3, s4, s5⟩
                            first | (refine pl_loadRunX ?_ s4 Try.underlying69 (info_pl pinfo69); exact ⟨_, rfl, rfl⟩) | (refine pl_loadRunX ?_ s5 Try.underlying69 (info_pl pinfo69); exact ⟨_, rfl, rfl⟩) | (go_simp; with_reducible rfl)
                          rotate_left
                          · simp only [Act.put, List.setIfInBounds_toArray, List.set_cons_zero, List.set_cons_succ, i64_w, i32_w]
                            rfl
                          refine take_ (i := 5) (N := some 59) (v := ?_) (a' := ?_) #[true, true, true, true, true, true, true, false, false, true, true, true, true, false, false, false] rfl rfl (take_ofW HT_.out HW_.out (by kernel_rfl)) (fun _ _ _ h => h) (Or.inl ⟨by rfl, ?_⟩) hHeld ?_ ?_
                          rotate_left
                          · rintro w' ⟨s0, s1, s2, s3, s4, s5⟩
                            first | (refine pl_loadRunX ?_ s4 Try.underlying69 (info_pl pinfo69); exact ⟨_, rfl, rfl⟩) | (refine pl_loadRunX ?_ s5 Try.underlying69 (info_pl pinfo69); exact ⟨_, rfl, rfl⟩) | (go_simp; with_reducible rfl)
                          rotate_left
                          · simp only [Act.put, List.setIfInBounds_toArray, List.set_cons_zero, List.set_cons_succ, i64_w, i32_w]
                            rfl
                          refine take_ (i := 13) (N := some 67) (v := ?_) (a' := ?_) #[true, true, true, true, true, true, true, false, false, true, true, true, true, true, false, false] rfl rfl (take_ofW HT_.out HW_.out (by kernel_rfl)) (fun _ _ _ h => h) (Or.inl ⟨by rfl, ?_⟩) hHeld ?_ ?_
                          rotate_left
                          · rintro w' ⟨s0, s1, s2, s3, s4, s5⟩
                            first | (refine pl_loadRunX ?_ s4 Try.underlying69 (info_pl pinfo69); exact ⟨_, rfl, rfl⟩) | (refine pl_loadRunX ?_ s5 Try.underlying69 (info_pl pinfo69); exact ⟨_, rfl, rfl⟩) | (go_simp; with_reducible rfl)
                          rotate_left
                          · simp only [Act.put, List.setIfInBounds_toArray, List.set_cons_zero, List.set_cons_succ, i64_w, i32_w]
                            rfl
                          refine one_ (i := 7) (N := some 61) #[true, true, true, true, true, true, true, true, false, true, true, true, true, true, false, false] rfl rfl (one_of HT_.out (by kernel_rfl)) (by decide) (fun K hK => ?_)
                          refine goes_ Try.func41 (by kernel_rfl) rfl #[.agg #[.slice A0 l0.length c0, .int .i64 a1, .int .i64 (wrap64 ((l4.length : Int) - 3)), .int .i64 a2], .int .i64 x51_2] (by rfl) rfl rfl (by (try simp only [List.map_toArray, List.map_cons, List.map_nil]); first | done | rfl | (simp only [List.length_drop, List.length_take]; rfl)) ?_
                          with_reducible refine (impl_stretch_allowed.calls _ _ l0 a1 (wrap64 ((l4.length : Int) - 3)) a2 x51_2 t212 _ ?side1 ?side2 A38.out).mono ?_
                          (case side1 => repeat (first | exact (Kd.C_below HR0.out HB.out) | (with_reducible refine Kd.C_alloc ?_ _) | (with_reducible refine Kd.C_drewN ?_ _) | (with_reducible refine Kd.C_drew ?_)))
                          (case side2 => exact HC0.out)
                          rintro e w50 ⟨rfl, hb⟩
                          refine ⟨_, rfl, ?_⟩
                          have n0_ := Aside0.mk (blk_below (g := gb203) (o := .cells #[.slice A0 l0.length c0, .int .i64 a1, .int .i64 (wrap64 ((l4.length : Int) - 3)), .int .i64 a2] 75 (0, 0)) (by (with_reducible repeat (first | refine blk_drewN ?_ _ | refine blk_drew ?_ | refine blk_alloc ?_ _)); exact BK203.out) hb)
                          have n1_ := Aside0.mk (below_step (by repeat (first | (with_reducible first | exact HB.out | apply below_alloc | apply pw_below_drewN | apply below_drew1 | refine below_set ?_ GE203.out) | exact HB.out)) hb)
                          clear BK203
                          clear HB
                          have BK203 := n0_
                          have HB := n1_
                          clear n0_ n1_
                          (try clear hb)
                          (try clear hb2)
                          (try clear hk)
                          (try clear hi)
                          refine hK.out _ _ ⟨(blk_cell BK203.out 0).trans rfl, (blk_cell BK203.out 1).trans rfl, (blk_cell BK203.out 2).trans rfl, (blk_cell BK203.out 3).trans rfl, (by first | exact (plAt.below (w := w) HB.out hw211_0 hw211_0.lt) | exact (plAt.below (w := w) HB.out hv211_0 hv211_0.lt) | exact hx211_0), (by first | exact (plAt.below (w := w) HB.out hw214_0 hw214_0.lt) | exact (plAt.below (w := w) HB.out hv214_0 hv214_0.lt) | exact hx214_0)⟩ (fun hHeld => ?_)
                          clear hK K
                          refine norm_ (a' := ?_) ?_ ?_
                          rotate_left
                          · show Act.put _ (some 61) _ = _
                            simp only [Act.put, List.setIfInBounds_toArray, List.set_cons_zero, List.set_cons_succ, i64_w, i32_w]
                            rfl
                          refine one_ (i := 8) (N := some 62) #[true, true, true, true, true, true, true, true, true, true, true, true, true, true, false, false] rfl rfl (one_of HT_.out (by kernel_rfl)) (by decide) (fun K hK => ?_)
                          refine goes_ Try.func40 (by kernel_rfl) rfl #[.agg (plA ((rd_T69 l4 x51_2).f0)), .int .i64 a3, .int .u64 t212] (by rfl) rfl rfl (by (try simp only [List.map_toArray, List.map_cons, List.map_nil]); first | done | rfl | (simp only [List.length_drop, List.length_take]; rfl)) ?_
                          with_reducible refine (impl_led.calls k2 ((rd_T69 l4 x51_2).f0) a3 t212 t213 _ A39.out).mono ?_
                          rintro e w51 ⟨rfl, hb⟩
                          refine ⟨_, rfl, ?_⟩
                          have n0_ := Aside0.mk (blk_below (g := gb203) (o := .cells #[.slice A0 l0.length c0, .int .i64 a1, .int .i64 (wrap64 ((l4.length : Int) - 3)), .int .i64 a2] 75 (0, 0)) (by (with_reducible repeat (first | refine blk_drewN ?_ _ | refine blk_drew ?_ | refine blk_alloc ?_ _)); exact BK203.out) hb)
                          have n1_ := Aside0.mk (below_step (by repeat (first | (with_reducible first | exact HB.out | apply below_alloc | apply pw_below_drewN | apply below_drew1 | refine below_set ?_ GE203.out) | exact HB.out)) hb)
                          clear BK203
                          clear HB
                          have BK203 := n0_
                          have HB := n1_
                          clear n0_ n1_
                          (try clear hb)
                          (try clear hb2)
                          (try clear hk)
                          (try clear hi)
                          refine hK.out _ _ ⟨(blk_cell BK203.out 0).trans rfl, (blk_cell BK203.out 1).trans rfl, (blk_cell BK203.out 2).trans rfl, (blk_cell BK203.out 3).trans rfl, (by first | exact (plAt.below (w := w) HB.out hw211_0 hw211_0.lt) | exact (plAt.below (w := w) HB.out hv211_0 hv211_0.lt) | exact hx211_0), (by first | exact (plAt.below (w := w) HB.out hw214_0 hw214_0.lt) | exact (plAt.below (w := w) HB.out hv214_0 hv214_0.lt) | exact hx214_0)⟩ (fun hHeld => ?_)
                          clear hK K
                          refine norm_ (a' := ?_) ?_ ?_
                          rotate_left
                          · show Act.put _ (some 62) _ = _
                            simp only [Act.put, List.setIfInBounds_toArray, List.set_cons_zero, List.set_cons_succ, i64_w, i32_w]
                            rfl
                          refine one_ (i := 14) (N := some 68) #[true, true, true, true, true, true, true, true, true, true, true, true, true, true, true, false] rfl rfl (one_of HT_.out (by kernel_rfl)) (by decide) (fun K hK => ?_)
                          refine goes_ Try.func37 (by kernel_rfl) rfl #[.agg (plA t213), .agg (plA ((rd_T69 l4 (ji40)).f0))] (by rfl) rfl rfl (by (try simp only [List.map_toArray, List.map_cons, List.map_nil]); first | done | (simp only [hji40]; rfl) | rfl | (simp only [List.length_drop, List.length_take]; rfl)) ?_
                          with_reducible refine (impl_isWithin.calls k2 t213 ((rd_T69 l4 (ji40)).f0) false _ A43.out).mono ?_
                          rintro e w52 ⟨rfl, hb⟩
                          refine ⟨_, rfl, ?_⟩
                          have n0_ := Aside0.mk (blk_below (g := gb203) (o := .cells #[.slice A0 l0.length c0, .int .i64 a1, .int .i64 (wrap64 ((l4.length : Int) - 3)), .int .i64 a2] 75 (0, 0)) (by (with_reducible repeat (first | refine blk_drewN ?_ _ | refine blk_drew ?_ | refine blk_alloc ?_ _)); exact BK203.out) hb)
                          have n1_ := Aside0.mk (below_step (by repeat (first | (with_reducible first | exact HB.out | apply below_alloc | apply pw_below_drewN | apply below_drew1 | refine below_set ?_ GE203.out) | exact HB.out)) hb)
                          clear BK203
                          clear HB
                          have BK203 := n0_
                          have HB := n1_
                          clear n0_ n1_
                          (try clear hb)
                          (try clear hb2)
                          (try clear hk)
                          (try clear hi)
                          refine hK.out _ _ ⟨(blk_cell BK203.out 0).trans rfl, (blk_cell BK203.out 1).trans rfl, (blk_cell BK203.out 2).trans rfl, (blk_cell BK203.out 3).trans rfl, (by first | exact (plAt.below (w := w) HB.out hw211_0 hw211_0.lt) | exact (plAt.below (w := w) HB.out hv211_0 hv211_0.lt) | exact hx211_0), (by first | exact (plAt.below (w := w) HB.out hw214_0 hw214_0.lt) | exact (plAt.below (w := w) HB.out hv214_0 hv214_0.lt) | exact hx214_0)⟩ (fun hHeld => ?_)
                          clear hK K
                          refine norm_ (a' := ?_) ?_ ?_
                          rotate_left
                          · show Act.put _ (some 68) _ = _
                            simp only [Act.put, List.setIfInBounds_toArray, List.set_cons_zero, List.set_cons_succ, i64_w, i32_w]
                            rfl
                          refine pure_ (i := 15) (N := some 69) (v := ?_) (a' := ?_) #[true, true, true, true, true, true, true, true, true, true, true, true, true, true, true, true] rfl rfl (any_of HT_.out (by kernel_rfl)) (fun _ _ _ h => h) (Or.inl ⟨by rfl, ?_⟩) ?_ ?_
                          rotate_left
                          · intro w'
                            first | (refine pl_zeroRun ?_ pbuilt69; rfl) | (refine pl_neqRunX ?_ Try.underlying69 Try.underlying24 (by kernel_rfl) pgd69 PZn; exact ⟨_, _, _, rfl, rfl, rfl⟩) | (refine pl_eqlRunX ?_ Try.underlying69 Try.underlying24 (by kernel_rfl) pgd69 PZe; exact ⟨_, _, _, rfl, rfl, rfl⟩) | (go_simp; with_reducible rfl)
                          rotate_left
                          · simp only [Act.put, List.setIfInBounds_toArray, List.set_cons_zero, List.set_cons_succ, i64_w, i32_w]
                            rfl
                          refine done_ (done_of HT_.out (by kernel_rfl)) ?_
                          try go_wp2
                          go_ret2
                          exact ⟨by first | rfl | (simp [errW_none, errW_some] <;> rfl) | (simp only [← hji40]; first | rfl | (simp [errW_none, errW_some] <;> rfl)) | (simp [*, errW_none, errW_some] <;> rfl), by repeat (first | (with_reducible first | exact HB.out | apply below_alloc | apply pw_below_drewN | apply below_drew1 | refine below_set ?_ GE203.out) | exact HB.out)⟩
                      · rw [if_neg c42] at H
                        exact absurd H (by simp)
                    · rw [if_neg c41] at H
                      exact absurd H (by simp)
                  · rw [if_neg c37] at H
                    exact absurd H (by simp)
                · rw [if_neg c36] at H
                  exact absurd H (by simp)
              · rw [if_neg c35] at H
                have c35b0 : decide (x51_2 < (wrap64 ((wrap64 ((l4.length : Int) - 3)) + 2))) = false := decide_eq_false c35
                clear c35
                simp only [Option.some.injEq, Prod.mk.injEq] at H
                obtain ⟨rfl, rfl⟩ := H
                go_wp2
                go_ret2
                exact ⟨by first | rfl | (simp [errW_none, errW_some] <;> rfl) | (simp [*, errW_none, errW_some] <;> rfl), by repeat (first | (with_reducible first | exact HB.out | apply below_alloc | apply pw_below_drewN | apply below_drew1 | refine below_set ?_ GE203.out) | exact HB.out)⟩
  · rw [if_neg c7] at H
    have c7b0 : (t204 == 0) = false := beq_eq_false_iff_ne.mpr c7
    have c7b1 : (t204 != 0) = true := bne_iff_ne.mpr c7
    simp only [Option.some.injEq, Prod.mk.injEq] at H
    obtain ⟨rfl, rfl⟩ := H
    go_enter Try.func16, Try.ntmps16
    go_wp2_with (first | ((with_reducible refine gate_dst (N := 12) rfl ?_); (try (refine gate_guard (by rfl) ?_; dsimp only)); refine box_event ?hg (N := 12) ?hd (cs := #[.slice none 0 0, .int .i64 0, .int .i64 0, .int .i64 0]) (t := 75) ?hr ?_; (case hd => rfl); (case hg => rfl); (case hr => first | (go_simp; done) | (go_simp; rfl)); intro gb203 hg w53 hbox hb; have n0_ := Aside0.mk (below_step (by repeat (first | (with_reducible first | exact HB.out | apply below_alloc | apply pw_below_drewN | apply below_drew1) | exact HB.out)) hb); have n1_ := Aside0.mk (hbox); have n2_ := Aside0.mk ((by rw [hg]; exact (below_size (by repeat (first | (with_reducible first | exact HB.out | apply below_alloc | apply pw_below_drewN | apply below_drew1) | exact HB.out))) : w.heap.size ≤ gb203)); have n3_ := Aside0.mk ((by rw [hg]; exact (below_size (by repeat (first | (with_reducible first | exact HB.out | apply below_alloc | apply pw_below_drewN | apply below_drew1) | exact HB.out))) : w.heap.size ≤ gb203)); clear HB; have HB := n0_; have BK203 := n1_; have GW203 := n2_; have GE203 := n3_; clear n0_ n1_ n2_ n3_; clear hb hbox hg; have hcz54_0 : w53.cell? ⟨gb203, 0, none⟩ = some (.slice none 0 0) := (blk_cell BK203.out 0).trans rfl; have hcz54_1 : w53.cell? ⟨gb203, 1, none⟩ = some (.int .i64 0) := (blk_cell BK203.out 1).trans rfl; have hcz54_2 : w53.cell? ⟨gb203, 2, none⟩ = some (.int .i64 0) := (blk_cell BK203.out 2).trans rfl; have hcz54_3 : w53.cell? ⟨gb203, 3, none⟩ = some (.int .i64 0) := (blk_cell BK203.out 3).trans rfl; have hfz54_0 := blk_frozen BK203.out 0; have hfz54_1 := blk_frozen BK203.out 1; have hfz54_2 := blk_frozen BK203.out 2; have hfz54_3 := blk_frozen BK203.out 3) | ((with_reducible refine gate_callee (f := 36) rfl ?_); refine goesL_ (some 24) rfl rfl Try.func36 (by kernel_rfl) rfl #[.agg #[.slice A0 l0.length c0, .int .i64 a1, .int .i64 (wrap64 ((l4.length : Int) - 3)), .int .i64 a2], .int .i64 a3] rfl (by (try simp only [List.map_toArray, List.map_cons, List.map_nil]); first | done | rfl | (simp only [List.length_drop, List.length_take]; rfl)) ?_; (with_reducible refine (impl_stretch_code.calls k _ _ l0 a1 (wrap64 ((l4.length : Int) - 3)) a2 a3 t204 _ ?side1 ?side2 A6.out).mono ?_); (case side1 => exact Kd.C_below HR0.out (by repeat (first | (with_reducible first | exact HB.out | apply below_alloc | apply pw_below_drewN | apply below_drew1 | refine below_set ?_ GE203.out) | exact HB.out))); (case side2 => exact HC0.out); rintro e w55 ⟨rfl, hb⟩; refine ⟨_, rfl, ?_⟩; have n0_ := Aside0.mk (blk_below (g := gb203) (o := .cells #[.slice A0 l0.length c0, .int .i64 a1, .int .i64 (wrap64 ((l4.length : Int) - 3)), .int .i64 a2] 75 (0, 0)) (by (with_reducible repeat (first | refine blk_drewN ?_ _ | refine blk_drew ?_ | refine blk_alloc ?_ _)); refine blk_put (cs := #[.slice A0 l0.length c0, .int .i64 a1, .int .i64 (wrap64 ((l4.length : Int) - 3)), .int .i64 0]) ?_ 3 _ rfl; (with_reducible repeat (first | refine blk_drewN ?_ _ | refine blk_drew ?_ | refine blk_alloc ?_ _)); refine blk_put (cs := #[.slice A0 l0.length c0, .int .i64 a1, .int .i64 0, .int .i64 0]) ?_ 2 _ rfl; (with_reducible repeat (first | refine blk_drewN ?_ _ | refine blk_drew ?_ | refine blk_alloc ?_ _)); refine blk_put (cs := #[.slice A0 l0.length c0, .int .i64 0, .int .i64 0, .int .i64 0]) ?_ 1 _ rfl; (with_reducible repeat (first | refine blk_drewN ?_ _ | refine blk_drew ?_ | refine blk_alloc ?_ _)); refine blk_put (cs := #[.slice none 0 0, .int .i64 0, .int .i64 0, .int .i64 0]) ?_ 0 _ rfl; (with_reducible repeat (first | refine blk_drewN ?_ _ | refine blk_drew ?_ | refine blk_alloc ?_ _)); exact BK203.out) hb); have n1_ := Aside0.mk (below_step (by repeat (first | (with_reducible first | exact HB.out | apply below_alloc | apply pw_below_drewN | apply below_drew1 | refine below_set ?_ GE203.out) | exact HB.out)) hb); clear BK203; clear HB; have BK203 := n0_; have HB := n1_; clear n0_ n1_; (try clear hb); (try clear hb2); (try clear hk); (try clear hi)))
    go_ret2
    exact ⟨by first | rfl | (simp [errW_none, errW_some] <;> rfl) | (simp [*, errW_none, errW_some] <;> rfl), by repeat (first | (with_reducible first | exact HB.out | apply below_alloc | apply pw_below_drewN | apply below_drew1 | refine below_set ?_ GE203.out) | exact HB.out)⟩

end Go.Proofs.Ytkgeppbjfkhjcaa.XFnExactCheckReach
