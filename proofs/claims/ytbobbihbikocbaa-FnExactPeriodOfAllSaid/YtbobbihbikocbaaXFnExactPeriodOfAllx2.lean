/- Printed by this repository's own program (wip/tools/xprint.py) for the law FnExactPeriodOfAll: Lean functions that say what the Go functions compute, and the proofs that the machine comes to just that; no condition beyond those in each statement. -/
import Derived.Test.YtbobbihbikocbaaXFnExactPeriodOfAllx0
import Derived.Test.YtbobbihbikocbaaXFnExactPeriodOfAllx1
namespace Go.Proofs.Ytbobbihbikocbaa.XFnExactPeriodOfAll
open Go.RowKit Go.Proofs.YtbobbihbikocbaaW.PrintWords Go.Proofs.YtbobbihbikocbaaW.PrintLast Go.Proofs.YtbobbihbikocbaaW.PrintMore
attribute [local go_sem] max2_int min2_int max_two min_two max_three min_three max_four min_four   -- for this text's walks alone
set_option linter.unusedVariables false
set_option linter.unusedSimpArgs false

/-! ### spec_l04Ok: function 171 -/
def spec_l04Ok.l0 : Nat → List (S152) → Int → Option (Bool)
  | 0, _, _ => none
  | k + 1, x0, x3 => if x3 < (x0.length : Int) then (if 0 ≤ x3 then ((spec_l00In.f (wrap64 ((rd_T152 x0 x3).f0)) 1 60).bind fun t113 => (if t113 = true then ((spec_l00In.f (wrap64 ((rd_T152 x0 x3).f1)) 1 60).bind fun t115 => (if t115 = true then ((spec_l01Ok.f k ((rd_T152 x0 x3).f3)).bind fun t117 => (if t117 = true then ((spec_l00In.f (wrap64 ((rd_T152 x0 x3).f2)) 0 (wrap64 ((((rd_T152 x0 x3).f3).length : Int) - 1))).bind fun t120 => (if t120 = true then (spec_l04Ok.l0 k x0 (wrap64 (x3 + 1))) else (some false))) else (some false))) else (some false))) else (some false))) else (none)) else (some true)
def spec_l04Ok.f (k : Nat) (l0 : List (S152)) : Option (Bool) := (spec_l00In.f (l0.length : Int) 1 6).bind fun t110 => (if t110 = true then (spec_l04Ok.l0 k l0 0) else (some false))
theorem spec_l04Ok.mono_l : ∀ k, (∀ y0 y1, LeO (spec_l04Ok.l0 k y0 y1) (spec_l04Ok.l0 (k + 1) y0 y1))
  | 0 => fun _ _ r h => by simp [spec_l04Ok.l0] at h
  | k + 1 => by
    have ih0 := spec_l04Ok.mono_l k
    · intro y0 y1
      unfold spec_l04Ok.l0
      repeat' first
      | (with_reducible exact ih0 _ _)
      | (with_reducible exact spec_l01Ok.mono _ _)
      | (with_reducible exact LeO.refl _)
      | (with_reducible exact LeO.none _)
      | (with_reducible refine LeO.ite ?_ ?_)
      | (with_reducible refine LeO.bind ?_ (fun _ => ?_))
      | exact ih0 _ _
      | exact spec_l01Ok.mono _ _
      | exact LeO.none _
      | refine LeO.ite ?_ ?_
      | refine LeO.bind ?_ (fun _ => ?_)
theorem spec_l04Ok.mono : ∀ a0 k, LeO (spec_l04Ok.f k a0) (spec_l04Ok.f (k + 1) a0) := by
  intro a0 k
  have ih0 := spec_l04Ok.mono_l k
  unfold spec_l04Ok.f
  repeat' first
      | (with_reducible exact ih0 _ _)
      | (with_reducible exact spec_l01Ok.mono _ _)
      | (with_reducible exact LeO.refl _)
      | (with_reducible exact LeO.none _)
      | (with_reducible refine LeO.ite ?_ ?_)
      | (with_reducible refine LeO.bind ?_ (fun _ => ?_))
      | exact ih0 _ _
      | exact spec_l01Ok.mono _ _
      | exact LeO.none _
      | refine LeO.ite ?_ ?_
      | refine LeO.bind ?_ (fun _ => ?_)
def spec_l04Ok.T7 : Bool × List (List Nat × List Nat) := (true, [([], []), ([0], [0]), ([1], [1]), ([2], [2]), ([3], [3]), ([4], [4]), ([5], [5]), ([6, 5], [6]), ([7], [7]), ([8, 7], [7, 8]), ([9, 7], [7, 9]), ([10, 7], [7, 10]), ([11, 7], [7, 11]), ([12, 7, 7], [7, 12]), ([13, 7], [7, 13]), ([7, 14], [7, 14]), ([15, 13], [15]), ([16], [16]), ([17, 16], [16, 17]), ([18, 16], [16, 18]), ([19, 16], [16, 19]), ([20, 16, 16], [16, 20]), ([21, 16], [16, 21]), ([16, 22], [16, 22]), ([23, 21], [23]), ([24], [24]), ([25, 24], [24, 25]), ([26, 24], [24, 26]), ([27, 24], [24, 27]), ([28, 24], [24, 28]), ([24], [24]), ([30, 24], [24, 30]), ([31, 24], [24, 31]), ([32, 24], [24, 32]), ([33, 24], [24, 33]), ([34, 24], [24, 34]), ([29, 35, 24, 24], [24, 29, 35]), ([36, 24], [24, 36]), ([24, 37], [24, 37])])
def spec_l04Ok.B7 : List Nat := [0, 1, 3, 7, 15, 31, 63, 127, 255, 511, 1023, 2047, 4095, 8191, 16383, 32767, 65535, 131071, 262143, 524287, 1048575, 2097151, 4194303, 8388607, 16777215, 33554431, 67108863, 134217727, 268435455, 536870911, 33554431, 1107296255, 3254779903, 7549747199, 16139681791, 33319550975, 68719476735, 137438953471, 274877906943]
theorem spec_l04Ok.tab7 : rtab .any (opsOf Try.f171 7) = spec_l04Ok.T7 := by kernel_rfl
theorem spec_l04Ok.bits7 : waitsOk spec_l04Ok.T7.2 spec_l04Ok.B7 = true := by kernel_rfl
set_option maxHeartbeats 8000000 in
set_option maxRecDepth 100000 in
theorem spec_l04Ok.calls (k : Nat) (A0 : Option Addr) (c0 : Nat) (l0 : List (S152)) (r : Bool) (w : World) (hr0 : Kd.C k152 w A0 l0.length l0) (hc0 : l0.length ≤ c0) (h : spec_l04Ok.f k l0 = some r) :
    Calls Try.prog 171 #[.slice A0 l0.length c0] w fun e w' => e = .returned (.bool r) ∧ Below w.heap.size w w' := by
  have HR0 := Aside0.mk hr0
  have HC0 := Aside0.mk hc0
  clear hr0 hc0
  have HB := Aside0.mk (Below.refl w.heap.size w)
  have H : ((spec_l00In.f (l0.length : Int) 1 6).bind fun t110 => (if t110 = true then (spec_l04Ok.l0 k l0 0) else (some false))) = some r := h
  clear h
  replace H := Option.bind_eq_some_iff.mp H
  obtain ⟨t110, A20, H⟩ := H
  replace H : (if t110 = true then (spec_l04Ok.l0 k l0 0) else (some false)) = some r := H
  have A2 := Aside0.mk A20
  clear A20
  by_cases c3 : t110 = true
  · subst c3
    have H1 : (spec_l04Ok.l0 k l0 0) = some r := by rw [if_pos rfl] at H; exact H
    clear H
    have H := H1
    clear H1
    have H' := Aside0.mk H
    clear H
    go_enter Try.func171, Try.ntmps171
    go_wp2_with (first | ((with_reducible refine gate_callee (f := 99) rfl ?_); refine goesL_ (some 7) rfl rfl Try.func99 (by kernel_rfl) rfl #[.int .i64 (l0.length : Int), .int .i64 1, .int .i64 6] rfl (by (try simp only [List.map_toArray, List.map_cons, List.map_nil]); first | done | rfl | (simp only [List.length_drop, List.length_take]; rfl)) ?_; (with_reducible refine (spec_l00In.calls (l0.length : Int) 1 6 true _ A2.out).mono ?_); rintro e w' ⟨rfl, ⟨nd, rfl⟩⟩; refine ⟨_, rfl, ?_⟩))
    go_loopg [3] k (fun kq v3 w' => ∃ (x3_1 : Int), v3 = .int .i64 x3_1 ∧ Aside0 (spec_l04Ok.l0 kq l0 x3_1 = some r) ∧ Aside0 (kq ≤ k) ∧ Aside0 (Below w.heap.size w w'))
    case atStart => exact ⟨(0), (by first | rfl | (simp; done) | (simp [*]; done)), H', ⟨Nat.le_refl _⟩, ⟨by repeat (first | (with_reducible first | exact HB.out | apply below_alloc | apply pw_below_drewN | apply below_drew1) | exact HB.out)⟩⟩
    case round =>
      clear H'
      try clear c1
      try clear p2
      try clear c3
      obtain ⟨x3_1, rfl, HA, HK1, HB⟩ := hrel
      cases gk with
      | zero => exact absurd HA.out (by simp [spec_l04Ok.l0])
      | succ k1 =>
        have H := HA.out
        clear HA
        simp only [spec_l04Ok.l0] at H
        by_cases c4 : x3_1 < (l0.length : Int)
        · rw [if_pos c4] at H
          have c4b0 : decide (x3_1 < (l0.length : Int)) = true := decide_eq_true c4
          clear c4
          by_cases c5 : 0 ≤ x3_1
          · rw [if_pos c5] at H
            have c5b0 : decide (0 ≤ x3_1) = true := decide_eq_true c5
            clear c5
            replace H := Option.bind_eq_some_iff.mp H
            obtain ⟨t113, A60, H⟩ := H
            replace H : (if t113 = true then ((spec_l00In.f (wrap64 ((rd_T152 l0 x3_1).f1)) 1 60).bind fun t115 => (if t115 = true then ((spec_l01Ok.f k1 ((rd_T152 l0 x3_1).f3)).bind fun t117 => (if t117 = true then ((spec_l00In.f (wrap64 ((rd_T152 l0 x3_1).f2)) 0 (wrap64 ((((rd_T152 l0 x3_1).f3).length : Int) - 1))).bind fun t120 => (if t120 = true then (spec_l04Ok.l0 k1 l0 (wrap64 (x3_1 + 1))) else (some false))) else (some false))) else (some false))) else (some false)) = some r := H
            have A6 := Aside0.mk A60
            clear A60
            by_cases c7 : t113 = true
            · subst c7
              have H1 : ((spec_l00In.f (wrap64 ((rd_T152 l0 x3_1).f1)) 1 60).bind fun t115 => (if t115 = true then ((spec_l01Ok.f k1 ((rd_T152 l0 x3_1).f3)).bind fun t117 => (if t117 = true then ((spec_l00In.f (wrap64 ((rd_T152 l0 x3_1).f2)) 0 (wrap64 ((((rd_T152 l0 x3_1).f3).length : Int) - 1))).bind fun t120 => (if t120 = true then (spec_l04Ok.l0 k1 l0 (wrap64 (x3_1 + 1))) else (some false))) else (some false))) else (some false))) = some r := by rw [if_pos rfl] at H; exact H
              clear H
              have H := H1
              clear H1
              replace H := Option.bind_eq_some_iff.mp H
              obtain ⟨t115, A80, H⟩ := H
              replace H : (if t115 = true then ((spec_l01Ok.f k1 ((rd_T152 l0 x3_1).f3)).bind fun t117 => (if t117 = true then ((spec_l00In.f (wrap64 ((rd_T152 l0 x3_1).f2)) 0 (wrap64 ((((rd_T152 l0 x3_1).f3).length : Int) - 1))).bind fun t120 => (if t120 = true then (spec_l04Ok.l0 k1 l0 (wrap64 (x3_1 + 1))) else (some false))) else (some false))) else (some false)) = some r := H
              have A8 := Aside0.mk A80
              clear A80
              by_cases c9 : t115 = true
              · subst c9
                have H1 : ((spec_l01Ok.f k1 ((rd_T152 l0 x3_1).f3)).bind fun t117 => (if t117 = true then ((spec_l00In.f (wrap64 ((rd_T152 l0 x3_1).f2)) 0 (wrap64 ((((rd_T152 l0 x3_1).f3).length : Int) - 1))).bind fun t120 => (if t120 = true then (spec_l04Ok.l0 k1 l0 (wrap64 (x3_1 + 1))) else (some false))) else (some false))) = some r := by rw [if_pos rfl] at H; exact H
                clear H
                have H := H1
                clear H1
                replace H := Option.bind_eq_some_iff.mp H
                obtain ⟨t117, A100, H⟩ := H
                replace H : (if t117 = true then ((spec_l00In.f (wrap64 ((rd_T152 l0 x3_1).f2)) 0 (wrap64 ((((rd_T152 l0 x3_1).f3).length : Int) - 1))).bind fun t120 => (if t120 = true then (spec_l04Ok.l0 k1 l0 (wrap64 (x3_1 + 1))) else (some false))) else (some false)) = some r := H
                have A10 := Aside0.mk A100
                clear A100
                by_cases c11 : t117 = true
                · subst c11
                  have H1 : ((spec_l00In.f (wrap64 ((rd_T152 l0 x3_1).f2)) 0 (wrap64 ((((rd_T152 l0 x3_1).f3).length : Int) - 1))).bind fun t120 => (if t120 = true then (spec_l04Ok.l0 k1 l0 (wrap64 (x3_1 + 1))) else (some false))) = some r := by rw [if_pos rfl] at H; exact H
                  clear H
                  have H := H1
                  clear H1
                  replace H := Option.bind_eq_some_iff.mp H
                  obtain ⟨t120, A120, H⟩ := H
                  replace H : (if t120 = true then (spec_l04Ok.l0 k1 l0 (wrap64 (x3_1 + 1))) else (some false)) = some r := H
                  have A12 := Aside0.mk A120
                  clear A120
                  by_cases c13 : t120 = true
                  · subst c13
                    have H1 : (spec_l04Ok.l0 k1 l0 (wrap64 (x3_1 + 1))) = some r := by rw [if_pos rfl] at H; exact H
                    clear H
                    have H := H1
                    clear H1
                    have H' := Aside0.mk H
                    clear H
                    have p111 : 0 ≤ (x3_1 : Int) := of_decide_eq_true (by first | (with_reducible assumption) | assumption)
                    have q111 : x3_1 < (l0.length : Int) := of_decide_eq_true (by first | (with_reducible assumption) | assumption)
                    obtain ⟨ad111, A111_3, c111_3, e111, hx111_0, hx111_1, hx111_2, hx111_3, hl111_3, hi111_3⟩ := at_T152 HR0.out x3_1 p111 q111
                    cases e111
                    replace hx111_0 := (HB.out.cell (World.block_lt_of_cell? w _ hx111_0)).trans hx111_0
                    replace hx111_1 := (HB.out.cell (World.block_lt_of_cell? w _ hx111_1)).trans hx111_1
                    replace hx111_2 := (HB.out.cell (World.block_lt_of_cell? w _ hx111_2)).trans hx111_2
                    replace hx111_3 := (HB.out.cell (World.block_lt_of_cell? w _ hx111_3)).trans hx111_3
                    have HR111_3 := Aside0.mk hi111_3
                    have HC111_3 := Aside0.mk hl111_3
                    clear hi111_3 hl111_3
                    replace p111 := eq_true p111
                    replace q111 := eq_true q111
                    try go_wp2
                    have n0_ := Aside0.mk (below_drew1 HB.out)
                    clear HB
                    have HB := n0_
                    clear n0_
                    have p112 : 0 ≤ (x3_1 : Int) := of_decide_eq_true (by first | (with_reducible assumption) | assumption)
                    have q112 : x3_1 < (l0.length : Int) := of_decide_eq_true (by first | (with_reducible assumption) | assumption)
                    obtain ⟨ad112, A112_3, c112_3, e112, hx112_0, hx112_1, hx112_2, hx112_3, hl112_3, hi112_3⟩ := at_T152 HR0.out x3_1 p112 q112
                    have hw112_3 := hx112_3
                    have hw112_2 := hx112_2
                    have hw112_1 := hx112_1
                    have hw112_0 := hx112_0
                    obtain rfl : ad111 = ad112 := (by injection e112)
                    replace hx112_0 := (HB.out.cell (World.block_lt_of_cell? w _ hx112_0)).trans hx112_0
                    replace hx112_1 := (HB.out.cell (World.block_lt_of_cell? w _ hx112_1)).trans hx112_1
                    replace hx112_2 := (HB.out.cell (World.block_lt_of_cell? w _ hx112_2)).trans hx112_2
                    replace hx112_3 := (HB.out.cell (World.block_lt_of_cell? w _ hx112_3)).trans hx112_3
                    have HR112_3 := Aside0.mk hi112_3
                    have HC112_3 := Aside0.mk hl112_3
                    clear hi112_3 hl112_3
                    replace p112 := eq_true p112
                    replace q112 := eq_true q112
                    have p114 : 0 ≤ (x3_1 : Int) := of_decide_eq_true (by first | (with_reducible assumption) | assumption)
                    have q114 : x3_1 < (l0.length : Int) := of_decide_eq_true (by first | (with_reducible assumption) | assumption)
                    obtain ⟨ad114, A114_3, c114_3, e114, hx114_0, hx114_1, hx114_2, hx114_3, hl114_3, hi114_3⟩ := at_T152 HR0.out x3_1 p114 q114
                    have hw114_3 := hx114_3
                    have hw114_2 := hx114_2
                    have hw114_1 := hx114_1
                    have hw114_0 := hx114_0
                    obtain rfl : ad111 = ad114 := (by injection e114)
                    replace hx114_0 := (HB.out.cell (World.block_lt_of_cell? w _ hx114_0)).trans hx114_0
                    replace hx114_1 := (HB.out.cell (World.block_lt_of_cell? w _ hx114_1)).trans hx114_1
                    replace hx114_2 := (HB.out.cell (World.block_lt_of_cell? w _ hx114_2)).trans hx114_2
                    replace hx114_3 := (HB.out.cell (World.block_lt_of_cell? w _ hx114_3)).trans hx114_3
                    have HR114_3 := Aside0.mk hi114_3
                    have HC114_3 := Aside0.mk hl114_3
                    clear hi114_3 hl114_3
                    replace p114 := eq_true p114
                    replace q114 := eq_true q114
                    have ea_ := Option.some.inj (hx112_3.symm.trans hx114_3)
                    injection ea_ with ea_ en_ ec_
                    subst ea_
                    subst ec_
                    clear en_
                    have p116 : 0 ≤ (x3_1 : Int) := of_decide_eq_true (by first | (with_reducible assumption) | assumption)
                    have q116 : x3_1 < (l0.length : Int) := of_decide_eq_true (by first | (with_reducible assumption) | assumption)
                    obtain ⟨ad116, A116_3, c116_3, e116, hx116_0, hx116_1, hx116_2, hx116_3, hl116_3, hi116_3⟩ := at_T152 HR0.out x3_1 p116 q116
                    have hw116_3 := hx116_3
                    have hw116_2 := hx116_2
                    have hw116_1 := hx116_1
                    have hw116_0 := hx116_0
                    obtain rfl : ad111 = ad116 := (by injection e116)
                    replace hx116_0 := (HB.out.cell (World.block_lt_of_cell? w _ hx116_0)).trans hx116_0
                    replace hx116_1 := (HB.out.cell (World.block_lt_of_cell? w _ hx116_1)).trans hx116_1
                    replace hx116_2 := (HB.out.cell (World.block_lt_of_cell? w _ hx116_2)).trans hx116_2
                    replace hx116_3 := (HB.out.cell (World.block_lt_of_cell? w _ hx116_3)).trans hx116_3
                    have HR116_3 := Aside0.mk hi116_3
                    have HC116_3 := Aside0.mk hl116_3
                    clear hi116_3 hl116_3
                    replace p116 := eq_true p116
                    replace q116 := eq_true q116
                    have ea_ := Option.some.inj (hx112_3.symm.trans hx116_3)
                    injection ea_ with ea_ en_ ec_
                    subst ea_
                    subst ec_
                    clear en_
                    have p118 : 0 ≤ (x3_1 : Int) := of_decide_eq_true (by first | (with_reducible assumption) | assumption)
                    have q118 : x3_1 < (l0.length : Int) := of_decide_eq_true (by first | (with_reducible assumption) | assumption)
                    obtain ⟨ad118, A118_3, c118_3, e118, hx118_0, hx118_1, hx118_2, hx118_3, hl118_3, hi118_3⟩ := at_T152 HR0.out x3_1 p118 q118
                    have hw118_3 := hx118_3
                    have hw118_2 := hx118_2
                    have hw118_1 := hx118_1
                    have hw118_0 := hx118_0
                    obtain rfl : ad111 = ad118 := (by injection e118)
                    replace hx118_0 := (HB.out.cell (World.block_lt_of_cell? w _ hx118_0)).trans hx118_0
                    replace hx118_1 := (HB.out.cell (World.block_lt_of_cell? w _ hx118_1)).trans hx118_1
                    replace hx118_2 := (HB.out.cell (World.block_lt_of_cell? w _ hx118_2)).trans hx118_2
                    replace hx118_3 := (HB.out.cell (World.block_lt_of_cell? w _ hx118_3)).trans hx118_3
                    have HR118_3 := Aside0.mk hi118_3
                    have HC118_3 := Aside0.mk hl118_3
                    clear hi118_3 hl118_3
                    replace p118 := eq_true p118
                    replace q118 := eq_true q118
                    have ea_ := Option.some.inj (hx112_3.symm.trans hx118_3)
                    injection ea_ with ea_ en_ ec_
                    subst ea_
                    subst ec_
                    clear en_
                    have p119 : 0 ≤ (x3_1 : Int) := of_decide_eq_true (by first | (with_reducible assumption) | assumption)
                    have q119 : x3_1 < (l0.length : Int) := of_decide_eq_true (by first | (with_reducible assumption) | assumption)
                    obtain ⟨ad119, A119_3, c119_3, e119, hx119_0, hx119_1, hx119_2, hx119_3, hl119_3, hi119_3⟩ := at_T152 HR0.out x3_1 p119 q119
                    have hw119_3 := hx119_3
                    have hw119_2 := hx119_2
                    have hw119_1 := hx119_1
                    have hw119_0 := hx119_0
                    obtain rfl : ad111 = ad119 := (by injection e119)
                    replace hx119_0 := (HB.out.cell (World.block_lt_of_cell? w _ hx119_0)).trans hx119_0
                    replace hx119_1 := (HB.out.cell (World.block_lt_of_cell? w _ hx119_1)).trans hx119_1
                    replace hx119_2 := (HB.out.cell (World.block_lt_of_cell? w _ hx119_2)).trans hx119_2
                    replace hx119_3 := (HB.out.cell (World.block_lt_of_cell? w _ hx119_3)).trans hx119_3
                    have HR119_3 := Aside0.mk hi119_3
                    have HC119_3 := Aside0.mk hl119_3
                    clear hi119_3 hl119_3
                    replace p119 := eq_true p119
                    replace q119 := eq_true q119
                    have ea_ := Option.some.inj (hx112_3.symm.trans hx119_3)
                    injection ea_ with ea_ en_ ec_
                    subst ea_
                    subst ec_
                    clear en_
                    refine start_ (n := 39) (S := fun w' => w'.cell? (ad111.add ((x3_1).toNat * 4)) = some (.int .i16 ((rd_T152 l0 x3_1).f0)) ∧ w'.cell? ⟨(ad111.add ((x3_1).toNat * 4)).block, (ad111.add ((x3_1).toNat * 4)).off + 1, none⟩ = some (.int .i16 ((rd_T152 l0 x3_1).f1)) ∧ w'.cell? ⟨(ad111.add ((x3_1).toNat * 4)).block, (ad111.add ((x3_1).toNat * 4)).off + 2, none⟩ = some (.int .i16 ((rd_T152 l0 x3_1).f2)) ∧ w'.cell? ⟨(ad111.add ((x3_1).toNat * 4)).block, (ad111.add ((x3_1).toNat * 4)).off + 3, none⟩ = some (.slice A112_3 ((rd_T152 l0 x3_1).f3).length c112_3) ∧ w'.cell? (ad111.add ((x3_1).toNat * 4)) = some (.int .i16 ((rd_T152 l0 x3_1).f0)) ∧ w'.cell? ⟨(ad111.add ((x3_1).toNat * 4)).block, (ad111.add ((x3_1).toNat * 4)).off + 1, none⟩ = some (.int .i16 ((rd_T152 l0 x3_1).f1)) ∧ w'.cell? ⟨(ad111.add ((x3_1).toNat * 4)).block, (ad111.add ((x3_1).toNat * 4)).off + 2, none⟩ = some (.int .i16 ((rd_T152 l0 x3_1).f2)) ∧ w'.cell? ⟨(ad111.add ((x3_1).toNat * 4)).block, (ad111.add ((x3_1).toNat * 4)).off + 3, none⟩ = some (.slice A112_3 ((rd_T152 l0 x3_1).f3).length c112_3) ∧ w'.cell? (ad111.add ((x3_1).toNat * 4)) = some (.int .i16 ((rd_T152 l0 x3_1).f0)) ∧ w'.cell? ⟨(ad111.add ((x3_1).toNat * 4)).block, (ad111.add ((x3_1).toNat * 4)).off + 1, none⟩ = some (.int .i16 ((rd_T152 l0 x3_1).f1)) ∧ w'.cell? ⟨(ad111.add ((x3_1).toNat * 4)).block, (ad111.add ((x3_1).toNat * 4)).off + 2, none⟩ = some (.int .i16 ((rd_T152 l0 x3_1).f2)) ∧ w'.cell? ⟨(ad111.add ((x3_1).toNat * 4)).block, (ad111.add ((x3_1).toNat * 4)).off + 3, none⟩ = some (.slice A112_3 ((rd_T152 l0 x3_1).f3).length c112_3) ∧ w'.cell? (ad111.add ((x3_1).toNat * 4)) = some (.int .i16 ((rd_T152 l0 x3_1).f0)) ∧ w'.cell? ⟨(ad111.add ((x3_1).toNat * 4)).block, (ad111.add ((x3_1).toNat * 4)).off + 1, none⟩ = some (.int .i16 ((rd_T152 l0 x3_1).f1)) ∧ w'.cell? ⟨(ad111.add ((x3_1).toNat * 4)).block, (ad111.add ((x3_1).toNat * 4)).off + 2, none⟩ = some (.int .i16 ((rd_T152 l0 x3_1).f2)) ∧ w'.cell? ⟨(ad111.add ((x3_1).toNat * 4)).block, (ad111.add ((x3_1).toNat * 4)).off + 3, none⟩ = some (.slice A112_3 ((rd_T152 l0 x3_1).f3).length c112_3) ∧ w'.cell? (ad111.add ((x3_1).toNat * 4)) = some (.int .i16 ((rd_T152 l0 x3_1).f0)) ∧ w'.cell? ⟨(ad111.add ((x3_1).toNat * 4)).block, (ad111.add ((x3_1).toNat * 4)).off + 1, none⟩ = some (.int .i16 ((rd_T152 l0 x3_1).f1)) ∧ w'.cell? ⟨(ad111.add ((x3_1).toNat * 4)).block, (ad111.add ((x3_1).toNat * 4)).off + 2, none⟩ = some (.int .i16 ((rd_T152 l0 x3_1).f2)) ∧ w'.cell? ⟨(ad111.add ((x3_1).toNat * 4)).block, (ad111.add ((x3_1).toNat * 4)).off + 3, none⟩ = some (.slice A112_3 ((rd_T152 l0 x3_1).f3).length c112_3)) (ds := []) #[false, false, false, false, false, false, false, false, false, false, false, false, false, false, false, false, false, false, false, false, false, false, false, false, false, false, false, false, false, false, false, false, false, false, false, false, false, false, false] (by kernel_rfl) rfl rfl ⟨(by first | exact ((HB.out.cell (World.block_lt_of_cell? w _ hw112_0)).trans hw112_0) | exact ((HB.out.cell (World.block_lt_of_cell? w _ hv112_0)).trans hv112_0) | exact hx112_0), (by first | exact ((HB.out.cell (World.block_lt_of_cell? w _ hw112_1)).trans hw112_1) | exact ((HB.out.cell (World.block_lt_of_cell? w _ hv112_1)).trans hv112_1) | exact hx112_1), (by first | exact ((HB.out.cell (World.block_lt_of_cell? w _ hw112_2)).trans hw112_2) | exact ((HB.out.cell (World.block_lt_of_cell? w _ hv112_2)).trans hv112_2) | exact hx112_2), (by first | exact ((HB.out.cell (World.block_lt_of_cell? w _ hw112_3)).trans hw112_3) | exact ((HB.out.cell (World.block_lt_of_cell? w _ hv112_3)).trans hv112_3) | exact hx112_3), (by first | exact ((HB.out.cell (World.block_lt_of_cell? w _ hw114_0)).trans hw114_0) | exact ((HB.out.cell (World.block_lt_of_cell? w _ hv114_0)).trans hv114_0) | exact hx114_0), (by first | exact ((HB.out.cell (World.block_lt_of_cell? w _ hw114_1)).trans hw114_1) | exact ((HB.out.cell (World.block_lt_of_cell? w _ hv114_1)).trans hv114_1) | exact hx114_1), (by first | exact ((HB.out.cell (World.block_lt_of_cell? w _ hw114_2)).trans hw114_2) | exact ((HB.out.cell (World.block_lt_of_cell? w _ hv114_2)).trans hv114_2) | exact hx114_2), (by first | exact ((HB.out.cell (World.block_lt_of_cell? w _ hw114_3)).trans hw114_3) | exact ((HB.out.cell (World.block_lt_of_cell? w _ hv114_3)).trans hv114_3) | exact hx114_3), (by first | exact ((HB.out.cell (World.block_lt_of_cell? w _ hw116_0)).trans hw116_0) | exact ((HB.out.cell (World.block_lt_of_cell? w _ hv116_0)).trans hv116_0) | exact hx116_0), (by first | exact ((HB.out.cell (World.block_lt_of_cell? w _ hw116_1)).trans hw116_1) | exact ((HB.out.cell (World.block_lt_of_cell? w _ hv116_1)).trans hv116_1) | exact hx116_1), (by first | exact ((HB.out.cell (World.block_lt_of_cell? w _ hw116_2)).trans hw116_2) | exact ((HB.out.cell (World.block_lt_of_cell? w _ hv116_2)).trans hv116_2) | exact hx116_2), (by first | exact ((HB.out.cell (World.block_lt_of_cell? w _ hw116_3)).trans hw116_3) | exact ((HB.out.cell (World.block_lt_of_cell? w _ hv116_3)).trans hv116_3) | exact hx116_3), (by first | exact ((HB.out.cell (World.block_lt_of_cell? w _ hw118_0)).trans hw118_0) | exact ((HB.out.cell (World.block_lt_of_cell? w _ hv118_0)).trans hv118_0) | exact hx118_0), (by first | exact ((HB.out.cell (World.block_lt_of_cell? w _ hw118_1)).trans hw118_1) | exact ((HB.out.cell (World.block_lt_of_cell? w _ hv118_1)).trans hv118_1) | exact hx118_1), (by first | exact ((HB.out.cell (World.block_lt_of_cell? w _ hw118_2)).trans hw118_2) | exact ((HB.out.cell (World.block_lt_of_cell? w _ hv118_2)).trans hv118_2) | exact hx118_2), (by first | exact ((HB.out.cell (World.block_lt_of_cell? w _ hw118_3)).trans hw118_3) | exact ((HB.out.cell (World.block_lt_of_cell? w _ hv118_3)).trans hv118_3) | exact hx118_3), (by first | exact ((HB.out.cell (World.block_lt_of_cell? w _ hw119_0)).trans hw119_0) | exact ((HB.out.cell (World.block_lt_of_cell? w _ hv119_0)).trans hv119_0) | exact hx119_0), (by first | exact ((HB.out.cell (World.block_lt_of_cell? w _ hw119_1)).trans hw119_1) | exact ((HB.out.cell (World.block_lt_of_cell? w _ hv119_1)).trans hv119_1) | exact hx119_1), (by first | exact ((HB.out.cell (World.block_lt_of_cell? w _ hw119_2)).trans hw119_2) | exact ((HB.out.cell (World.block_lt_of_cell? w _ hv119_2)).trans hv119_2) | exact hx119_2), (by first | exact ((HB.out.cell (World.block_lt_of_cell? w _ hw119_3)).trans hw119_3) | exact ((HB.out.cell (World.block_lt_of_cell? w _ hv119_3)).trans hv119_3) | exact hx119_3)⟩ (fun hHeld => ?_); refine with_tabW spec_l04Ok.tab7 spec_l04Ok.bits7 (fun HT_ HW_ => ?_)
                    generalize wr.drew = w14 at HB HR112_3 HR114_3 HR116_3 HR118_3 HR119_3 hx112_0 hx112_1 hx112_2 hx112_3 hx114_0 hx114_1 hx114_2 hx114_3 hx116_0 hx116_1 hx116_2 hx116_3 hx118_0 hx118_1 hx118_2 hx118_3 hx119_0 hx119_1 hx119_2 hx119_3 hHeld ⊢
                    refine pure_ (i := 0) (N := some 18) (v := ?_) (a' := ?_) #[true, false, false, false, false, false, false, false, false, false, false, false, false, false, false, false, false, false, false, false, false, false, false, false, false, false, false, false, false, false, false, false, false, false, false, false, false, false, false] rfl rfl (any_of HT_.out (by kernel_rfl)) (fun _ _ _ h => h) (Or.inl ⟨by rfl, ?_⟩) ?_ ?_
                    rotate_left
                    · intro w'
                      go_simp
                      with_reducible rfl
                    rotate_left
                    · simp only [Act.put, List.setIfInBounds_toArray, List.set_cons_zero, List.set_cons_succ, i64_w, i32_w]
                      rfl
                    refine pure_ (i := 1) (N := some 19) (v := ?_) (a' := ?_) #[true, true, false, false, false, false, false, false, false, false, false, false, false, false, false, false, false, false, false, false, false, false, false, false, false, false, false, false, false, false, false, false, false, false, false, false, false, false, false] rfl rfl (any_of HT_.out (by kernel_rfl)) (fun _ _ _ h => h) (Or.inl ⟨by rfl, ?_⟩) ?_ ?_
                    rotate_left
                    · intro w'
                      go_simp
                      with_reducible rfl
                    rotate_left
                    · simp only [Act.put, List.setIfInBounds_toArray, List.set_cons_zero, List.set_cons_succ, i64_w, i32_w]
                      rfl
                    refine pure_ (i := 2) (N := some 20) (v := ?_) (a' := ?_) #[true, true, true, false, false, false, false, false, false, false, false, false, false, false, false, false, false, false, false, false, false, false, false, false, false, false, false, false, false, false, false, false, false, false, false, false, false, false, false] rfl rfl (any_of HT_.out (by kernel_rfl)) (fun _ _ _ h => h) (Or.inl ⟨by rfl, ?_⟩) ?_ ?_
                    rotate_left
                    · intro w'
                      go_simp
                      with_reducible rfl
                    rotate_left
                    · simp only [Act.put, List.setIfInBounds_toArray, List.set_cons_zero, List.set_cons_succ, i64_w, i32_w]
                      rfl
                    refine take_ (i := 3) (N := some 21) (v := ?_) (a' := ?_) #[true, true, true, true, false, false, false, false, false, false, false, false, false, false, false, false, false, false, false, false, false, false, false, false, false, false, false, false, false, false, false, false, false, false, false, false, false, false, false] rfl rfl (take_ofW HT_.out HW_.out (by kernel_rfl)) (fun _ _ _ h => h) (Or.inl ⟨by rfl, ?_⟩) hHeld ?_ ?_
                    rotate_left
                    · rintro w' ⟨s0, s1, s2, s3, s4, s5, s6, s7, s8, s9, s10, s11, s12, s13, s14, s15, s16, s17, s18, s19⟩
                      go_simp
                      with_reducible rfl
                    rotate_left
                    · simp only [Act.put, List.setIfInBounds_toArray, List.set_cons_zero, List.set_cons_succ, i64_w, i32_w]
                      rfl
                    refine pure_ (i := 4) (N := some 22) (v := ?_) (a' := ?_) #[true, true, true, true, true, false, false, false, false, false, false, false, false, false, false, false, false, false, false, false, false, false, false, false, false, false, false, false, false, false, false, false, false, false, false, false, false, false, false] rfl rfl (any_of HT_.out (by kernel_rfl)) (fun _ _ _ h => h) (Or.inl ⟨by rfl, ?_⟩) ?_ ?_
                    rotate_left
                    · intro w'
                      go_simp
                      with_reducible rfl
                    rotate_left
                    · simp only [Act.put, List.setIfInBounds_toArray, List.set_cons_zero, List.set_cons_succ, i64_w, i32_w]
                      rfl
                    refine one_ (i := 5) (N := some 23) #[true, true, true, true, true, true, false, false, false, false, false, false, false, false, false, false, false, false, false, false, false, false, false, false, false, false, false, false, false, false, false, false, false, false, false, false, false, false, false] rfl rfl (one_of HT_.out (by kernel_rfl)) (by decide) (fun K hK => ?_)
                    refine goes_ Try.func99 (by kernel_rfl) rfl #[.int .i64 (wrap64 ((rd_T152 l0 x3_1).f0)), .int .i64 1, .int .i64 60] (by rfl) rfl rfl (by (try simp only [List.map_toArray, List.map_cons, List.map_nil]); first | done | rfl | (simp only [List.length_drop, List.length_take]; rfl)) ?_
                    with_reducible refine (spec_l00In.calls (wrap64 ((rd_T152 l0 x3_1).f0)) 1 60 true _ A6.out).mono ?_
                    rintro e w' ⟨rfl, ⟨nd, rfl⟩⟩
                    refine ⟨_, rfl, ?_⟩
                    refine hK.out _ _ ⟨(by first | exact ((HB.out.cell (World.block_lt_of_cell? w _ hw112_0)).trans hw112_0) | exact ((HB.out.cell (World.block_lt_of_cell? w _ hv112_0)).trans hv112_0) | exact hx112_0), (by first | exact ((HB.out.cell (World.block_lt_of_cell? w _ hw112_1)).trans hw112_1) | exact ((HB.out.cell (World.block_lt_of_cell? w _ hv112_1)).trans hv112_1) | exact hx112_1), (by first | exact ((HB.out.cell (World.block_lt_of_cell? w _ hw112_2)).trans hw112_2) | exact ((HB.out.cell (World.block_lt_of_cell? w _ hv112_2)).trans hv112_2) | exact hx112_2), (by first | exact ((HB.out.cell (World.block_lt_of_cell? w _ hw112_3)).trans hw112_3) | exact ((HB.out.cell (World.block_lt_of_cell? w _ hv112_3)).trans hv112_3) | exact hx112_3), (by first | exact ((HB.out.cell (World.block_lt_of_cell? w _ hw114_0)).trans hw114_0) | exact ((HB.out.cell (World.block_lt_of_cell? w _ hv114_0)).trans hv114_0) | exact hx114_0), (by first | exact ((HB.out.cell (World.block_lt_of_cell? w _ hw114_1)).trans hw114_1) | exact ((HB.out.cell (World.block_lt_of_cell? w _ hv114_1)).trans hv114_1) | exact hx114_1), (by first | exact ((HB.out.cell (World.block_lt_of_cell? w _ hw114_2)).trans hw114_2) | exact ((HB.out.cell (World.block_lt_of_cell? w _ hv114_2)).trans hv114_2) | exact hx114_2), (by first | exact ((HB.out.cell (World.block_lt_of_cell? w _ hw114_3)).trans hw114_3) | exact ((HB.out.cell (World.block_lt_of_cell? w _ hv114_3)).trans hv114_3) | exact hx114_3), (by first | exact ((HB.out.cell (World.block_lt_of_cell? w _ hw116_0)).trans hw116_0) | exact ((HB.out.cell (World.block_lt_of_cell? w _ hv116_0)).trans hv116_0) | exact hx116_0), (by first | exact ((HB.out.cell (World.block_lt_of_cell? w _ hw116_1)).trans hw116_1) | exact ((HB.out.cell (World.block_lt_of_cell? w _ hv116_1)).trans hv116_1) | exact hx116_1), (by first | exact ((HB.out.cell (World.block_lt_of_cell? w _ hw116_2)).trans hw116_2) | exact ((HB.out.cell (World.block_lt_of_cell? w _ hv116_2)).trans hv116_2) | exact hx116_2), (by first | exact ((HB.out.cell (World.block_lt_of_cell? w _ hw116_3)).trans hw116_3) | exact ((HB.out.cell (World.block_lt_of_cell? w _ hv116_3)).trans hv116_3) | exact hx116_3), (by first | exact ((HB.out.cell (World.block_lt_of_cell? w _ hw118_0)).trans hw118_0) | exact ((HB.out.cell (World.block_lt_of_cell? w _ hv118_0)).trans hv118_0) | exact hx118_0), (by first | exact ((HB.out.cell (World.block_lt_of_cell? w _ hw118_1)).trans hw118_1) | exact ((HB.out.cell (World.block_lt_of_cell? w _ hv118_1)).trans hv118_1) | exact hx118_1), (by first | exact ((HB.out.cell (World.block_lt_of_cell? w _ hw118_2)).trans hw118_2) | exact ((HB.out.cell (World.block_lt_of_cell? w _ hv118_2)).trans hv118_2) | exact hx118_2), (by first | exact ((HB.out.cell (World.block_lt_of_cell? w _ hw118_3)).trans hw118_3) | exact ((HB.out.cell (World.block_lt_of_cell? w _ hv118_3)).trans hv118_3) | exact hx118_3), (by first | exact ((HB.out.cell (World.block_lt_of_cell? w _ hw119_0)).trans hw119_0) | exact ((HB.out.cell (World.block_lt_of_cell? w _ hv119_0)).trans hv119_0) | exact hx119_0), (by first | exact ((HB.out.cell (World.block_lt_of_cell? w _ hw119_1)).trans hw119_1) | exact ((HB.out.cell (World.block_lt_of_cell? w _ hv119_1)).trans hv119_1) | exact hx119_1), (by first | exact ((HB.out.cell (World.block_lt_of_cell? w _ hw119_2)).trans hw119_2) | exact ((HB.out.cell (World.block_lt_of_cell? w _ hv119_2)).trans hv119_2) | exact hx119_2), (by first | exact ((HB.out.cell (World.block_lt_of_cell? w _ hw119_3)).trans hw119_3) | exact ((HB.out.cell (World.block_lt_of_cell? w _ hv119_3)).trans hv119_3) | exact hx119_3)⟩ (fun hHeld => ?_)
                    clear hK K
                    refine norm_ (a' := ?_) ?_ ?_
                    rotate_left
                    · show Act.put _ (some 23) _ = _
                      simp only [Act.put, List.setIfInBounds_toArray, List.set_cons_zero, List.set_cons_succ, i64_w, i32_w]
                      rfl
                    refine pure_ (i := 6) (N := some 24) (v := ?_) (a' := ?_) #[true, true, true, true, true, true, true, false, false, false, false, false, false, false, false, false, false, false, false, false, false, false, false, false, false, false, false, false, false, false, false, false, false, false, false, false, false, false, false] rfl rfl (any_of HT_.out (by kernel_rfl)) (fun _ _ _ h => h) (Or.inl ⟨by rfl, ?_⟩) ?_ ?_
                    rotate_left
                    · intro w'
                      go_simp
                      with_reducible rfl
                    rotate_left
                    · simp only [Act.put, List.setIfInBounds_toArray, List.set_cons_zero, List.set_cons_succ, i64_w, i32_w]
                      rfl
                    refine pure_ (i := 7) (N := some 25) (v := ?_) (a' := ?_) #[true, true, true, true, true, true, true, true, false, false, false, false, false, false, false, false, false, false, false, false, false, false, false, false, false, false, false, false, false, false, false, false, false, false, false, false, false, false, false] rfl rfl (any_of HT_.out (by kernel_rfl)) (fun _ _ _ h => h) (Or.inl ⟨by rfl, ?_⟩) ?_ ?_
                    rotate_left
                    · intro w'
                      go_simp
                      with_reducible rfl
                    rotate_left
                    · simp only [Act.put, List.setIfInBounds_toArray, List.set_cons_zero, List.set_cons_succ, i64_w, i32_w]
                      rfl
                    refine pure_ (i := 8) (N := some 26) (v := ?_) (a' := ?_) #[true, true, true, true, true, true, true, true, true, false, false, false, false, false, false, false, false, false, false, false, false, false, false, false, false, false, false, false, false, false, false, false, false, false, false, false, false, false, false] rfl rfl (any_of HT_.out (by kernel_rfl)) (fun _ _ _ h => h) (Or.inl ⟨by rfl, ?_⟩) ?_ ?_
                    rotate_left
                    · intro w'
                      go_simp
                      with_reducible rfl
                    rotate_left
                    · simp only [Act.put, List.setIfInBounds_toArray, List.set_cons_zero, List.set_cons_succ, i64_w, i32_w]
                      rfl
                    refine pure_ (i := 9) (N := some 27) (v := ?_) (a' := ?_) #[true, true, true, true, true, true, true, true, true, true, false, false, false, false, false, false, false, false, false, false, false, false, false, false, false, false, false, false, false, false, false, false, false, false, false, false, false, false, false] rfl rfl (any_of HT_.out (by kernel_rfl)) (fun _ _ _ h => h) (Or.inl ⟨by rfl, ?_⟩) ?_ ?_
                    rotate_left
                    · intro w'
                      go_simp
                      with_reducible rfl
                    rotate_left
                    · simp only [Act.put, List.setIfInBounds_toArray, List.set_cons_zero, List.set_cons_succ, i64_w, i32_w]
                      rfl
                    refine pure_ (i := 10) (N := some 28) (v := ?_) (a' := ?_) #[true, true, true, true, true, true, true, true, true, true, true, false, false, false, false, false, false, false, false, false, false, false, false, false, false, false, false, false, false, false, false, false, false, false, false, false, false, false, false] rfl rfl (any_of HT_.out (by kernel_rfl)) (fun _ _ _ h => h) (Or.inl ⟨by rfl, ?_⟩) ?_ ?_
                    rotate_left
                    · intro w'
                      go_simp
                      with_reducible rfl
                    rotate_left
                    · simp only [Act.put, List.setIfInBounds_toArray, List.set_cons_zero, List.set_cons_succ, i64_w, i32_w]
                      rfl
                    refine take_ (i := 11) (N := some 29) (v := ?_) (a' := ?_) #[true, true, true, true, true, true, true, true, true, true, true, true, false, false, false, false, false, false, false, false, false, false, false, false, false, false, false, false, false, false, false, false, false, false, false, false, false, false, false] rfl rfl (take_ofW HT_.out HW_.out (by kernel_rfl)) (fun _ _ _ h => h) (Or.inl ⟨by rfl, ?_⟩) hHeld ?_ ?_
                    rotate_left
                    · rintro w' ⟨s0, s1, s2, s3, s4, s5, s6, s7, s8, s9, s10, s11, s12, s13, s14, s15, s16, s17, s18, s19⟩
                      go_simp
                      with_reducible rfl
                    rotate_left
                    · simp only [Act.put, List.setIfInBounds_toArray, List.set_cons_zero, List.set_cons_succ, i64_w, i32_w]
                      rfl
                    refine pure_ (i := 12) (N := some 30) (v := ?_) (a' := ?_) #[true, true, true, true, true, true, true, true, true, true, true, true, true, false, false, false, false, false, false, false, false, false, false, false, false, false, false, false, false, false, false, false, false, false, false, false, false, false, false] rfl rfl (any_of HT_.out (by kernel_rfl)) (fun _ _ _ h => h) (Or.inl ⟨by rfl, ?_⟩) ?_ ?_
                    rotate_left
                    · intro w'
                      go_simp
                      with_reducible rfl
                    rotate_left
                    · simp only [Act.put, List.setIfInBounds_toArray, List.set_cons_zero, List.set_cons_succ, i64_w, i32_w]
                      rfl
                    refine one_ (i := 13) (N := some 31) #[true, true, true, true, true, true, true, true, true, true, true, true, true, true, false, false, false, false, false, false, false, false, false, false, false, false, false, false, false, false, false, false, false, false, false, false, false, false, false] rfl rfl (one_of HT_.out (by kernel_rfl)) (by decide) (fun K hK => ?_)
                    refine goes_ Try.func99 (by kernel_rfl) rfl #[.int .i64 (wrap64 ((rd_T152 l0 x3_1).f1)), .int .i64 1, .int .i64 60] (by rfl) rfl rfl (by (try simp only [List.map_toArray, List.map_cons, List.map_nil]); first | done | rfl | (simp only [List.length_drop, List.length_take]; rfl)) ?_
                    with_reducible refine (spec_l00In.calls (wrap64 ((rd_T152 l0 x3_1).f1)) 1 60 true _ A8.out).mono ?_
                    rintro e w' ⟨rfl, ⟨nd, rfl⟩⟩
                    refine ⟨_, rfl, ?_⟩
                    refine hK.out _ _ ⟨(by first | exact ((HB.out.cell (World.block_lt_of_cell? w _ hw112_0)).trans hw112_0) | exact ((HB.out.cell (World.block_lt_of_cell? w _ hv112_0)).trans hv112_0) | exact hx112_0), (by first | exact ((HB.out.cell (World.block_lt_of_cell? w _ hw112_1)).trans hw112_1) | exact ((HB.out.cell (World.block_lt_of_cell? w _ hv112_1)).trans hv112_1) | exact hx112_1), (by first | exact ((HB.out.cell (World.block_lt_of_cell? w _ hw112_2)).trans hw112_2) | exact ((HB.out.cell (World.block_lt_of_cell? w _ hv112_2)).trans hv112_2) | exact hx112_2), (by first | exact ((HB.out.cell (World.block_lt_of_cell? w _ hw112_3)).trans hw112_3) | exact ((HB.out.cell (World.block_lt_of_cell? w _ hv112_3)).trans hv112_3) | exact hx112_3), (by first | exact ((HB.out.cell (World.block_lt_of_cell? w _ hw114_0)).trans hw114_0) | exact ((HB.out.cell (World.block_lt_of_cell? w _ hv114_0)).trans hv114_0) | exact hx114_0), (by first | exact ((HB.out.cell (World.block_lt_of_cell? w _ hw114_1)).trans hw114_1) | exact ((HB.out.cell (World.block_lt_of_cell? w _ hv114_1)).trans hv114_1) | exact hx114_1), (by first | exact ((HB.out.cell (World.block_lt_of_cell? w _ hw114_2)).trans hw114_2) | exact ((HB.out.cell (World.block_lt_of_cell? w _ hv114_2)).trans hv114_2) | exact hx114_2), (by first | exact ((HB.out.cell (World.block_lt_of_cell? w _ hw114_3)).trans hw114_3) | exact ((HB.out.cell (World.block_lt_of_cell? w _ hv114_3)).trans hv114_3) | exact hx114_3), (by first | exact ((HB.out.cell (World.block_lt_of_cell? w _ hw116_0)).trans hw116_0) | exact ((HB.out.cell (World.block_lt_of_cell? w _ hv116_0)).trans hv116_0) | exact hx116_0), (by first | exact ((HB.out.cell (World.block_lt_of_cell? w _ hw116_1)).trans hw116_1) | exact ((HB.out.cell (World.block_lt_of_cell? w _ hv116_1)).trans hv116_1) | exact hx116_1), (by first | exact ((HB.out.cell (World.block_lt_of_cell? w _ hw116_2)).trans hw116_2) | exact ((HB.out.cell (World.block_lt_of_cell? w _ hv116_2)).trans hv116_2) | exact hx116_2), (by first | exact ((HB.out.cell (World.block_lt_of_cell? w _ hw116_3)).trans hw116_3) | exact ((HB.out.cell (World.block_lt_of_cell? w _ hv116_3)).trans hv116_3) | exact hx116_3), (by first | exact ((HB.out.cell (World.block_lt_of_cell? w _ hw118_0)).trans hw118_0) | exact ((HB.out.cell (World.block_lt_of_cell? w _ hv118_0)).trans hv118_0) | exact hx118_0), (by first | exact ((HB.out.cell (World.block_lt_of_cell? w _ hw118_1)).trans hw118_1) | exact ((HB.out.cell (World.block_lt_of_cell? w _ hv118_1)).trans hv118_1) | exact hx118_1), (by first | exact ((HB.out.cell (World.block_lt_of_cell? w _ hw118_2)).trans hw118_2) | exact ((HB.out.cell (World.block_lt_of_cell? w _ hv118_2)).trans hv118_2) | exact hx118_2), (by first | exact ((HB.out.cell (World.block_lt_of_cell? w _ hw118_3)).trans hw118_3) | exact ((HB.out.cell (World.block_lt_of_cell? w _ hv118_3)).trans hv118_3) | exact hx118_3), (by first | exact ((HB.out.cell (World.block_lt_of_cell? w _ hw119_0)).trans hw119_0) | exact ((HB.out.cell (World.block_lt_of_cell? w _ hv119_0)).trans hv119_0) | exact hx119_0), (by first | exact ((HB.out.cell (World.block_lt_of_cell? w _ hw119_1)).trans hw119_1) | exact ((HB.out.cell (World.block_lt_of_cell? w _ hv119_1)).trans hv119_1) | exact hx119_1), (by first | exact ((HB.out.cell (World.block_lt_of_cell? w _ hw119_2)).trans hw119_2) | exact ((HB.out.cell (World.block_lt_of_cell? w _ hv119_2)).trans hv119_2) | exact hx119_2), (by first | exact ((HB.out.cell (World.block_lt_of_cell? w _ hw119_3)).trans hw119_3) | exact ((HB.out.cell (World.block_lt_of_cell? w _ hv119_3)).trans hv119_3) | exact hx119_3)⟩ (fun hHeld => ?_)
                    clear hK K
                    refine norm_ (a' := ?_) ?_ ?_
                    rotate_left
                    · show Act.put _ (some 31) _ = _
                      simp only [Act.put, List.setIfInBounds_toArray, List.set_cons_zero, List.set_cons_succ, i64_w, i32_w]
                      rfl
                    refine pure_ (i := 14) (N := some 32) (v := ?_) (a' := ?_) #[true, true, true, true, true, true, true, true, true, true, true, true, true, true, true, false, false, false, false, false, false, false, false, false, false, false, false, false, false, false, false, false, false, false, false, false, false, false, false] rfl rfl (any_of HT_.out (by kernel_rfl)) (fun _ _ _ h => h) (Or.inl ⟨by rfl, ?_⟩) ?_ ?_
                    rotate_left
                    · intro w'
                      go_simp
                      with_reducible rfl
                    rotate_left
                    · simp only [Act.put, List.setIfInBounds_toArray, List.set_cons_zero, List.set_cons_succ, i64_w, i32_w]
                      rfl
                    refine pure_ (i := 15) (N := some 33) (v := ?_) (a' := ?_) #[true, true, true, true, true, true, true, true, true, true, true, true, true, true, true, true, false, false, false, false, false, false, false, false, false, false, false, false, false, false, false, false, false, false, false, false, false, false, false] rfl rfl (any_of HT_.out (by kernel_rfl)) (fun _ _ _ h => h) (Or.inl ⟨by rfl, ?_⟩) ?_ ?_
                    rotate_left
                    · intro w'
                      go_simp
                      with_reducible rfl
                    rotate_left
                    · simp only [Act.put, List.setIfInBounds_toArray, List.set_cons_zero, List.set_cons_succ, i64_w, i32_w]
                      rfl
                    refine pure_ (i := 16) (N := some 34) (v := ?_) (a' := ?_) #[true, true, true, true, true, true, true, true, true, true, true, true, true, true, true, true, true, false, false, false, false, false, false, false, false, false, false, false, false, false, false, false, false, false, false, false, false, false, false] rfl rfl (any_of HT_.out (by kernel_rfl)) (fun _ _ _ h => h) (Or.inl ⟨by rfl, ?_⟩) ?_ ?_
                    rotate_left
                    · intro w'
                      go_simp
                      with_reducible rfl
                    rotate_left
                    · simp only [Act.put, List.setIfInBounds_toArray, List.set_cons_zero, List.set_cons_succ, i64_w, i32_w]
                      rfl
                    refine pure_ (i := 17) (N := some 35) (v := ?_) (a' := ?_) #[true, true, true, true, true, true, true, true, true, true, true, true, true, true, true, true, true, true, false, false, false, false, false, false, false, false, false, false, false, false, false, false, false, false, false, false, false, false, false] rfl rfl (any_of HT_.out (by kernel_rfl)) (fun _ _ _ h => h) (Or.inl ⟨by rfl, ?_⟩) ?_ ?_
                    rotate_left
                    · intro w'
                      go_simp
                      with_reducible rfl
                    rotate_left
                    · simp only [Act.put, List.setIfInBounds_toArray, List.set_cons_zero, List.set_cons_succ, i64_w, i32_w]
                      rfl
                    refine pure_ (i := 18) (N := some 36) (v := ?_) (a' := ?_) #[true, true, true, true, true, true, true, true, true, true, true, true, true, true, true, true, true, true, true, false, false, false, false, false, false, false, false, false, false, false, false, false, false, false, false, false, false, false, false] rfl rfl (any_of HT_.out (by kernel_rfl)) (fun _ _ _ h => h) (Or.inl ⟨by rfl, ?_⟩) ?_ ?_
                    rotate_left
                    · intro w'
                      go_simp
                      with_reducible rfl
                    rotate_left
                    · simp only [Act.put, List.setIfInBounds_toArray, List.set_cons_zero, List.set_cons_succ, i64_w, i32_w]
                      rfl
                    refine pure_ (i := 19) (N := some 37) (v := ?_) (a' := ?_) #[true, true, true, true, true, true, true, true, true, true, true, true, true, true, true, true, true, true, true, true, false, false, false, false, false, false, false, false, false, false, false, false, false, false, false, false, false, false, false] rfl rfl (any_of HT_.out (by kernel_rfl)) (fun _ _ _ h => h) (Or.inl ⟨by rfl, ?_⟩) ?_ ?_
                    rotate_left
                    · intro w'
                      go_simp
                      with_reducible rfl
                    rotate_left
                    · simp only [Act.put, List.setIfInBounds_toArray, List.set_cons_zero, List.set_cons_succ, i64_w, i32_w]
                      rfl
                    refine take_ (i := 20) (N := some 38) (v := ?_) (a' := ?_) #[true, true, true, true, true, true, true, true, true, true, true, true, true, true, true, true, true, true, true, true, true, false, false, false, false, false, false, false, false, false, false, false, false, false, false, false, false, false, false] rfl rfl (take_ofW HT_.out HW_.out (by kernel_rfl)) (fun _ _ _ h => h) (Or.inl ⟨by rfl, ?_⟩) hHeld ?_ ?_
                    rotate_left
                    · rintro w' ⟨s0, s1, s2, s3, s4, s5, s6, s7, s8, s9, s10, s11, s12, s13, s14, s15, s16, s17, s18, s19⟩
                      go_simp
                      with_reducible rfl
                    rotate_left
                    · simp only [Act.put, List.setIfInBounds_toArray, List.set_cons_zero, List.set_cons_succ, i64_w, i32_w]
                      rfl
                    refine one_ (i := 21) (N := some 39) #[true, true, true, true, true, true, true, true, true, true, true, true, true, true, true, true, true, true, true, true, true, true, false, false, false, false, false, false, false, false, false, false, false, false, false, false, false, false, false] rfl rfl (one_of HT_.out (by kernel_rfl)) (by decide) (fun K hK => ?_)
                    refine goes_ Try.func94 (by kernel_rfl) rfl #[.slice A112_3 ((rd_T152 l0 x3_1).f3).length c112_3] (by rfl) rfl rfl (by (try simp only [List.map_toArray, List.map_cons, List.map_nil]); first | done | rfl | (simp only [List.length_drop, List.length_take]; rfl)) ?_
                    with_reducible refine (spec_l01Ok.calls k1 _ _ ((rd_T152 l0 x3_1).f3) true _ ?side1 ?side2 A10.out).mono ?_
                    (case side1 => repeat (first | exact (Kd.C_below HR116_3.out (by repeat (first | (with_reducible first | exact HB.out | apply below_alloc | apply pw_below_drewN | apply below_drew1) | exact HB.out))) | (with_reducible refine Kd.C_alloc ?_ _) | (with_reducible refine Kd.C_drewN ?_ _) | (with_reducible refine Kd.C_drew ?_)))
                    (case side2 => exact HC116_3.out)
                    rintro e w' ⟨rfl, ⟨nd, rfl⟩⟩
                    refine ⟨_, rfl, ?_⟩
                    refine hK.out _ _ ⟨(by first | exact ((HB.out.cell (World.block_lt_of_cell? w _ hw112_0)).trans hw112_0) | exact ((HB.out.cell (World.block_lt_of_cell? w _ hv112_0)).trans hv112_0) | exact hx112_0), (by first | exact ((HB.out.cell (World.block_lt_of_cell? w _ hw112_1)).trans hw112_1) | exact ((HB.out.cell (World.block_lt_of_cell? w _ hv112_1)).trans hv112_1) | exact hx112_1), (by first | exact ((HB.out.cell (World.block_lt_of_cell? w _ hw112_2)).trans hw112_2) | exact ((HB.out.cell (World.block_lt_of_cell? w _ hv112_2)).trans hv112_2) | exact hx112_2), (by first | exact ((HB.out.cell (World.block_lt_of_cell? w _ hw112_3)).trans hw112_3) | exact ((HB.out.cell (World.block_lt_of_cell? w _ hv112_3)).trans hv112_3) | exact hx112_3), (by first | exact ((HB.out.cell (World.block_lt_of_cell? w _ hw114_0)).trans hw114_0) | exact ((HB.out.cell (World.block_lt_of_cell? w _ hv114_0)).trans hv114_0) | exact hx114_0), (by first | exact ((HB.out.cell (World.block_lt_of_cell? w _ hw114_1)).trans hw114_1) | exact ((HB.out.cell (World.block_lt_of_cell? w _ hv114_1)).trans hv114_1) | exact hx114_1), (by first | exact ((HB.out.cell (World.block_lt_of_cell? w _ hw114_2)).trans hw114_2) | exact ((HB.out.cell (World.block_lt_of_cell? w _ hv114_2)).trans hv114_2) | exact hx114_2), (by first | exact ((HB.out.cell (World.block_lt_of_cell? w _ hw114_3)).trans hw114_3) | exact ((HB.out.cell (World.block_lt_of_cell? w _ hv114_3)).trans hv114_3) | exact hx114_3), (by first | exact ((HB.out.cell (World.block_lt_of_cell? w _ hw116_0)).trans hw116_0) | exact ((HB.out.cell (World.block_lt_of_cell? w _ hv116_0)).trans hv116_0) | exact hx116_0), (by first | exact ((HB.out.cell (World.block_lt_of_cell? w _ hw116_1)).trans hw116_1) | exact ((HB.out.cell (World.block_lt_of_cell? w _ hv116_1)).trans hv116_1) | exact hx116_1), (by first | exact ((HB.out.cell (World.block_lt_of_cell? w _ hw116_2)).trans hw116_2) | exact ((HB.out.cell (World.block_lt_of_cell? w _ hv116_2)).trans hv116_2) | exact hx116_2), (by first | exact ((HB.out.cell (World.block_lt_of_cell? w _ hw116_3)).trans hw116_3) | exact ((HB.out.cell (World.block_lt_of_cell? w _ hv116_3)).trans hv116_3) | exact hx116_3), (by first | exact ((HB.out.cell (World.block_lt_of_cell? w _ hw118_0)).trans hw118_0) | exact ((HB.out.cell (World.block_lt_of_cell? w _ hv118_0)).trans hv118_0) | exact hx118_0), (by first | exact ((HB.out.cell (World.block_lt_of_cell? w _ hw118_1)).trans hw118_1) | exact ((HB.out.cell (World.block_lt_of_cell? w _ hv118_1)).trans hv118_1) | exact hx118_1), (by first | exact ((HB.out.cell (World.block_lt_of_cell? w _ hw118_2)).trans hw118_2) | exact ((HB.out.cell (World.block_lt_of_cell? w _ hv118_2)).trans hv118_2) | exact hx118_2), (by first | exact ((HB.out.cell (World.block_lt_of_cell? w _ hw118_3)).trans hw118_3) | exact ((HB.out.cell (World.block_lt_of_cell? w _ hv118_3)).trans hv118_3) | exact hx118_3), (by first | exact ((HB.out.cell (World.block_lt_of_cell? w _ hw119_0)).trans hw119_0) | exact ((HB.out.cell (World.block_lt_of_cell? w _ hv119_0)).trans hv119_0) | exact hx119_0), (by first | exact ((HB.out.cell (World.block_lt_of_cell? w _ hw119_1)).trans hw119_1) | exact ((HB.out.cell (World.block_lt_of_cell? w _ hv119_1)).trans hv119_1) | exact hx119_1), (by first | exact ((HB.out.cell (World.block_lt_of_cell? w _ hw119_2)).trans hw119_2) | exact ((HB.out.cell (World.block_lt_of_cell? w _ hv119_2)).trans hv119_2) | exact hx119_2), (by first | exact ((HB.out.cell (World.block_lt_of_cell? w _ hw119_3)).trans hw119_3) | exact ((HB.out.cell (World.block_lt_of_cell? w _ hv119_3)).trans hv119_3) | exact hx119_3)⟩ (fun hHeld => ?_)
                    clear hK K
                    refine norm_ (a' := ?_) ?_ ?_
                    rotate_left
                    · show Act.put _ (some 39) _ = _
                      simp only [Act.put, List.setIfInBounds_toArray, List.set_cons_zero, List.set_cons_succ, i64_w, i32_w]
                      rfl
                    refine pure_ (i := 22) (N := some 40) (v := ?_) (a' := ?_) #[true, true, true, true, true, true, true, true, true, true, true, true, true, true, true, true, true, true, true, true, true, true, true, false, false, false, false, false, false, false, false, false, false, false, false, false, false, false, false] rfl rfl (any_of HT_.out (by kernel_rfl)) (fun _ _ _ h => h) (Or.inl ⟨by rfl, ?_⟩) ?_ ?_
                    rotate_left
                    · intro w'
                      go_simp
                      with_reducible rfl
                    rotate_left
                    · simp only [Act.put, List.setIfInBounds_toArray, List.set_cons_zero, List.set_cons_succ, i64_w, i32_w]
                      rfl
                    refine pure_ (i := 23) (N := some 41) (v := ?_) (a' := ?_) #[true, true, true, true, true, true, true, true, true, true, true, true, true, true, true, true, true, true, true, true, true, true, true, true, false, false, false, false, false, false, false, false, false, false, false, false, false, false, false] rfl rfl (any_of HT_.out (by kernel_rfl)) (fun _ _ _ h => h) (Or.inl ⟨by rfl, ?_⟩) ?_ ?_
                    rotate_left
                    · intro w'
                      go_simp
                      with_reducible rfl
                    rotate_left
                    · simp only [Act.put, List.setIfInBounds_toArray, List.set_cons_zero, List.set_cons_succ, i64_w, i32_w]
                      rfl
                    refine pure_ (i := 24) (N := some 42) (v := ?_) (a' := ?_) #[true, true, true, true, true, true, true, true, true, true, true, true, true, true, true, true, true, true, true, true, true, true, true, true, true, false, false, false, false, false, false, false, false, false, false, false, false, false, false] rfl rfl (any_of HT_.out (by kernel_rfl)) (fun _ _ _ h => h) (Or.inl ⟨by rfl, ?_⟩) ?_ ?_
                    rotate_left
                    · intro w'
                      go_simp
                      with_reducible rfl
                    rotate_left
                    · simp only [Act.put, List.setIfInBounds_toArray, List.set_cons_zero, List.set_cons_succ, i64_w, i32_w]
                      rfl
                    refine pure_ (i := 25) (N := some 43) (v := ?_) (a' := ?_) #[true, true, true, true, true, true, true, true, true, true, true, true, true, true, true, true, true, true, true, true, true, true, true, true, true, true, false, false, false, false, false, false, false, false, false, false, false, false, false] rfl rfl (any_of HT_.out (by kernel_rfl)) (fun _ _ _ h => h) (Or.inl ⟨by rfl, ?_⟩) ?_ ?_
                    rotate_left
                    · intro w'
                      go_simp
                      with_reducible rfl
                    rotate_left
                    · simp only [Act.put, List.setIfInBounds_toArray, List.set_cons_zero, List.set_cons_succ, i64_w, i32_w]
                      rfl
                    refine pure_ (i := 26) (N := some 44) (v := ?_) (a' := ?_) #[true, true, true, true, true, true, true, true, true, true, true, true, true, true, true, true, true, true, true, true, true, true, true, true, true, true, true, false, false, false, false, false, false, false, false, false, false, false, false] rfl rfl (any_of HT_.out (by kernel_rfl)) (fun _ _ _ h => h) (Or.inl ⟨by rfl, ?_⟩) ?_ ?_
                    rotate_left
                    · intro w'
                      go_simp
                      with_reducible rfl
                    rotate_left
                    · simp only [Act.put, List.setIfInBounds_toArray, List.set_cons_zero, List.set_cons_succ, i64_w, i32_w]
                      rfl
                    refine pure_ (i := 27) (N := some 45) (v := ?_) (a' := ?_) #[true, true, true, true, true, true, true, true, true, true, true, true, true, true, true, true, true, true, true, true, true, true, true, true, true, true, true, true, false, false, false, false, false, false, false, false, false, false, false] rfl rfl (any_of HT_.out (by kernel_rfl)) (fun _ _ _ h => h) (Or.inl ⟨by rfl, ?_⟩) ?_ ?_
                    rotate_left
                    · intro w'
                      go_simp
                      with_reducible rfl
                    rotate_left
                    · simp only [Act.put, List.setIfInBounds_toArray, List.set_cons_zero, List.set_cons_succ, i64_w, i32_w]
                      rfl
                    refine pure_ (i := 30) (N := some 48) (v := ?_) (a' := ?_) #[true, true, true, true, true, true, true, true, true, true, true, true, true, true, true, true, true, true, true, true, true, true, true, true, true, true, true, true, false, false, true, false, false, false, false, false, false, false, false] rfl rfl (any_of HT_.out (by kernel_rfl)) (fun _ _ _ h => h) (Or.inl ⟨by rfl, ?_⟩) ?_ ?_
                    rotate_left
                    · intro w'
                      go_simp
                      with_reducible rfl
                    rotate_left
                    · simp only [Act.put, List.setIfInBounds_toArray, List.set_cons_zero, List.set_cons_succ, i64_w, i32_w]
                      rfl
                    refine pure_ (i := 31) (N := some 49) (v := ?_) (a' := ?_) #[true, true, true, true, true, true, true, true, true, true, true, true, true, true, true, true, true, true, true, true, true, true, true, true, true, true, true, true, false, false, true, true, false, false, false, false, false, false, false] rfl rfl (any_of HT_.out (by kernel_rfl)) (fun _ _ _ h => h) (Or.inl ⟨by rfl, ?_⟩) ?_ ?_
                    rotate_left
                    · intro w'
                      go_simp
                      with_reducible rfl
                    rotate_left
                    · simp only [Act.put, List.setIfInBounds_toArray, List.set_cons_zero, List.set_cons_succ, i64_w, i32_w]
                      rfl
                    refine pure_ (i := 32) (N := some 50) (v := ?_) (a' := ?_) #[true, true, true, true, true, true, true, true, true, true, true, true, true, true, true, true, true, true, true, true, true, true, true, true, true, true, true, true, false, false, true, true, true, false, false, false, false, false, false] rfl rfl (any_of HT_.out (by kernel_rfl)) (fun _ _ _ h => h) (Or.inl ⟨by rfl, ?_⟩) ?_ ?_
                    rotate_left
                    · intro w'
                      go_simp
                      with_reducible rfl
                    rotate_left
                    · simp only [Act.put, List.setIfInBounds_toArray, List.set_cons_zero, List.set_cons_succ, i64_w, i32_w]
                      rfl
                    refine take_ (i := 28) (N := some 46) (v := ?_) (a' := ?_) #[true, true, true, true, true, true, true, true, true, true, true, true, true, true, true, true, true, true, true, true, true, true, true, true, true, true, true, true, true, false, true, true, true, false, false, false, false, false, false] rfl rfl (take_ofW HT_.out HW_.out (by kernel_rfl)) (fun _ _ _ h => h) (Or.inl ⟨by rfl, ?_⟩) hHeld ?_ ?_
                    rotate_left
                    · rintro w' ⟨s0, s1, s2, s3, s4, s5, s6, s7, s8, s9, s10, s11, s12, s13, s14, s15, s16, s17, s18, s19⟩
                      go_simp
                      with_reducible rfl
                    rotate_left
                    · simp only [Act.put, List.setIfInBounds_toArray, List.set_cons_zero, List.set_cons_succ, i64_w, i32_w]
                      rfl
                    refine pure_ (i := 29) (N := some 47) (v := ?_) (a' := ?_) #[true, true, true, true, true, true, true, true, true, true, true, true, true, true, true, true, true, true, true, true, true, true, true, true, true, true, true, true, true, true, true, true, true, false, false, false, false, false, false] rfl rfl (any_of HT_.out (by kernel_rfl)) (fun _ _ _ h => h) (Or.inl ⟨by rfl, ?_⟩) ?_ ?_
                    rotate_left
                    · intro w'
                      go_simp
                      with_reducible rfl
                    rotate_left
                    · simp only [Act.put, List.setIfInBounds_toArray, List.set_cons_zero, List.set_cons_succ, i64_w, i32_w]
                      rfl
                    refine take_ (i := 33) (N := some 51) (v := ?_) (a' := ?_) #[true, true, true, true, true, true, true, true, true, true, true, true, true, true, true, true, true, true, true, true, true, true, true, true, true, true, true, true, true, true, true, true, true, true, false, false, false, false, false] rfl rfl (take_ofW HT_.out HW_.out (by kernel_rfl)) (fun _ _ _ h => h) (Or.inl ⟨by rfl, ?_⟩) hHeld ?_ ?_
                    rotate_left
                    · rintro w' ⟨s0, s1, s2, s3, s4, s5, s6, s7, s8, s9, s10, s11, s12, s13, s14, s15, s16, s17, s18, s19⟩
                      go_simp
                      with_reducible rfl
                    rotate_left
                    · simp only [Act.put, List.setIfInBounds_toArray, List.set_cons_zero, List.set_cons_succ, i64_w, i32_w]
                      rfl
                    refine pure_ (i := 34) (N := some 52) (v := ?_) (a' := ?_) #[true, true, true, true, true, true, true, true, true, true, true, true, true, true, true, true, true, true, true, true, true, true, true, true, true, true, true, true, true, true, true, true, true, true, true, false, false, false, false] rfl rfl (any_of HT_.out (by kernel_rfl)) (fun _ _ _ h => h) (Or.inl ⟨by rfl, ?_⟩) ?_ ?_
                    rotate_left
                    · intro w'
                      go_simp
                      with_reducible rfl
                    rotate_left
                    · simp only [Act.put, List.setIfInBounds_toArray, List.set_cons_zero, List.set_cons_succ, i64_w, i32_w]
                      rfl
                    refine pure_ (i := 35) (N := some 53) (v := ?_) (a' := ?_) #[true, true, true, true, true, true, true, true, true, true, true, true, true, true, true, true, true, true, true, true, true, true, true, true, true, true, true, true, true, true, true, true, true, true, true, true, false, false, false] rfl rfl (any_of HT_.out (by kernel_rfl)) (fun _ _ _ h => h) (Or.inl ⟨by rfl, ?_⟩) ?_ ?_
                    rotate_left
                    · intro w'
                      go_simp
                      with_reducible rfl
                    rotate_left
                    · simp only [Act.put, List.setIfInBounds_toArray, List.set_cons_zero, List.set_cons_succ, i64_w, i32_w]
                      rfl
                    refine one_ (i := 36) (N := some 54) #[true, true, true, true, true, true, true, true, true, true, true, true, true, true, true, true, true, true, true, true, true, true, true, true, true, true, true, true, true, true, true, true, true, true, true, true, true, false, false] rfl rfl (one_of HT_.out (by kernel_rfl)) (by decide) (fun K hK => ?_)
                    refine goes_ Try.func99 (by kernel_rfl) rfl #[.int .i64 (wrap64 ((rd_T152 l0 x3_1).f2)), .int .i64 0, .int .i64 (wrap64 ((((rd_T152 l0 x3_1).f3).length : Int) - 1))] (by rfl) rfl rfl (by (try simp only [List.map_toArray, List.map_cons, List.map_nil]); first | done | rfl | (simp only [List.length_drop, List.length_take]; rfl)) ?_
                    with_reducible refine (spec_l00In.calls (wrap64 ((rd_T152 l0 x3_1).f2)) 0 (wrap64 ((((rd_T152 l0 x3_1).f3).length : Int) - 1)) true _ A12.out).mono ?_
                    rintro e w' ⟨rfl, ⟨nd, rfl⟩⟩
                    refine ⟨_, rfl, ?_⟩
                    refine hK.out _ _ ⟨(by first | exact ((HB.out.cell (World.block_lt_of_cell? w _ hw112_0)).trans hw112_0) | exact ((HB.out.cell (World.block_lt_of_cell? w _ hv112_0)).trans hv112_0) | exact hx112_0), (by first | exact ((HB.out.cell (World.block_lt_of_cell? w _ hw112_1)).trans hw112_1) | exact ((HB.out.cell (World.block_lt_of_cell? w _ hv112_1)).trans hv112_1) | exact hx112_1), (by first | exact ((HB.out.cell (World.block_lt_of_cell? w _ hw112_2)).trans hw112_2) | exact ((HB.out.cell (World.block_lt_of_cell? w _ hv112_2)).trans hv112_2) | exact hx112_2), (by first | exact ((HB.out.cell (World.block_lt_of_cell? w _ hw112_3)).trans hw112_3) | exact ((HB.out.cell (World.block_lt_of_cell? w _ hv112_3)).trans hv112_3) | exact hx112_3), (by first | exact ((HB.out.cell (World.block_lt_of_cell? w _ hw114_0)).trans hw114_0) | exact ((HB.out.cell (World.block_lt_of_cell? w _ hv114_0)).trans hv114_0) | exact hx114_0), (by first | exact ((HB.out.cell (World.block_lt_of_cell? w _ hw114_1)).trans hw114_1) | exact ((HB.out.cell (World.block_lt_of_cell? w _ hv114_1)).trans hv114_1) | exact hx114_1), (by first | exact ((HB.out.cell (World.block_lt_of_cell? w _ hw114_2)).trans hw114_2) | exact ((HB.out.cell (World.block_lt_of_cell? w _ hv114_2)).trans hv114_2) | exact hx114_2), (by first | exact ((HB.out.cell (World.block_lt_of_cell? w _ hw114_3)).trans hw114_3) | exact ((HB.out.cell (World.block_lt_of_cell? w _ hv114_3)).trans hv114_3) | exact hx114_3), (by first | exact ((HB.out.cell (World.block_lt_of_cell? w _ hw116_0)).trans hw116_0) | exact ((HB.out.cell (World.block_lt_of_cell? w _ hv116_0)).trans hv116_0) | exact hx116_0), (by first | exact ((HB.out.cell (World.block_lt_of_cell? w _ hw116_1)).trans hw116_1) | exact ((HB.out.cell (World.block_lt_of_cell? w _ hv116_1)).trans hv116_1) | exact hx116_1), (by first | exact ((HB.out.cell (World.block_lt_of_cell? w _ hw116_2)).trans hw116_2) | exact ((HB.out.cell (World.block_lt_of_cell? w _ hv116_2)).trans hv116_2) | exact hx116_2), (by first | exact ((HB.out.cell (World.block_lt_of_cell? w _ hw116_3)).trans hw116_3) | exact ((HB.out.cell (World.block_lt_of_cell? w _ hv116_3)).trans hv116_3) | exact hx116_3), (by first | exact ((HB.out.cell (World.block_lt_of_cell? w _ hw118_0)).trans hw118_0) | exact ((HB.out.cell (World.block_lt_of_cell? w _ hv118_0)).trans hv118_0) | exact hx118_0), (by first | exact ((HB.out.cell (World.block_lt_of_cell? w _ hw118_1)).trans hw118_1) | exact ((HB.out.cell (World.block_lt_of_cell? w _ hv118_1)).trans hv118_1) | exact hx118_1), (by first | exact ((HB.out.cell (World.block_lt_of_cell? w _ hw118_2)).trans hw118_2) | exact ((HB.out.cell (World.block_lt_of_cell? w _ hv118_2)).trans hv118_2) | exact hx118_2), (by first | exact ((HB.out.cell (World.block_lt_of_cell? w _ hw118_3)).trans hw118_3) | exact ((HB.out.cell (World.block_lt_of_cell? w _ hv118_3)).trans hv118_3) | exact hx118_3), (by first | exact ((HB.out.cell (World.block_lt_of_cell? w _ hw119_0)).trans hw119_0) | exact ((HB.out.cell (World.block_lt_of_cell? w _ hv119_0)).trans hv119_0) | exact hx119_0), (by first | exact ((HB.out.cell (World.block_lt_of_cell? w _ hw119_1)).trans hw119_1) | exact ((HB.out.cell (World.block_lt_of_cell? w _ hv119_1)).trans hv119_1) | exact hx119_1), (by first | exact ((HB.out.cell (World.block_lt_of_cell? w _ hw119_2)).trans hw119_2) | exact ((HB.out.cell (World.block_lt_of_cell? w _ hv119_2)).trans hv119_2) | exact hx119_2), (by first | exact ((HB.out.cell (World.block_lt_of_cell? w _ hw119_3)).trans hw119_3) | exact ((HB.out.cell (World.block_lt_of_cell? w _ hv119_3)).trans hv119_3) | exact hx119_3)⟩ (fun hHeld => ?_)
                    clear hK K
                    refine norm_ (a' := ?_) ?_ ?_
                    rotate_left
                    · show Act.put _ (some 54) _ = _
                      simp only [Act.put, List.setIfInBounds_toArray, List.set_cons_zero, List.set_cons_succ, i64_w, i32_w]
                      rfl
                    refine pure_ (i := 37) (N := some 55) (v := ?_) (a' := ?_) #[true, true, true, true, true, true, true, true, true, true, true, true, true, true, true, true, true, true, true, true, true, true, true, true, true, true, true, true, true, true, true, true, true, true, true, true, true, true, false] rfl rfl (any_of HT_.out (by kernel_rfl)) (fun _ _ _ h => h) (Or.inl ⟨by rfl, ?_⟩) ?_ ?_
                    rotate_left
                    · intro w'
                      go_simp
                      with_reducible rfl
                    rotate_left
                    · simp only [Act.put, List.setIfInBounds_toArray, List.set_cons_zero, List.set_cons_succ, i64_w, i32_w]
                      rfl
                    refine pure_ (i := 38) (N := some 56) (v := ?_) (a' := ?_) #[true, true, true, true, true, true, true, true, true, true, true, true, true, true, true, true, true, true, true, true, true, true, true, true, true, true, true, true, true, true, true, true, true, true, true, true, true, true, true] rfl rfl (any_of HT_.out (by kernel_rfl)) (fun _ _ _ h => h) (Or.inl ⟨by rfl, ?_⟩) ?_ ?_
                    rotate_left
                    · intro w'
                      go_simp
                      with_reducible rfl
                    rotate_left
                    · simp only [Act.put, List.setIfInBounds_toArray, List.set_cons_zero, List.set_cons_succ, i64_w, i32_w]
                      rfl
                    refine done_ (done_of HT_.out (by kernel_rfl)) ?_
                    try go_wp2
                    go_roundg k1
                    case measure => have := HK1.out; omega
                    case rel => exact ⟨(wrap64 (x3_1 + 1)), (by first | rfl | (simp; done) | (simp [*]; done)), H', ⟨by have := HK1.out; omega⟩, ⟨by repeat (first | (with_reducible first | exact HB.out | apply below_alloc | apply pw_below_drewN | apply below_drew1) | exact HB.out)⟩⟩
                  · replace c13 := Bool.eq_false_iff.mpr c13
                    subst c13
                    have H1 : (some false) = some r := by rw [if_neg (show ¬ (false = true) by decide)] at H; exact H
                    clear H
                    have H := H1
                    clear H1
                    obtain rfl := Option.some.inj H
                    have p111 : 0 ≤ (x3_1 : Int) := of_decide_eq_true (by first | (with_reducible assumption) | assumption)
                    have q111 : x3_1 < (l0.length : Int) := of_decide_eq_true (by first | (with_reducible assumption) | assumption)
                    obtain ⟨ad111, A111_3, c111_3, e111, hx111_0, hx111_1, hx111_2, hx111_3, hl111_3, hi111_3⟩ := at_T152 HR0.out x3_1 p111 q111
                    cases e111
                    replace hx111_0 := (HB.out.cell (World.block_lt_of_cell? w _ hx111_0)).trans hx111_0
                    replace hx111_1 := (HB.out.cell (World.block_lt_of_cell? w _ hx111_1)).trans hx111_1
                    replace hx111_2 := (HB.out.cell (World.block_lt_of_cell? w _ hx111_2)).trans hx111_2
                    replace hx111_3 := (HB.out.cell (World.block_lt_of_cell? w _ hx111_3)).trans hx111_3
                    have HR111_3 := Aside0.mk hi111_3
                    have HC111_3 := Aside0.mk hl111_3
                    clear hi111_3 hl111_3
                    replace p111 := eq_true p111
                    replace q111 := eq_true q111
                    try go_wp2
                    have n0_ := Aside0.mk (below_drew1 HB.out)
                    clear HB
                    have HB := n0_
                    clear n0_
                    have p112 : 0 ≤ (x3_1 : Int) := of_decide_eq_true (by first | (with_reducible assumption) | assumption)
                    have q112 : x3_1 < (l0.length : Int) := of_decide_eq_true (by first | (with_reducible assumption) | assumption)
                    obtain ⟨ad112, A112_3, c112_3, e112, hx112_0, hx112_1, hx112_2, hx112_3, hl112_3, hi112_3⟩ := at_T152 HR0.out x3_1 p112 q112
                    have hw112_3 := hx112_3
                    have hw112_2 := hx112_2
                    have hw112_1 := hx112_1
                    have hw112_0 := hx112_0
                    obtain rfl : ad111 = ad112 := (by injection e112)
                    replace hx112_0 := (HB.out.cell (World.block_lt_of_cell? w _ hx112_0)).trans hx112_0
                    replace hx112_1 := (HB.out.cell (World.block_lt_of_cell? w _ hx112_1)).trans hx112_1
                    replace hx112_2 := (HB.out.cell (World.block_lt_of_cell? w _ hx112_2)).trans hx112_2
                    replace hx112_3 := (HB.out.cell (World.block_lt_of_cell? w _ hx112_3)).trans hx112_3
                    have HR112_3 := Aside0.mk hi112_3
                    have HC112_3 := Aside0.mk hl112_3
                    clear hi112_3 hl112_3
                    replace p112 := eq_true p112
                    replace q112 := eq_true q112
                    have p114 : 0 ≤ (x3_1 : Int) := of_decide_eq_true (by first | (with_reducible assumption) | assumption)
                    have q114 : x3_1 < (l0.length : Int) := of_decide_eq_true (by first | (with_reducible assumption) | assumption)
                    obtain ⟨ad114, A114_3, c114_3, e114, hx114_0, hx114_1, hx114_2, hx114_3, hl114_3, hi114_3⟩ := at_T152 HR0.out x3_1 p114 q114
                    have hw114_3 := hx114_3
                    have hw114_2 := hx114_2
                    have hw114_1 := hx114_1
                    have hw114_0 := hx114_0
                    obtain rfl : ad111 = ad114 := (by injection e114)
                    replace hx114_0 := (HB.out.cell (World.block_lt_of_cell? w _ hx114_0)).trans hx114_0
                    replace hx114_1 := (HB.out.cell (World.block_lt_of_cell? w _ hx114_1)).trans hx114_1
                    replace hx114_2 := (HB.out.cell (World.block_lt_of_cell? w _ hx114_2)).trans hx114_2
                    replace hx114_3 := (HB.out.cell (World.block_lt_of_cell? w _ hx114_3)).trans hx114_3
                    have HR114_3 := Aside0.mk hi114_3
                    have HC114_3 := Aside0.mk hl114_3
                    clear hi114_3 hl114_3
                    replace p114 := eq_true p114
                    replace q114 := eq_true q114
                    have ea_ := Option.some.inj (hx112_3.symm.trans hx114_3)
                    injection ea_ with ea_ en_ ec_
                    subst ea_
                    subst ec_
                    clear en_
                    have p116 : 0 ≤ (x3_1 : Int) := of_decide_eq_true (by first | (with_reducible assumption) | assumption)
                    have q116 : x3_1 < (l0.length : Int) := of_decide_eq_true (by first | (with_reducible assumption) | assumption)
                    obtain ⟨ad116, A116_3, c116_3, e116, hx116_0, hx116_1, hx116_2, hx116_3, hl116_3, hi116_3⟩ := at_T152 HR0.out x3_1 p116 q116
                    have hw116_3 := hx116_3
                    have hw116_2 := hx116_2
                    have hw116_1 := hx116_1
                    have hw116_0 := hx116_0
                    obtain rfl : ad111 = ad116 := (by injection e116)
                    replace hx116_0 := (HB.out.cell (World.block_lt_of_cell? w _ hx116_0)).trans hx116_0
                    replace hx116_1 := (HB.out.cell (World.block_lt_of_cell? w _ hx116_1)).trans hx116_1
                    replace hx116_2 := (HB.out.cell (World.block_lt_of_cell? w _ hx116_2)).trans hx116_2
                    replace hx116_3 := (HB.out.cell (World.block_lt_of_cell? w _ hx116_3)).trans hx116_3
                    have HR116_3 := Aside0.mk hi116_3
                    have HC116_3 := Aside0.mk hl116_3
                    clear hi116_3 hl116_3
                    replace p116 := eq_true p116
                    replace q116 := eq_true q116
                    have ea_ := Option.some.inj (hx112_3.symm.trans hx116_3)
                    injection ea_ with ea_ en_ ec_
                    subst ea_
                    subst ec_
                    clear en_
                    have p118 : 0 ≤ (x3_1 : Int) := of_decide_eq_true (by first | (with_reducible assumption) | assumption)
                    have q118 : x3_1 < (l0.length : Int) := of_decide_eq_true (by first | (with_reducible assumption) | assumption)
                    obtain ⟨ad118, A118_3, c118_3, e118, hx118_0, hx118_1, hx118_2, hx118_3, hl118_3, hi118_3⟩ := at_T152 HR0.out x3_1 p118 q118
                    have hw118_3 := hx118_3
                    have hw118_2 := hx118_2
                    have hw118_1 := hx118_1
                    have hw118_0 := hx118_0
                    obtain rfl : ad111 = ad118 := (by injection e118)
                    replace hx118_0 := (HB.out.cell (World.block_lt_of_cell? w _ hx118_0)).trans hx118_0
                    replace hx118_1 := (HB.out.cell (World.block_lt_of_cell? w _ hx118_1)).trans hx118_1
                    replace hx118_2 := (HB.out.cell (World.block_lt_of_cell? w _ hx118_2)).trans hx118_2
                    replace hx118_3 := (HB.out.cell (World.block_lt_of_cell? w _ hx118_3)).trans hx118_3
                    have HR118_3 := Aside0.mk hi118_3
                    have HC118_3 := Aside0.mk hl118_3
                    clear hi118_3 hl118_3
                    replace p118 := eq_true p118
                    replace q118 := eq_true q118
                    have ea_ := Option.some.inj (hx112_3.symm.trans hx118_3)
                    injection ea_ with ea_ en_ ec_
                    subst ea_
                    subst ec_
                    clear en_
                    have p119 : 0 ≤ (x3_1 : Int) := of_decide_eq_true (by first | (with_reducible assumption) | assumption)
                    have q119 : x3_1 < (l0.length : Int) := of_decide_eq_true (by first | (with_reducible assumption) | assumption)
                    obtain ⟨ad119, A119_3, c119_3, e119, hx119_0, hx119_1, hx119_2, hx119_3, hl119_3, hi119_3⟩ := at_T152 HR0.out x3_1 p119 q119
                    have hw119_3 := hx119_3
                    have hw119_2 := hx119_2
                    have hw119_1 := hx119_1
                    have hw119_0 := hx119_0
                    obtain rfl : ad111 = ad119 := (by injection e119)
                    replace hx119_0 := (HB.out.cell (World.block_lt_of_cell? w _ hx119_0)).trans hx119_0
                    replace hx119_1 := (HB.out.cell (World.block_lt_of_cell? w _ hx119_1)).trans hx119_1
                    replace hx119_2 := (HB.out.cell (World.block_lt_of_cell? w _ hx119_2)).trans hx119_2
                    replace hx119_3 := (HB.out.cell (World.block_lt_of_cell? w _ hx119_3)).trans hx119_3
                    have HR119_3 := Aside0.mk hi119_3
                    have HC119_3 := Aside0.mk hl119_3
                    clear hi119_3 hl119_3
                    replace p119 := eq_true p119
                    replace q119 := eq_true q119
                    have ea_ := Option.some.inj (hx112_3.symm.trans hx119_3)
                    injection ea_ with ea_ en_ ec_
                    subst ea_
                    subst ec_
                    clear en_
                    refine start_ (n := 39) (S := fun w' => w'.cell? (ad111.add ((x3_1).toNat * 4)) = some (.int .i16 ((rd_T152 l0 x3_1).f0)) ∧ w'.cell? ⟨(ad111.add ((x3_1).toNat * 4)).block, (ad111.add ((x3_1).toNat * 4)).off + 1, none⟩ = some (.int .i16 ((rd_T152 l0 x3_1).f1)) ∧ w'.cell? ⟨(ad111.add ((x3_1).toNat * 4)).block, (ad111.add ((x3_1).toNat * 4)).off + 2, none⟩ = some (.int .i16 ((rd_T152 l0 x3_1).f2)) ∧ w'.cell? ⟨(ad111.add ((x3_1).toNat * 4)).block, (ad111.add ((x3_1).toNat * 4)).off + 3, none⟩ = some (.slice A112_3 ((rd_T152 l0 x3_1).f3).length c112_3) ∧ w'.cell? (ad111.add ((x3_1).toNat * 4)) = some (.int .i16 ((rd_T152 l0 x3_1).f0)) ∧ w'.cell? ⟨(ad111.add ((x3_1).toNat * 4)).block, (ad111.add ((x3_1).toNat * 4)).off + 1, none⟩ = some (.int .i16 ((rd_T152 l0 x3_1).f1)) ∧ w'.cell? ⟨(ad111.add ((x3_1).toNat * 4)).block, (ad111.add ((x3_1).toNat * 4)).off + 2, none⟩ = some (.int .i16 ((rd_T152 l0 x3_1).f2)) ∧ w'.cell? ⟨(ad111.add ((x3_1).toNat * 4)).block, (ad111.add ((x3_1).toNat * 4)).off + 3, none⟩ = some (.slice A112_3 ((rd_T152 l0 x3_1).f3).length c112_3) ∧ w'.cell? (ad111.add ((x3_1).toNat * 4)) = some (.int .i16 ((rd_T152 l0 x3_1).f0)) ∧ w'.cell? ⟨(ad111.add ((x3_1).toNat * 4)).block, (ad111.add ((x3_1).toNat * 4)).off + 1, none⟩ = some (.int .i16 ((rd_T152 l0 x3_1).f1)) ∧ w'.cell? ⟨(ad111.add ((x3_1).toNat * 4)).block, (ad111.add ((x3_1).toNat * 4)).off + 2, none⟩ = some (.int .i16 ((rd_T152 l0 x3_1).f2)) ∧ w'.cell? ⟨(ad111.add ((x3_1).toNat * 4)).block, (ad111.add ((x3_1).toNat * 4)).off + 3, none⟩ = some (.slice A112_3 ((rd_T152 l0 x3_1).f3).length c112_3) ∧ w'.cell? (ad111.add ((x3_1).toNat * 4)) = some (.int .i16 ((rd_T152 l0 x3_1).f0)) ∧ w'.cell? ⟨(ad111.add ((x3_1).toNat * 4)).block, (ad111.add ((x3_1).toNat * 4)).off + 1, none⟩ = some (.int .i16 ((rd_T152 l0 x3_1).f1)) ∧ w'.cell? ⟨(ad111.add ((x3_1).toNat * 4)).block, (ad111.add ((x3_1).toNat * 4)).off + 2, none⟩ = some (.int .i16 ((rd_T152 l0 x3_1).f2)) ∧ w'.cell? ⟨(ad111.add ((x3_1).toNat * 4)).block, (ad111.add ((x3_1).toNat * 4)).off + 3, none⟩ = some (.slice A112_3 ((rd_T152 l0 x3_1).f3).length c112_3) ∧ w'.cell? (ad111.add ((x3_1).toNat * 4)) = some (.int .i16 ((rd_T152 l0 x3_1).f0)) ∧ w'.cell? ⟨(ad111.add ((x3_1).toNat * 4)).block, (ad111.add ((x3_1).toNat * 4)).off + 1, none⟩ = some (.int .i16 ((rd_T152 l0 x3_1).f1)) ∧ w'.cell? ⟨(ad111.add ((x3_1).toNat * 4)).block, (ad111.add ((x3_1).toNat * 4)).off + 2, none⟩ = some (.int .i16 ((rd_T152 l0 x3_1).f2)) ∧ w'.cell? ⟨(ad111.add ((x3_1).toNat * 4)).block, (ad111.add ((x3_1).toNat * 4)).off + 3, none⟩ = some (.slice A112_3 ((rd_T152 l0 x3_1).f3).length c112_3)) (ds := []) #[false, false, false, false, false, false, false, false, false, false, false, false, false, false, false, false, false, false, false, false, false, false, false, false, false, false, false, false, false, false, false, false, false, false, false, false, false, false, false] (by kernel_rfl) rfl rfl ⟨(by first | exact ((HB.out.cell (World.block_lt_of_cell? w _ hw112_0)).trans hw112_0) | exact ((HB.out.cell (World.block_lt_of_cell? w _ hv112_0)).trans hv112_0) | exact hx112_0), (by first | exact ((HB.out.cell (World.block_lt_of_cell? w _ hw112_1)).trans hw112_1) | exact ((HB.out.cell (World.block_lt_of_cell? w _ hv112_1)).trans hv112_1) | exact hx112_1), (by first | exact ((HB.out.cell (World.block_lt_of_cell? w _ hw112_2)).trans hw112_2) | exact ((HB.out.cell (World.block_lt_of_cell? w _ hv112_2)).trans hv112_2) | exact hx112_2), (by first | exact ((HB.out.cell (World.block_lt_of_cell? w _ hw112_3)).trans hw112_3) | exact ((HB.out.cell (World.block_lt_of_cell? w _ hv112_3)).trans hv112_3) | exact hx112_3), (by first | exact ((HB.out.cell (World.block_lt_of_cell? w _ hw114_0)).trans hw114_0) | exact ((HB.out.cell (World.block_lt_of_cell? w _ hv114_0)).trans hv114_0) | exact hx114_0), (by first | exact ((HB.out.cell (World.block_lt_of_cell? w _ hw114_1)).trans hw114_1) | exact ((HB.out.cell (World.block_lt_of_cell? w _ hv114_1)).trans hv114_1) | exact hx114_1), (by first | exact ((HB.out.cell (World.block_lt_of_cell? w _ hw114_2)).trans hw114_2) | exact ((HB.out.cell (World.block_lt_of_cell? w _ hv114_2)).trans hv114_2) | exact hx114_2), (by first | exact ((HB.out.cell (World.block_lt_of_cell? w _ hw114_3)).trans hw114_3) | exact ((HB.out.cell (World.block_lt_of_cell? w _ hv114_3)).trans hv114_3) | exact hx114_3), (by first | exact ((HB.out.cell (World.block_lt_of_cell? w _ hw116_0)).trans hw116_0) | exact ((HB.out.cell (World.block_lt_of_cell? w _ hv116_0)).trans hv116_0) | exact hx116_0), (by first | exact ((HB.out.cell (World.block_lt_of_cell? w _ hw116_1)).trans hw116_1) | exact ((HB.out.cell (World.block_lt_of_cell? w _ hv116_1)).trans hv116_1) | exact hx116_1), (by first | exact ((HB.out.cell (World.block_lt_of_cell? w _ hw116_2)).trans hw116_2) | exact ((HB.out.cell (World.block_lt_of_cell? w _ hv116_2)).trans hv116_2) | exact hx116_2), (by first | exact ((HB.out.cell (World.block_lt_of_cell? w _ hw116_3)).trans hw116_3) | exact ((HB.out.cell (World.block_lt_of_cell? w _ hv116_3)).trans hv116_3) | exact hx116_3), (by first | exact ((HB.out.cell (World.block_lt_of_cell? w _ hw118_0)).trans hw118_0) | exact ((HB.out.cell (World.block_lt_of_cell? w _ hv118_0)).trans hv118_0) | exact hx118_0), (by first | exact ((HB.out.cell (World.block_lt_of_cell? w _ hw118_1)).trans hw118_1) | exact ((HB.out.cell (World.block_lt_of_cell? w _ hv118_1)).trans hv118_1) | exact hx118_1), (by first | exact ((HB.out.cell (World.block_lt_of_cell? w _ hw118_2)).trans hw118_2) | exact ((HB.out.cell (World.block_lt_of_cell? w _ hv118_2)).trans hv118_2) | exact hx118_2), (by first | exact ((HB.out.cell (World.block_lt_of_cell? w _ hw118_3)).trans hw118_3) | exact ((HB.out.cell (World.block_lt_of_cell? w _ hv118_3)).trans hv118_3) | exact hx118_3), (by first | exact ((HB.out.cell (World.block_lt_of_cell? w _ hw119_0)).trans hw119_0) | exact ((HB.out.cell (World.block_lt_of_cell? w _ hv119_0)).trans hv119_0) | exact hx119_0), (by first | exact ((HB.out.cell (World.block_lt_of_cell? w _ hw119_1)).trans hw119_1) | exact ((HB.out.cell (World.block_lt_of_cell? w _ hv119_1)).trans hv119_1) | exact hx119_1), (by first | exact ((HB.out.cell (World.block_lt_of_cell? w _ hw119_2)).trans hw119_2) | exact ((HB.out.cell (World.block_lt_of_cell? w _ hv119_2)).trans hv119_2) | exact hx119_2), (by first | exact ((HB.out.cell (World.block_lt_of_cell? w _ hw119_3)).trans hw119_3) | exact ((HB.out.cell (World.block_lt_of_cell? w _ hv119_3)).trans hv119_3) | exact hx119_3)⟩ (fun hHeld => ?_); refine with_tabW spec_l04Ok.tab7 spec_l04Ok.bits7 (fun HT_ HW_ => ?_)
                    generalize wr.drew = w15 at HB HR112_3 HR114_3 HR116_3 HR118_3 HR119_3 hx112_0 hx112_1 hx112_2 hx112_3 hx114_0 hx114_1 hx114_2 hx114_3 hx116_0 hx116_1 hx116_2 hx116_3 hx118_0 hx118_1 hx118_2 hx118_3 hx119_0 hx119_1 hx119_2 hx119_3 hHeld ⊢
                    refine pure_ (i := 0) (N := some 18) (v := ?_) (a' := ?_) #[true, false, false, false, false, false, false, false, false, false, false, false, false, false, false, false, false, false, false, false, false, false, false, false, false, false, false, false, false, false, false, false, false, false, false, false, false, false, false] rfl rfl (any_of HT_.out (by kernel_rfl)) (fun _ _ _ h => h) (Or.inl ⟨by rfl, ?_⟩) ?_ ?_
                    rotate_left
                    · intro w'
                      go_simp
                      with_reducible rfl
                    rotate_left
                    · simp only [Act.put, List.setIfInBounds_toArray, List.set_cons_zero, List.set_cons_succ, i64_w, i32_w]
                      rfl
                    refine pure_ (i := 1) (N := some 19) (v := ?_) (a' := ?_) #[true, true, false, false, false, false, false, false, false, false, false, false, false, false, false, false, false, false, false, false, false, false, false, false, false, false, false, false, false, false, false, false, false, false, false, false, false, false, false] rfl rfl (any_of HT_.out (by kernel_rfl)) (fun _ _ _ h => h) (Or.inl ⟨by rfl, ?_⟩) ?_ ?_
                    rotate_left
                    · intro w'
                      go_simp
                      with_reducible rfl
                    rotate_left
                    · simp only [Act.put, List.setIfInBounds_toArray, List.set_cons_zero, List.set_cons_succ, i64_w, i32_w]
                      rfl
                    refine pure_ (i := 2) (N := some 20) (v := ?_) (a' := ?_) #[true, true, true, false, false, false, false, false, false, false, false, false, false, false, false, false, false, false, false, false, false, false, false, false, false, false, false, false, false, false, false, false, false, false, false, false, false, false, false] rfl rfl (any_of HT_.out (by kernel_rfl)) (fun _ _ _ h => h) (Or.inl ⟨by rfl, ?_⟩) ?_ ?_
                    rotate_left
                    · intro w'
                      go_simp
                      with_reducible rfl
                    rotate_left
                    · simp only [Act.put, List.setIfInBounds_toArray, List.set_cons_zero, List.set_cons_succ, i64_w, i32_w]
                      rfl
                    refine take_ (i := 3) (N := some 21) (v := ?_) (a' := ?_) #[true, true, true, true, false, false, false, false, false, false, false, false, false, false, false, false, false, false, false, false, false, false, false, false, false, false, false, false, false, false, false, false, false, false, false, false, false, false, false] rfl rfl (take_ofW HT_.out HW_.out (by kernel_rfl)) (fun _ _ _ h => h) (Or.inl ⟨by rfl, ?_⟩) hHeld ?_ ?_
                    rotate_left
                    · rintro w' ⟨s0, s1, s2, s3, s4, s5, s6, s7, s8, s9, s10, s11, s12, s13, s14, s15, s16, s17, s18, s19⟩
                      go_simp
                      with_reducible rfl
                    rotate_left
                    · simp only [Act.put, List.setIfInBounds_toArray, List.set_cons_zero, List.set_cons_succ, i64_w, i32_w]
                      rfl
                    refine pure_ (i := 4) (N := some 22) (v := ?_) (a' := ?_) #[true, true, true, true, true, false, false, false, false, false, false, false, false, false, false, false, false, false, false, false, false, false, false, false, false, false, false, false, false, false, false, false, false, false, false, false, false, false, false] rfl rfl (any_of HT_.out (by kernel_rfl)) (fun _ _ _ h => h) (Or.inl ⟨by rfl, ?_⟩) ?_ ?_
                    rotate_left
                    · intro w'
                      go_simp
                      with_reducible rfl
                    rotate_left
                    · simp only [Act.put, List.setIfInBounds_toArray, List.set_cons_zero, List.set_cons_succ, i64_w, i32_w]
                      rfl
                    refine one_ (i := 5) (N := some 23) #[true, true, true, true, true, true, false, false, false, false, false, false, false, false, false, false, false, false, false, false, false, false, false, false, false, false, false, false, false, false, false, false, false, false, false, false, false, false, false] rfl rfl (one_of HT_.out (by kernel_rfl)) (by decide) (fun K hK => ?_)
                    refine goes_ Try.func99 (by kernel_rfl) rfl #[.int .i64 (wrap64 ((rd_T152 l0 x3_1).f0)), .int .i64 1, .int .i64 60] (by rfl) rfl rfl (by (try simp only [List.map_toArray, List.map_cons, List.map_nil]); first | done | rfl | (simp only [List.length_drop, List.length_take]; rfl)) ?_
                    with_reducible refine (spec_l00In.calls (wrap64 ((rd_T152 l0 x3_1).f0)) 1 60 true _ A6.out).mono ?_
                    rintro e w' ⟨rfl, ⟨nd, rfl⟩⟩
                    refine ⟨_, rfl, ?_⟩
                    refine hK.out _ _ ⟨(by first | exact ((HB.out.cell (World.block_lt_of_cell? w _ hw112_0)).trans hw112_0) | exact ((HB.out.cell (World.block_lt_of_cell? w _ hv112_0)).trans hv112_0) | exact hx112_0), (by first | exact ((HB.out.cell (World.block_lt_of_cell? w _ hw112_1)).trans hw112_1) | exact ((HB.out.cell (World.block_lt_of_cell? w _ hv112_1)).trans hv112_1) | exact hx112_1), (by first | exact ((HB.out.cell (World.block_lt_of_cell? w _ hw112_2)).trans hw112_2) | exact ((HB.out.cell (World.block_lt_of_cell? w _ hv112_2)).trans hv112_2) | exact hx112_2), (by first | exact ((HB.out.cell (World.block_lt_of_cell? w _ hw112_3)).trans hw112_3) | exact ((HB.out.cell (World.block_lt_of_cell? w _ hv112_3)).trans hv112_3) | exact hx112_3), (by first | exact ((HB.out.cell (World.block_lt_of_cell? w _ hw114_0)).trans hw114_0) | exact ((HB.out.cell (World.block_lt_of_cell? w _ hv114_0)).trans hv114_0) | exact hx114_0), (by first | exact ((HB.out.cell (World.block_lt_of_cell? w _ hw114_1)).trans hw114_1) | exact ((HB.out.cell (World.block_lt_of_cell? w _ hv114_1)).trans hv114_1) | exact hx114_1), (by first | exact ((HB.out.cell (World.block_lt_of_cell? w _ hw114_2)).trans hw114_2) | exact ((HB.out.cell (World.block_lt_of_cell? w _ hv114_2)).trans hv114_2) | exact hx114_2), (by first | exact ((HB.out.cell (World.block_lt_of_cell? w _ hw114_3)).trans hw114_3) | exact ((HB.out.cell (World.block_lt_of_cell? w _ hv114_3)).trans hv114_3) | exact hx114_3), (by first | exact ((HB.out.cell (World.block_lt_of_cell? w _ hw116_0)).trans hw116_0) | exact ((HB.out.cell (World.block_lt_of_cell? w _ hv116_0)).trans hv116_0) | exact hx116_0), (by first | exact ((HB.out.cell (World.block_lt_of_cell? w _ hw116_1)).trans hw116_1) | exact ((HB.out.cell (World.block_lt_of_cell? w _ hv116_1)).trans hv116_1) | exact hx116_1), (by first | exact ((HB.out.cell (World.block_lt_of_cell? w _ hw116_2)).trans hw116_2) | exact ((HB.out.cell (World.block_lt_of_cell? w _ hv116_2)).trans hv116_2) | exact hx116_2), (by first | exact ((HB.out.cell (World.block_lt_of_cell? w _ hw116_3)).trans hw116_3) | exact ((HB.out.cell (World.block_lt_of_cell? w _ hv116_3)).trans hv116_3) | exact hx116_3), (by first | exact ((HB.out.cell (World.block_lt_of_cell? w _ hw118_0)).trans hw118_0) | exact ((HB.out.cell (World.block_lt_of_cell? w _ hv118_0)).trans hv118_0) | exact hx118_0), (by first | exact ((HB.out.cell (World.block_lt_of_cell? w _ hw118_1)).trans hw118_1) | exact ((HB.out.cell (World.block_lt_of_cell? w _ hv118_1)).trans hv118_1) | exact hx118_1), (by first | exact ((HB.out.cell (World.block_lt_of_cell? w _ hw118_2)).trans hw118_2) | exact ((HB.out.cell (World.block_lt_of_cell? w _ hv118_2)).trans hv118_2) | exact hx118_2), (by first | exact ((HB.out.cell (World.block_lt_of_cell? w _ hw118_3)).trans hw118_3) | exact ((HB.out.cell (World.block_lt_of_cell? w _ hv118_3)).trans hv118_3) | exact hx118_3), (by first | exact ((HB.out.cell (World.block_lt_of_cell? w _ hw119_0)).trans hw119_0) | exact ((HB.out.cell (World.block_lt_of_cell? w _ hv119_0)).trans hv119_0) | exact hx119_0), (by first | exact ((HB.out.cell (World.block_lt_of_cell? w _ hw119_1)).trans hw119_1) | exact ((HB.out.cell (World.block_lt_of_cell? w _ hv119_1)).trans hv119_1) | exact hx119_1), (by first | exact ((HB.out.cell (World.block_lt_of_cell? w _ hw119_2)).trans hw119_2) | exact ((HB.out.cell (World.block_lt_of_cell? w _ hv119_2)).trans hv119_2) | exact hx119_2), (by first | exact ((HB.out.cell (World.block_lt_of_cell? w _ hw119_3)).trans hw119_3) | exact ((HB.out.cell (World.block_lt_of_cell? w _ hv119_3)).trans hv119_3) | exact hx119_3)⟩ (fun hHeld => ?_)
                    clear hK K
                    refine norm_ (a' := ?_) ?_ ?_
                    rotate_left
                    · show Act.put _ (some 23) _ = _
                      simp only [Act.put, List.setIfInBounds_toArray, List.set_cons_zero, List.set_cons_succ, i64_w, i32_w]
                      rfl
                    refine pure_ (i := 6) (N := some 24) (v := ?_) (a' := ?_) #[true, true, true, true, true, true, true, false, false, false, false, false, false, false, false, false, false, false, false, false, false, false, false, false, false, false, false, false, false, false, false, false, false, false, false, false, false, false, false] rfl rfl (any_of HT_.out (by kernel_rfl)) (fun _ _ _ h => h) (Or.inl ⟨by rfl, ?_⟩) ?_ ?_
                    rotate_left
                    · intro w'
                      go_simp
                      with_reducible rfl
                    rotate_left
                    · simp only [Act.put, List.setIfInBounds_toArray, List.set_cons_zero, List.set_cons_succ, i64_w, i32_w]
                      rfl
                    refine pure_ (i := 7) (N := some 25) (v := ?_) (a' := ?_) #[true, true, true, true, true, true, true, true, false, false, false, false, false, false, false, false, false, false, false, false, false, false, false, false, false, false, false, false, false, false, false, false, false, false, false, false, false, false, false] rfl rfl (any_of HT_.out (by kernel_rfl)) (fun _ _ _ h => h) (Or.inl ⟨by rfl, ?_⟩) ?_ ?_
                    rotate_left
                    · intro w'
                      go_simp
                      with_reducible rfl
                    rotate_left
                    · simp only [Act.put, List.setIfInBounds_toArray, List.set_cons_zero, List.set_cons_succ, i64_w, i32_w]
                      rfl
                    refine pure_ (i := 8) (N := some 26) (v := ?_) (a' := ?_) #[true, true, true, true, true, true, true, true, true, false, false, false, false, false, false, false, false, false, false, false, false, false, false, false, false, false, false, false, false, false, false, false, false, false, false, false, false, false, false] rfl rfl (any_of HT_.out (by kernel_rfl)) (fun _ _ _ h => h) (Or.inl ⟨by rfl, ?_⟩) ?_ ?_
                    rotate_left
                    · intro w'
                      go_simp
                      with_reducible rfl
                    rotate_left
                    · simp only [Act.put, List.setIfInBounds_toArray, List.set_cons_zero, List.set_cons_succ, i64_w, i32_w]
                      rfl
                    refine pure_ (i := 9) (N := some 27) (v := ?_) (a' := ?_) #[true, true, true, true, true, true, true, true, true, true, false, false, false, false, false, false, false, false, false, false, false, false, false, false, false, false, false, false, false, false, false, false, false, false, false, false, false, false, false] rfl rfl (any_of HT_.out (by kernel_rfl)) (fun _ _ _ h => h) (Or.inl ⟨by rfl, ?_⟩) ?_ ?_
                    rotate_left
                    · intro w'
                      go_simp
                      with_reducible rfl
                    rotate_left
                    · simp only [Act.put, List.setIfInBounds_toArray, List.set_cons_zero, List.set_cons_succ, i64_w, i32_w]
                      rfl
                    refine pure_ (i := 10) (N := some 28) (v := ?_) (a' := ?_) #[true, true, true, true, true, true, true, true, true, true, true, false, false, false, false, false, false, false, false, false, false, false, false, false, false, false, false, false, false, false, false, false, false, false, false, false, false, false, false] rfl rfl (any_of HT_.out (by kernel_rfl)) (fun _ _ _ h => h) (Or.inl ⟨by rfl, ?_⟩) ?_ ?_
                    rotate_left
                    · intro w'
                      go_simp
                      with_reducible rfl
                    rotate_left
                    · simp only [Act.put, List.setIfInBounds_toArray, List.set_cons_zero, List.set_cons_succ, i64_w, i32_w]
                      rfl
                    refine take_ (i := 11) (N := some 29) (v := ?_) (a' := ?_) #[true, true, true, true, true, true, true, true, true, true, true, true, false, false, false, false, false, false, false, false, false, false, false, false, false, false, false, false, false, false, false, false, false, false, false, false, false, false, false] rfl rfl (take_ofW HT_.out HW_.out (by kernel_rfl)) (fun _ _ _ h => h) (Or.inl ⟨by rfl, ?_⟩) hHeld ?_ ?_
                    rotate_left
                    · rintro w' ⟨s0, s1, s2, s3, s4, s5, s6, s7, s8, s9, s10, s11, s12, s13, s14, s15, s16, s17, s18, s19⟩
                      go_simp
                      with_reducible rfl
                    rotate_left
                    · simp only [Act.put, List.setIfInBounds_toArray, List.set_cons_zero, List.set_cons_succ, i64_w, i32_w]
                      rfl
                    refine pure_ (i := 12) (N := some 30) (v := ?_) (a' := ?_) #[true, true, true, true, true, true, true, true, true, true, true, true, true, false, false, false, false, false, false, false, false, false, false, false, false, false, false, false, false, false, false, false, false, false, false, false, false, false, false] rfl rfl (any_of HT_.out (by kernel_rfl)) (fun _ _ _ h => h) (Or.inl ⟨by rfl, ?_⟩) ?_ ?_
                    rotate_left
                    · intro w'
                      go_simp
                      with_reducible rfl
                    rotate_left
                    · simp only [Act.put, List.setIfInBounds_toArray, List.set_cons_zero, List.set_cons_succ, i64_w, i32_w]
                      rfl
                    refine one_ (i := 13) (N := some 31) #[true, true, true, true, true, true, true, true, true, true, true, true, true, true, false, false, false, false, false, false, false, false, false, false, false, false, false, false, false, false, false, false, false, false, false, false, false, false, false] rfl rfl (one_of HT_.out (by kernel_rfl)) (by decide) (fun K hK => ?_)
                    refine goes_ Try.func99 (by kernel_rfl) rfl #[.int .i64 (wrap64 ((rd_T152 l0 x3_1).f1)), .int .i64 1, .int .i64 60] (by rfl) rfl rfl (by (try simp only [List.map_toArray, List.map_cons, List.map_nil]); first | done | rfl | (simp only [List.length_drop, List.length_take]; rfl)) ?_
                    with_reducible refine (spec_l00In.calls (wrap64 ((rd_T152 l0 x3_1).f1)) 1 60 true _ A8.out).mono ?_
                    rintro e w' ⟨rfl, ⟨nd, rfl⟩⟩
                    refine ⟨_, rfl, ?_⟩
                    refine hK.out _ _ ⟨(by first | exact ((HB.out.cell (World.block_lt_of_cell? w _ hw112_0)).trans hw112_0) | exact ((HB.out.cell (World.block_lt_of_cell? w _ hv112_0)).trans hv112_0) | exact hx112_0), (by first | exact ((HB.out.cell (World.block_lt_of_cell? w _ hw112_1)).trans hw112_1) | exact ((HB.out.cell (World.block_lt_of_cell? w _ hv112_1)).trans hv112_1) | exact hx112_1), (by first | exact ((HB.out.cell (World.block_lt_of_cell? w _ hw112_2)).trans hw112_2) | exact ((HB.out.cell (World.block_lt_of_cell? w _ hv112_2)).trans hv112_2) | exact hx112_2), (by first | exact ((HB.out.cell (World.block_lt_of_cell? w _ hw112_3)).trans hw112_3) | exact ((HB.out.cell (World.block_lt_of_cell? w _ hv112_3)).trans hv112_3) | exact hx112_3), (by first | exact ((HB.out.cell (World.block_lt_of_cell? w _ hw114_0)).trans hw114_0) | exact ((HB.out.cell (World.block_lt_of_cell? w _ hv114_0)).trans hv114_0) | exact hx114_0), (by first | exact ((HB.out.cell (World.block_lt_of_cell? w _ hw114_1)).trans hw114_1) | exact ((HB.out.cell (World.block_lt_of_cell? w _ hv114_1)).trans hv114_1) | exact hx114_1), (by first | exact ((HB.out.cell (World.block_lt_of_cell? w _ hw114_2)).trans hw114_2) | exact ((HB.out.cell (World.block_lt_of_cell? w _ hv114_2)).trans hv114_2) | exact hx114_2), (by first | exact ((HB.out.cell (World.block_lt_of_cell? w _ hw114_3)).trans hw114_3) | exact ((HB.out.cell (World.block_lt_of_cell? w _ hv114_3)).trans hv114_3) | exact hx114_3), (by first | exact ((HB.out.cell (World.block_lt_of_cell? w _ hw116_0)).trans hw116_0) | exact ((HB.out.cell (World.block_lt_of_cell? w _ hv116_0)).trans hv116_0) | exact hx116_0), (by first | exact ((HB.out.cell (World.block_lt_of_cell? w _ hw116_1)).trans hw116_1) | exact ((HB.out.cell (World.block_lt_of_cell? w _ hv116_1)).trans hv116_1) | exact hx116_1), (by first | exact ((HB.out.cell (World.block_lt_of_cell? w _ hw116_2)).trans hw116_2) | exact ((HB.out.cell (World.block_lt_of_cell? w _ hv116_2)).trans hv116_2) | exact hx116_2), (by first | exact ((HB.out.cell (World.block_lt_of_cell? w _ hw116_3)).trans hw116_3) | exact ((HB.out.cell (World.block_lt_of_cell? w _ hv116_3)).trans hv116_3) | exact hx116_3), (by first | exact ((HB.out.cell (World.block_lt_of_cell? w _ hw118_0)).trans hw118_0) | exact ((HB.out.cell (World.block_lt_of_cell? w _ hv118_0)).trans hv118_0) | exact hx118_0), (by first | exact ((HB.out.cell (World.block_lt_of_cell? w _ hw118_1)).trans hw118_1) | exact ((HB.out.cell (World.block_lt_of_cell? w _ hv118_1)).trans hv118_1) | exact hx118_1), (by first | exact ((HB.out.cell (World.block_lt_of_cell? w _ hw118_2)).trans hw118_2) | exact ((HB.out.cell (World.block_lt_of_cell? w _ hv118_2)).trans hv118_2) | exact hx118_2), (by first | exact ((HB.out.cell (World.block_lt_of_cell? w _ hw118_3)).trans hw118_3) | exact ((HB.out.cell (World.block_lt_of_cell? w _ hv118_3)).trans hv118_3) | exact hx118_3), (by first | exact ((HB.out.cell (World.block_lt_of_cell? w _ hw119_0)).trans hw119_0) | exact ((HB.out.cell (World.block_lt_of_cell? w _ hv119_0)).trans hv119_0) | exact hx119_0), (by first | exact ((HB.out.cell (World.block_lt_of_cell? w _ hw119_1)).trans hw119_1) | exact ((HB.out.cell (World.block_lt_of_cell? w _ hv119_1)).trans hv119_1) | exact hx119_1), (by first | exact ((HB.out.cell (World.block_lt_of_cell? w _ hw119_2)).trans hw119_2) | exact ((HB.out.cell (World.block_lt_of_cell? w _ hv119_2)).trans hv119_2) | exact hx119_2), (by first | exact ((HB.out.cell (World.block_lt_of_cell? w _ hw119_3)).trans hw119_3) | exact ((HB.out.cell (World.block_lt_of_cell? w _ hv119_3)).trans hv119_3) | exact hx119_3)⟩ (fun hHeld => ?_)
                    clear hK K
                    refine norm_ (a' := ?_) ?_ ?_
                    rotate_left
                    · show Act.put _ (some 31) _ = _
                      simp only [Act.put, List.setIfInBounds_toArray, List.set_cons_zero, List.set_cons_succ, i64_w, i32_w]
                      rfl
                    refine pure_ (i := 14) (N := some 32) (v := ?_) (a' := ?_) #[true, true, true, true, true, true, true, true, true, true, true, true, true, true, true, false, false, false, false, false, false, false, false, false, false, false, false, false, false, false, false, false, false, false, false, false, false, false, false] rfl rfl (any_of HT_.out (by kernel_rfl)) (fun _ _ _ h => h) (Or.inl ⟨by rfl, ?_⟩) ?_ ?_
                    rotate_left
                    · intro w'
                      go_simp
                      with_reducible rfl
                    rotate_left
                    · simp only [Act.put, List.setIfInBounds_toArray, List.set_cons_zero, List.set_cons_succ, i64_w, i32_w]
                      rfl
                    refine pure_ (i := 15) (N := some 33) (v := ?_) (a' := ?_) #[true, true, true, true, true, true, true, true, true, true, true, true, true, true, true, true, false, false, false, false, false, false, false, false, false, false, false, false, false, false, false, false, false, false, false, false, false, false, false] rfl rfl (any_of HT_.out (by kernel_rfl)) (fun _ _ _ h => h) (Or.inl ⟨by rfl, ?_⟩) ?_ ?_
                    rotate_left
                    · intro w'
                      go_simp
                      with_reducible rfl
                    rotate_left
                    · simp only [Act.put, List.setIfInBounds_toArray, List.set_cons_zero, List.set_cons_succ, i64_w, i32_w]
                      rfl
                    refine pure_ (i := 16) (N := some 34) (v := ?_) (a' := ?_) #[true, true, true, true, true, true, true, true, true, true, true, true, true, true, true, true, true, false, false, false, false, false, false, false, false, false, false, false, false, false, false, false, false, false, false, false, false, false, false] rfl rfl (any_of HT_.out (by kernel_rfl)) (fun _ _ _ h => h) (Or.inl ⟨by rfl, ?_⟩) ?_ ?_
                    rotate_left
                    · intro w'
                      go_simp
                      with_reducible rfl
                    rotate_left
                    · simp only [Act.put, List.setIfInBounds_toArray, List.set_cons_zero, List.set_cons_succ, i64_w, i32_w]
                      rfl
                    refine pure_ (i := 17) (N := some 35) (v := ?_) (a' := ?_) #[true, true, true, true, true, true, true, true, true, true, true, true, true, true, true, true, true, true, false, false, false, false, false, false, false, false, false, false, false, false, false, false, false, false, false, false, false, false, false] rfl rfl (any_of HT_.out (by kernel_rfl)) (fun _ _ _ h => h) (Or.inl ⟨by rfl, ?_⟩) ?_ ?_
                    rotate_left
                    · intro w'
                      go_simp
                      with_reducible rfl
                    rotate_left
                    · simp only [Act.put, List.setIfInBounds_toArray, List.set_cons_zero, List.set_cons_succ, i64_w, i32_w]
                      rfl
                    refine pure_ (i := 18) (N := some 36) (v := ?_) (a' := ?_) #[true, true, true, true, true, true, true, true, true, true, true, true, true, true, true, true, true, true, true, false, false, false, false, false, false, false, false, false, false, false, false, false, false, false, false, false, false, false, false] rfl rfl (any_of HT_.out (by kernel_rfl)) (fun _ _ _ h => h) (Or.inl ⟨by rfl, ?_⟩) ?_ ?_
                    rotate_left
                    · intro w'
                      go_simp
                      with_reducible rfl
                    rotate_left
                    · simp only [Act.put, List.setIfInBounds_toArray, List.set_cons_zero, List.set_cons_succ, i64_w, i32_w]
                      rfl
                    refine pure_ (i := 19) (N := some 37) (v := ?_) (a' := ?_) #[true, true, true, true, true, true, true, true, true, true, true, true, true, true, true, true, true, true, true, true, false, false, false, false, false, false, false, false, false, false, false, false, false, false, false, false, false, false, false] rfl rfl (any_of HT_.out (by kernel_rfl)) (fun _ _ _ h => h) (Or.inl ⟨by rfl, ?_⟩) ?_ ?_
                    rotate_left
                    · intro w'
                      go_simp
                      with_reducible rfl
                    rotate_left
                    · simp only [Act.put, List.setIfInBounds_toArray, List.set_cons_zero, List.set_cons_succ, i64_w, i32_w]
                      rfl
                    refine take_ (i := 20) (N := some 38) (v := ?_) (a' := ?_) #[true, true, true, true, true, true, true, true, true, true, true, true, true, true, true, true, true, true, true, true, true, false, false, false, false, false, false, false, false, false, false, false, false, false, false, false, false, false, false] rfl rfl (take_ofW HT_.out HW_.out (by kernel_rfl)) (fun _ _ _ h => h) (Or.inl ⟨by rfl, ?_⟩) hHeld ?_ ?_
                    rotate_left
                    · rintro w' ⟨s0, s1, s2, s3, s4, s5, s6, s7, s8, s9, s10, s11, s12, s13, s14, s15, s16, s17, s18, s19⟩
                      go_simp
                      with_reducible rfl
                    rotate_left
                    · simp only [Act.put, List.setIfInBounds_toArray, List.set_cons_zero, List.set_cons_succ, i64_w, i32_w]
                      rfl
                    refine one_ (i := 21) (N := some 39) #[true, true, true, true, true, true, true, true, true, true, true, true, true, true, true, true, true, true, true, true, true, true, false, false, false, false, false, false, false, false, false, false, false, false, false, false, false, false, false] rfl rfl (one_of HT_.out (by kernel_rfl)) (by decide) (fun K hK => ?_)
                    refine goes_ Try.func94 (by kernel_rfl) rfl #[.slice A112_3 ((rd_T152 l0 x3_1).f3).length c112_3] (by rfl) rfl rfl (by (try simp only [List.map_toArray, List.map_cons, List.map_nil]); first | done | rfl | (simp only [List.length_drop, List.length_take]; rfl)) ?_
                    with_reducible refine (spec_l01Ok.calls k1 _ _ ((rd_T152 l0 x3_1).f3) true _ ?side1 ?side2 A10.out).mono ?_
                    (case side1 => repeat (first | exact (Kd.C_below HR116_3.out (by repeat (first | (with_reducible first | exact HB.out | apply below_alloc | apply pw_below_drewN | apply below_drew1) | exact HB.out))) | (with_reducible refine Kd.C_alloc ?_ _) | (with_reducible refine Kd.C_drewN ?_ _) | (with_reducible refine Kd.C_drew ?_)))
                    (case side2 => exact HC116_3.out)
                    rintro e w' ⟨rfl, ⟨nd, rfl⟩⟩
                    refine ⟨_, rfl, ?_⟩
                    refine hK.out _ _ ⟨(by first | exact ((HB.out.cell (World.block_lt_of_cell? w _ hw112_0)).trans hw112_0) | exact ((HB.out.cell (World.block_lt_of_cell? w _ hv112_0)).trans hv112_0) | exact hx112_0), (by first | exact ((HB.out.cell (World.block_lt_of_cell? w _ hw112_1)).trans hw112_1) | exact ((HB.out.cell (World.block_lt_of_cell? w _ hv112_1)).trans hv112_1) | exact hx112_1), (by first | exact ((HB.out.cell (World.block_lt_of_cell? w _ hw112_2)).trans hw112_2) | exact ((HB.out.cell (World.block_lt_of_cell? w _ hv112_2)).trans hv112_2) | exact hx112_2), (by first | exact ((HB.out.cell (World.block_lt_of_cell? w _ hw112_3)).trans hw112_3) | exact ((HB.out.cell (World.block_lt_of_cell? w _ hv112_3)).trans hv112_3) | exact hx112_3), (by first | exact ((HB.out.cell (World.block_lt_of_cell? w _ hw114_0)).trans hw114_0) | exact ((HB.out.cell (World.block_lt_of_cell? w _ hv114_0)).trans hv114_0) | exact hx114_0), (by first | exact ((HB.out.cell (World.block_lt_of_cell? w _ hw114_1)).trans hw114_1) | exact ((HB.out.cell (World.block_lt_of_cell? w _ hv114_1)).trans hv114_1) | exact hx114_1), (by first | exact ((HB.out.cell (World.block_lt_of_cell? w _ hw114_2)).trans hw114_2) | exact ((HB.out.cell (World.block_lt_of_cell? w _ hv114_2)).trans hv114_2) | exact hx114_2), (by first | exact ((HB.out.cell (World.block_lt_of_cell? w _ hw114_3)).trans hw114_3) | exact ((HB.out.cell (World.block_lt_of_cell? w _ hv114_3)).trans hv114_3) | exact hx114_3), (by first | exact ((HB.out.cell (World.block_lt_of_cell? w _ hw116_0)).trans hw116_0) | exact ((HB.out.cell (World.block_lt_of_cell? w _ hv116_0)).trans hv116_0) | exact hx116_0), (by first | exact ((HB.out.cell (World.block_lt_of_cell? w _ hw116_1)).trans hw116_1) | exact ((HB.out.cell (World.block_lt_of_cell? w _ hv116_1)).trans hv116_1) | exact hx116_1), (by first | exact ((HB.out.cell (World.block_lt_of_cell? w _ hw116_2)).trans hw116_2) | exact ((HB.out.cell (World.block_lt_of_cell? w _ hv116_2)).trans hv116_2) | exact hx116_2), (by first | exact ((HB.out.cell (World.block_lt_of_cell? w _ hw116_3)).trans hw116_3) | exact ((HB.out.cell (World.block_lt_of_cell? w _ hv116_3)).trans hv116_3) | exact hx116_3), (by first | exact ((HB.out.cell (World.block_lt_of_cell? w _ hw118_0)).trans hw118_0) | exact ((HB.out.cell (World.block_lt_of_cell? w _ hv118_0)).trans hv118_0) | exact hx118_0), (by first | exact ((HB.out.cell (World.block_lt_of_cell? w _ hw118_1)).trans hw118_1) | exact ((HB.out.cell (World.block_lt_of_cell? w _ hv118_1)).trans hv118_1) | exact hx118_1), (by first | exact ((HB.out.cell (World.block_lt_of_cell? w _ hw118_2)).trans hw118_2) | exact ((HB.out.cell (World.block_lt_of_cell? w _ hv118_2)).trans hv118_2) | exact hx118_2), (by first | exact ((HB.out.cell (World.block_lt_of_cell? w _ hw118_3)).trans hw118_3) | exact ((HB.out.cell (World.block_lt_of_cell? w _ hv118_3)).trans hv118_3) | exact hx118_3), (by first | exact ((HB.out.cell (World.block_lt_of_cell? w _ hw119_0)).trans hw119_0) | exact ((HB.out.cell (World.block_lt_of_cell? w _ hv119_0)).trans hv119_0) | exact hx119_0), (by first | exact ((HB.out.cell (World.block_lt_of_cell? w _ hw119_1)).trans hw119_1) | exact ((HB.out.cell (World.block_lt_of_cell? w _ hv119_1)).trans hv119_1) | exact hx119_1), (by first | exact ((HB.out.cell (World.block_lt_of_cell? w _ hw119_2)).trans hw119_2) | exact ((HB.out.cell (World.block_lt_of_cell? w _ hv119_2)).trans hv119_2) | exact hx119_2), (by first | exact ((HB.out.cell (World.block_lt_of_cell? w _ hw119_3)).trans hw119_3) | exact ((HB.out.cell (World.block_lt_of_cell? w _ hv119_3)).trans hv119_3) | exact hx119_3)⟩ (fun hHeld => ?_)
                    clear hK K
                    refine norm_ (a' := ?_) ?_ ?_
                    rotate_left
                    · show Act.put _ (some 39) _ = _
                      simp only [Act.put, List.setIfInBounds_toArray, List.set_cons_zero, List.set_cons_succ, i64_w, i32_w]
                      rfl
                    refine pure_ (i := 22) (N := some 40) (v := ?_) (a' := ?_) #[true, true, true, true, true, true, true, true, true, true, true, true, true, true, true, true, true, true, true, true, true, true, true, false, false, false, false, false, false, false, false, false, false, false, false, false, false, false, false] rfl rfl (any_of HT_.out (by kernel_rfl)) (fun _ _ _ h => h) (Or.inl ⟨by rfl, ?_⟩) ?_ ?_
                    rotate_left
                    · intro w'
                      go_simp
                      with_reducible rfl
                    rotate_left
                    · simp only [Act.put, List.setIfInBounds_toArray, List.set_cons_zero, List.set_cons_succ, i64_w, i32_w]
                      rfl
                    refine pure_ (i := 23) (N := some 41) (v := ?_) (a' := ?_) #[true, true, true, true, true, true, true, true, true, true, true, true, true, true, true, true, true, true, true, true, true, true, true, true, false, false, false, false, false, false, false, false, false, false, false, false, false, false, false] rfl rfl (any_of HT_.out (by kernel_rfl)) (fun _ _ _ h => h) (Or.inl ⟨by rfl, ?_⟩) ?_ ?_
                    rotate_left
                    · intro w'
                      go_simp
                      with_reducible rfl
                    rotate_left
                    · simp only [Act.put, List.setIfInBounds_toArray, List.set_cons_zero, List.set_cons_succ, i64_w, i32_w]
                      rfl
                    refine pure_ (i := 24) (N := some 42) (v := ?_) (a' := ?_) #[true, true, true, true, true, true, true, true, true, true, true, true, true, true, true, true, true, true, true, true, true, true, true, true, true, false, false, false, false, false, false, false, false, false, false, false, false, false, false] rfl rfl (any_of HT_.out (by kernel_rfl)) (fun _ _ _ h => h) (Or.inl ⟨by rfl, ?_⟩) ?_ ?_
                    rotate_left
                    · intro w'
                      go_simp
                      with_reducible rfl
                    rotate_left
                    · simp only [Act.put, List.setIfInBounds_toArray, List.set_cons_zero, List.set_cons_succ, i64_w, i32_w]
                      rfl
                    refine pure_ (i := 25) (N := some 43) (v := ?_) (a' := ?_) #[true, true, true, true, true, true, true, true, true, true, true, true, true, true, true, true, true, true, true, true, true, true, true, true, true, true, false, false, false, false, false, false, false, false, false, false, false, false, false] rfl rfl (any_of HT_.out (by kernel_rfl)) (fun _ _ _ h => h) (Or.inl ⟨by rfl, ?_⟩) ?_ ?_
                    rotate_left
                    · intro w'
                      go_simp
                      with_reducible rfl
                    rotate_left
                    · simp only [Act.put, List.setIfInBounds_toArray, List.set_cons_zero, List.set_cons_succ, i64_w, i32_w]
                      rfl
                    refine pure_ (i := 26) (N := some 44) (v := ?_) (a' := ?_) #[true, true, true, true, true, true, true, true, true, true, true, true, true, true, true, true, true, true, true, true, true, true, true, true, true, true, true, false, false, false, false, false, false, false, false, false, false, false, false] rfl rfl (any_of HT_.out (by kernel_rfl)) (fun _ _ _ h => h) (Or.inl ⟨by rfl, ?_⟩) ?_ ?_
                    rotate_left
                    · intro w'
                      go_simp
                      with_reducible rfl
                    rotate_left
                    · simp only [Act.put, List.setIfInBounds_toArray, List.set_cons_zero, List.set_cons_succ, i64_w, i32_w]
                      rfl
                    refine pure_ (i := 27) (N := some 45) (v := ?_) (a' := ?_) #[true, true, true, true, true, true, true, true, true, true, true, true, true, true, true, true, true, true, true, true, true, true, true, true, true, true, true, true, false, false, false, false, false, false, false, false, false, false, false] rfl rfl (any_of HT_.out (by kernel_rfl)) (fun _ _ _ h => h) (Or.inl ⟨by rfl, ?_⟩) ?_ ?_
                    rotate_left
                    · intro w'
                      go_simp
                      with_reducible rfl
                    rotate_left
                    · simp only [Act.put, List.setIfInBounds_toArray, List.set_cons_zero, List.set_cons_succ, i64_w, i32_w]
                      rfl
                    refine pure_ (i := 30) (N := some 48) (v := ?_) (a' := ?_) #[true, true, true, true, true, true, true, true, true, true, true, true, true, true, true, true, true, true, true, true, true, true, true, true, true, true, true, true, false, false, true, false, false, false, false, false, false, false, false] rfl rfl (any_of HT_.out (by kernel_rfl)) (fun _ _ _ h => h) (Or.inl ⟨by rfl, ?_⟩) ?_ ?_
                    rotate_left
                    · intro w'
                      go_simp
                      with_reducible rfl
                    rotate_left
                    · simp only [Act.put, List.setIfInBounds_toArray, List.set_cons_zero, List.set_cons_succ, i64_w, i32_w]
                      rfl
                    refine pure_ (i := 31) (N := some 49) (v := ?_) (a' := ?_) #[true, true, true, true, true, true, true, true, true, true, true, true, true, true, true, true, true, true, true, true, true, true, true, true, true, true, true, true, false, false, true, true, false, false, false, false, false, false, false] rfl rfl (any_of HT_.out (by kernel_rfl)) (fun _ _ _ h => h) (Or.inl ⟨by rfl, ?_⟩) ?_ ?_
                    rotate_left
                    · intro w'
                      go_simp
                      with_reducible rfl
                    rotate_left
                    · simp only [Act.put, List.setIfInBounds_toArray, List.set_cons_zero, List.set_cons_succ, i64_w, i32_w]
                      rfl
                    refine pure_ (i := 32) (N := some 50) (v := ?_) (a' := ?_) #[true, true, true, true, true, true, true, true, true, true, true, true, true, true, true, true, true, true, true, true, true, true, true, true, true, true, true, true, false, false, true, true, true, false, false, false, false, false, false] rfl rfl (any_of HT_.out (by kernel_rfl)) (fun _ _ _ h => h) (Or.inl ⟨by rfl, ?_⟩) ?_ ?_
                    rotate_left
                    · intro w'
                      go_simp
                      with_reducible rfl
                    rotate_left
                    · simp only [Act.put, List.setIfInBounds_toArray, List.set_cons_zero, List.set_cons_succ, i64_w, i32_w]
                      rfl
                    refine take_ (i := 28) (N := some 46) (v := ?_) (a' := ?_) #[true, true, true, true, true, true, true, true, true, true, true, true, true, true, true, true, true, true, true, true, true, true, true, true, true, true, true, true, true, false, true, true, true, false, false, false, false, false, false] rfl rfl (take_ofW HT_.out HW_.out (by kernel_rfl)) (fun _ _ _ h => h) (Or.inl ⟨by rfl, ?_⟩) hHeld ?_ ?_
                    rotate_left
                    · rintro w' ⟨s0, s1, s2, s3, s4, s5, s6, s7, s8, s9, s10, s11, s12, s13, s14, s15, s16, s17, s18, s19⟩
                      go_simp
                      with_reducible rfl
                    rotate_left
                    · simp only [Act.put, List.setIfInBounds_toArray, List.set_cons_zero, List.set_cons_succ, i64_w, i32_w]
                      rfl
                    refine pure_ (i := 29) (N := some 47) (v := ?_) (a' := ?_) #[true, true, true, true, true, true, true, true, true, true, true, true, true, true, true, true, true, true, true, true, true, true, true, true, true, true, true, true, true, true, true, true, true, false, false, false, false, false, false] rfl rfl (any_of HT_.out (by kernel_rfl)) (fun _ _ _ h => h) (Or.inl ⟨by rfl, ?_⟩) ?_ ?_
                    rotate_left
                    · intro w'
                      go_simp
                      with_reducible rfl
                    rotate_left
                    · simp only [Act.put, List.setIfInBounds_toArray, List.set_cons_zero, List.set_cons_succ, i64_w, i32_w]
                      rfl
                    refine take_ (i := 33) (N := some 51) (v := ?_) (a' := ?_) #[true, true, true, true, true, true, true, true, true, true, true, true, true, true, true, true, true, true, true, true, true, true, true, true, true, true, true, true, true, true, true, true, true, true, false, false, false, false, false] rfl rfl (take_ofW HT_.out HW_.out (by kernel_rfl)) (fun _ _ _ h => h) (Or.inl ⟨by rfl, ?_⟩) hHeld ?_ ?_
                    rotate_left
                    · rintro w' ⟨s0, s1, s2, s3, s4, s5, s6, s7, s8, s9, s10, s11, s12, s13, s14, s15, s16, s17, s18, s19⟩
                      go_simp
                      with_reducible rfl
                    rotate_left
                    · simp only [Act.put, List.setIfInBounds_toArray, List.set_cons_zero, List.set_cons_succ, i64_w, i32_w]
                      rfl
                    refine pure_ (i := 34) (N := some 52) (v := ?_) (a' := ?_) #[true, true, true, true, true, true, true, true, true, true, true, true, true, true, true, true, true, true, true, true, true, true, true, true, true, true, true, true, true, true, true, true, true, true, true, false, false, false, false] rfl rfl (any_of HT_.out (by kernel_rfl)) (fun _ _ _ h => h) (Or.inl ⟨by rfl, ?_⟩) ?_ ?_
                    rotate_left
                    · intro w'
                      go_simp
                      with_reducible rfl
                    rotate_left
                    · simp only [Act.put, List.setIfInBounds_toArray, List.set_cons_zero, List.set_cons_succ, i64_w, i32_w]
                      rfl
                    refine pure_ (i := 35) (N := some 53) (v := ?_) (a' := ?_) #[true, true, true, true, true, true, true, true, true, true, true, true, true, true, true, true, true, true, true, true, true, true, true, true, true, true, true, true, true, true, true, true, true, true, true, true, false, false, false] rfl rfl (any_of HT_.out (by kernel_rfl)) (fun _ _ _ h => h) (Or.inl ⟨by rfl, ?_⟩) ?_ ?_
                    rotate_left
                    · intro w'
                      go_simp
                      with_reducible rfl
                    rotate_left
                    · simp only [Act.put, List.setIfInBounds_toArray, List.set_cons_zero, List.set_cons_succ, i64_w, i32_w]
                      rfl
                    refine one_ (i := 36) (N := some 54) #[true, true, true, true, true, true, true, true, true, true, true, true, true, true, true, true, true, true, true, true, true, true, true, true, true, true, true, true, true, true, true, true, true, true, true, true, true, false, false] rfl rfl (one_of HT_.out (by kernel_rfl)) (by decide) (fun K hK => ?_)
                    refine goes_ Try.func99 (by kernel_rfl) rfl #[.int .i64 (wrap64 ((rd_T152 l0 x3_1).f2)), .int .i64 0, .int .i64 (wrap64 ((((rd_T152 l0 x3_1).f3).length : Int) - 1))] (by rfl) rfl rfl (by (try simp only [List.map_toArray, List.map_cons, List.map_nil]); first | done | rfl | (simp only [List.length_drop, List.length_take]; rfl)) ?_
                    with_reducible refine (spec_l00In.calls (wrap64 ((rd_T152 l0 x3_1).f2)) 0 (wrap64 ((((rd_T152 l0 x3_1).f3).length : Int) - 1)) false _ A12.out).mono ?_
                    rintro e w' ⟨rfl, ⟨nd, rfl⟩⟩
                    refine ⟨_, rfl, ?_⟩
                    refine hK.out _ _ ⟨(by first | exact ((HB.out.cell (World.block_lt_of_cell? w _ hw112_0)).trans hw112_0) | exact ((HB.out.cell (World.block_lt_of_cell? w _ hv112_0)).trans hv112_0) | exact hx112_0), (by first | exact ((HB.out.cell (World.block_lt_of_cell? w _ hw112_1)).trans hw112_1) | exact ((HB.out.cell (World.block_lt_of_cell? w _ hv112_1)).trans hv112_1) | exact hx112_1), (by first | exact ((HB.out.cell (World.block_lt_of_cell? w _ hw112_2)).trans hw112_2) | exact ((HB.out.cell (World.block_lt_of_cell? w _ hv112_2)).trans hv112_2) | exact hx112_2), (by first | exact ((HB.out.cell (World.block_lt_of_cell? w _ hw112_3)).trans hw112_3) | exact ((HB.out.cell (World.block_lt_of_cell? w _ hv112_3)).trans hv112_3) | exact hx112_3), (by first | exact ((HB.out.cell (World.block_lt_of_cell? w _ hw114_0)).trans hw114_0) | exact ((HB.out.cell (World.block_lt_of_cell? w _ hv114_0)).trans hv114_0) | exact hx114_0), (by first | exact ((HB.out.cell (World.block_lt_of_cell? w _ hw114_1)).trans hw114_1) | exact ((HB.out.cell (World.block_lt_of_cell? w _ hv114_1)).trans hv114_1) | exact hx114_1), (by first | exact ((HB.out.cell (World.block_lt_of_cell? w _ hw114_2)).trans hw114_2) | exact ((HB.out.cell (World.block_lt_of_cell? w _ hv114_2)).trans hv114_2) | exact hx114_2), (by first | exact ((HB.out.cell (World.block_lt_of_cell? w _ hw114_3)).trans hw114_3) | exact ((HB.out.cell (World.block_lt_of_cell? w _ hv114_3)).trans hv114_3) | exact hx114_3), (by first | exact ((HB.out.cell (World.block_lt_of_cell? w _ hw116_0)).trans hw116_0) | exact ((HB.out.cell (World.block_lt_of_cell? w _ hv116_0)).trans hv116_0) | exact hx116_0), (by first | exact ((HB.out.cell (World.block_lt_of_cell? w _ hw116_1)).trans hw116_1) | exact ((HB.out.cell (World.block_lt_of_cell? w _ hv116_1)).trans hv116_1) | exact hx116_1), (by first | exact ((HB.out.cell (World.block_lt_of_cell? w _ hw116_2)).trans hw116_2) | exact ((HB.out.cell (World.block_lt_of_cell? w _ hv116_2)).trans hv116_2) | exact hx116_2), (by first | exact ((HB.out.cell (World.block_lt_of_cell? w _ hw116_3)).trans hw116_3) | exact ((HB.out.cell (World.block_lt_of_cell? w _ hv116_3)).trans hv116_3) | exact hx116_3), (by first | exact ((HB.out.cell (World.block_lt_of_cell? w _ hw118_0)).trans hw118_0) | exact ((HB.out.cell (World.block_lt_of_cell? w _ hv118_0)).trans hv118_0) | exact hx118_0), (by first | exact ((HB.out.cell (World.block_lt_of_cell? w _ hw118_1)).trans hw118_1) | exact ((HB.out.cell (World.block_lt_of_cell? w _ hv118_1)).trans hv118_1) | exact hx118_1), (by first | exact ((HB.out.cell (World.block_lt_of_cell? w _ hw118_2)).trans hw118_2) | exact ((HB.out.cell (World.block_lt_of_cell? w _ hv118_2)).trans hv118_2) | exact hx118_2), (by first | exact ((HB.out.cell (World.block_lt_of_cell? w _ hw118_3)).trans hw118_3) | exact ((HB.out.cell (World.block_lt_of_cell? w _ hv118_3)).trans hv118_3) | exact hx118_3), (by first | exact ((HB.out.cell (World.block_lt_of_cell? w _ hw119_0)).trans hw119_0) | exact ((HB.out.cell (World.block_lt_of_cell? w _ hv119_0)).trans hv119_0) | exact hx119_0), (by first | exact ((HB.out.cell (World.block_lt_of_cell? w _ hw119_1)).trans hw119_1) | exact ((HB.out.cell (World.block_lt_of_cell? w _ hv119_1)).trans hv119_1) | exact hx119_1), (by first | exact ((HB.out.cell (World.block_lt_of_cell? w _ hw119_2)).trans hw119_2) | exact ((HB.out.cell (World.block_lt_of_cell? w _ hv119_2)).trans hv119_2) | exact hx119_2), (by first | exact ((HB.out.cell (World.block_lt_of_cell? w _ hw119_3)).trans hw119_3) | exact ((HB.out.cell (World.block_lt_of_cell? w _ hv119_3)).trans hv119_3) | exact hx119_3)⟩ (fun hHeld => ?_)
                    clear hK K
                    refine norm_ (a' := ?_) ?_ ?_
                    rotate_left
                    · show Act.put _ (some 54) _ = _
                      simp only [Act.put, List.setIfInBounds_toArray, List.set_cons_zero, List.set_cons_succ, i64_w, i32_w]
                      rfl
                    refine pure_ (i := 37) (N := some 55) (v := ?_) (a' := ?_) #[true, true, true, true, true, true, true, true, true, true, true, true, true, true, true, true, true, true, true, true, true, true, true, true, true, true, true, true, true, true, true, true, true, true, true, true, true, true, false] rfl rfl (any_of HT_.out (by kernel_rfl)) (fun _ _ _ h => h) (Or.inl ⟨by rfl, ?_⟩) ?_ ?_
                    rotate_left
                    · intro w'
                      go_simp
                      with_reducible rfl
                    rotate_left
                    · simp only [Act.put, List.setIfInBounds_toArray, List.set_cons_zero, List.set_cons_succ, i64_w, i32_w]
                      rfl
                    refine pure_ (i := 38) (N := some 56) (v := ?_) (a' := ?_) #[true, true, true, true, true, true, true, true, true, true, true, true, true, true, true, true, true, true, true, true, true, true, true, true, true, true, true, true, true, true, true, true, true, true, true, true, true, true, true] rfl rfl (any_of HT_.out (by kernel_rfl)) (fun _ _ _ h => h) (Or.inl ⟨by rfl, ?_⟩) ?_ ?_
                    rotate_left
                    · intro w'
                      go_simp
                      with_reducible rfl
                    rotate_left
                    · simp only [Act.put, List.setIfInBounds_toArray, List.set_cons_zero, List.set_cons_succ, i64_w, i32_w]
                      rfl
                    refine done_ (done_of HT_.out (by kernel_rfl)) ?_
                    try go_wp2
                    go_ret
                    exact ⟨by first | rfl | (simp [errW_none, errW_some] <;> rfl) | (simp [*, errW_none, errW_some] <;> rfl), by repeat (first | (with_reducible first | exact HB.out | apply below_alloc | apply pw_below_drewN | apply below_drew1) | exact HB.out)⟩
                · replace c11 := Bool.eq_false_iff.mpr c11
                  subst c11
                  have H1 : (some false) = some r := by rw [if_neg (show ¬ (false = true) by decide)] at H; exact H
                  clear H
                  have H := H1
                  clear H1
                  obtain rfl := Option.some.inj H
                  have p111 : 0 ≤ (x3_1 : Int) := of_decide_eq_true (by first | (with_reducible assumption) | assumption)
                  have q111 : x3_1 < (l0.length : Int) := of_decide_eq_true (by first | (with_reducible assumption) | assumption)
                  obtain ⟨ad111, A111_3, c111_3, e111, hx111_0, hx111_1, hx111_2, hx111_3, hl111_3, hi111_3⟩ := at_T152 HR0.out x3_1 p111 q111
                  cases e111
                  replace hx111_0 := (HB.out.cell (World.block_lt_of_cell? w _ hx111_0)).trans hx111_0
                  replace hx111_1 := (HB.out.cell (World.block_lt_of_cell? w _ hx111_1)).trans hx111_1
                  replace hx111_2 := (HB.out.cell (World.block_lt_of_cell? w _ hx111_2)).trans hx111_2
                  replace hx111_3 := (HB.out.cell (World.block_lt_of_cell? w _ hx111_3)).trans hx111_3
                  have HR111_3 := Aside0.mk hi111_3
                  have HC111_3 := Aside0.mk hl111_3
                  clear hi111_3 hl111_3
                  replace p111 := eq_true p111
                  replace q111 := eq_true q111
                  try go_wp2
                  have n0_ := Aside0.mk (below_drew1 HB.out)
                  clear HB
                  have HB := n0_
                  clear n0_
                  have p112 : 0 ≤ (x3_1 : Int) := of_decide_eq_true (by first | (with_reducible assumption) | assumption)
                  have q112 : x3_1 < (l0.length : Int) := of_decide_eq_true (by first | (with_reducible assumption) | assumption)
                  obtain ⟨ad112, A112_3, c112_3, e112, hx112_0, hx112_1, hx112_2, hx112_3, hl112_3, hi112_3⟩ := at_T152 HR0.out x3_1 p112 q112
                  have hw112_3 := hx112_3
                  have hw112_2 := hx112_2
                  have hw112_1 := hx112_1
                  have hw112_0 := hx112_0
                  obtain rfl : ad111 = ad112 := (by injection e112)
                  replace hx112_0 := (HB.out.cell (World.block_lt_of_cell? w _ hx112_0)).trans hx112_0
                  replace hx112_1 := (HB.out.cell (World.block_lt_of_cell? w _ hx112_1)).trans hx112_1
                  replace hx112_2 := (HB.out.cell (World.block_lt_of_cell? w _ hx112_2)).trans hx112_2
                  replace hx112_3 := (HB.out.cell (World.block_lt_of_cell? w _ hx112_3)).trans hx112_3
                  have HR112_3 := Aside0.mk hi112_3
                  have HC112_3 := Aside0.mk hl112_3
                  clear hi112_3 hl112_3
                  replace p112 := eq_true p112
                  replace q112 := eq_true q112
                  have p114 : 0 ≤ (x3_1 : Int) := of_decide_eq_true (by first | (with_reducible assumption) | assumption)
                  have q114 : x3_1 < (l0.length : Int) := of_decide_eq_true (by first | (with_reducible assumption) | assumption)
                  obtain ⟨ad114, A114_3, c114_3, e114, hx114_0, hx114_1, hx114_2, hx114_3, hl114_3, hi114_3⟩ := at_T152 HR0.out x3_1 p114 q114
                  have hw114_3 := hx114_3
                  have hw114_2 := hx114_2
                  have hw114_1 := hx114_1
                  have hw114_0 := hx114_0
                  obtain rfl : ad111 = ad114 := (by injection e114)
                  replace hx114_0 := (HB.out.cell (World.block_lt_of_cell? w _ hx114_0)).trans hx114_0
                  replace hx114_1 := (HB.out.cell (World.block_lt_of_cell? w _ hx114_1)).trans hx114_1
                  replace hx114_2 := (HB.out.cell (World.block_lt_of_cell? w _ hx114_2)).trans hx114_2
                  replace hx114_3 := (HB.out.cell (World.block_lt_of_cell? w _ hx114_3)).trans hx114_3
                  have HR114_3 := Aside0.mk hi114_3
                  have HC114_3 := Aside0.mk hl114_3
                  clear hi114_3 hl114_3
                  replace p114 := eq_true p114
                  replace q114 := eq_true q114
                  have ea_ := Option.some.inj (hx112_3.symm.trans hx114_3)
                  injection ea_ with ea_ en_ ec_
                  subst ea_
                  subst ec_
                  clear en_
                  have p116 : 0 ≤ (x3_1 : Int) := of_decide_eq_true (by first | (with_reducible assumption) | assumption)
                  have q116 : x3_1 < (l0.length : Int) := of_decide_eq_true (by first | (with_reducible assumption) | assumption)
                  obtain ⟨ad116, A116_3, c116_3, e116, hx116_0, hx116_1, hx116_2, hx116_3, hl116_3, hi116_3⟩ := at_T152 HR0.out x3_1 p116 q116
                  have hw116_3 := hx116_3
                  have hw116_2 := hx116_2
                  have hw116_1 := hx116_1
                  have hw116_0 := hx116_0
                  obtain rfl : ad111 = ad116 := (by injection e116)
                  replace hx116_0 := (HB.out.cell (World.block_lt_of_cell? w _ hx116_0)).trans hx116_0
                  replace hx116_1 := (HB.out.cell (World.block_lt_of_cell? w _ hx116_1)).trans hx116_1
                  replace hx116_2 := (HB.out.cell (World.block_lt_of_cell? w _ hx116_2)).trans hx116_2
                  replace hx116_3 := (HB.out.cell (World.block_lt_of_cell? w _ hx116_3)).trans hx116_3
                  have HR116_3 := Aside0.mk hi116_3
                  have HC116_3 := Aside0.mk hl116_3
                  clear hi116_3 hl116_3
                  replace p116 := eq_true p116
                  replace q116 := eq_true q116
                  have ea_ := Option.some.inj (hx112_3.symm.trans hx116_3)
                  injection ea_ with ea_ en_ ec_
                  subst ea_
                  subst ec_
                  clear en_
                  refine start_ (n := 39) (S := fun w' => w'.cell? (ad111.add ((x3_1).toNat * 4)) = some (.int .i16 ((rd_T152 l0 x3_1).f0)) ∧ w'.cell? ⟨(ad111.add ((x3_1).toNat * 4)).block, (ad111.add ((x3_1).toNat * 4)).off + 1, none⟩ = some (.int .i16 ((rd_T152 l0 x3_1).f1)) ∧ w'.cell? ⟨(ad111.add ((x3_1).toNat * 4)).block, (ad111.add ((x3_1).toNat * 4)).off + 2, none⟩ = some (.int .i16 ((rd_T152 l0 x3_1).f2)) ∧ w'.cell? ⟨(ad111.add ((x3_1).toNat * 4)).block, (ad111.add ((x3_1).toNat * 4)).off + 3, none⟩ = some (.slice A112_3 ((rd_T152 l0 x3_1).f3).length c112_3) ∧ w'.cell? (ad111.add ((x3_1).toNat * 4)) = some (.int .i16 ((rd_T152 l0 x3_1).f0)) ∧ w'.cell? ⟨(ad111.add ((x3_1).toNat * 4)).block, (ad111.add ((x3_1).toNat * 4)).off + 1, none⟩ = some (.int .i16 ((rd_T152 l0 x3_1).f1)) ∧ w'.cell? ⟨(ad111.add ((x3_1).toNat * 4)).block, (ad111.add ((x3_1).toNat * 4)).off + 2, none⟩ = some (.int .i16 ((rd_T152 l0 x3_1).f2)) ∧ w'.cell? ⟨(ad111.add ((x3_1).toNat * 4)).block, (ad111.add ((x3_1).toNat * 4)).off + 3, none⟩ = some (.slice A112_3 ((rd_T152 l0 x3_1).f3).length c112_3) ∧ w'.cell? (ad111.add ((x3_1).toNat * 4)) = some (.int .i16 ((rd_T152 l0 x3_1).f0)) ∧ w'.cell? ⟨(ad111.add ((x3_1).toNat * 4)).block, (ad111.add ((x3_1).toNat * 4)).off + 1, none⟩ = some (.int .i16 ((rd_T152 l0 x3_1).f1)) ∧ w'.cell? ⟨(ad111.add ((x3_1).toNat * 4)).block, (ad111.add ((x3_1).toNat * 4)).off + 2, none⟩ = some (.int .i16 ((rd_T152 l0 x3_1).f2)) ∧ w'.cell? ⟨(ad111.add ((x3_1).toNat * 4)).block, (ad111.add ((x3_1).toNat * 4)).off + 3, none⟩ = some (.slice A112_3 ((rd_T152 l0 x3_1).f3).length c112_3)) (ds := []) #[false, false, false, false, false, false, false, false, false, false, false, false, false, false, false, false, false, false, false, false, false, false, false, false, false, false, false, false, false, false, false, false, false, false, false, false, false, false, false] (by kernel_rfl) rfl rfl ⟨(by first | exact ((HB.out.cell (World.block_lt_of_cell? w _ hw112_0)).trans hw112_0) | exact ((HB.out.cell (World.block_lt_of_cell? w _ hv112_0)).trans hv112_0) | exact hx112_0), (by first | exact ((HB.out.cell (World.block_lt_of_cell? w _ hw112_1)).trans hw112_1) | exact ((HB.out.cell (World.block_lt_of_cell? w _ hv112_1)).trans hv112_1) | exact hx112_1), (by first | exact ((HB.out.cell (World.block_lt_of_cell? w _ hw112_2)).trans hw112_2) | exact ((HB.out.cell (World.block_lt_of_cell? w _ hv112_2)).trans hv112_2) | exact hx112_2), (by first | exact ((HB.out.cell (World.block_lt_of_cell? w _ hw112_3)).trans hw112_3) | exact ((HB.out.cell (World.block_lt_of_cell? w _ hv112_3)).trans hv112_3) | exact hx112_3), (by first | exact ((HB.out.cell (World.block_lt_of_cell? w _ hw114_0)).trans hw114_0) | exact ((HB.out.cell (World.block_lt_of_cell? w _ hv114_0)).trans hv114_0) | exact hx114_0), (by first | exact ((HB.out.cell (World.block_lt_of_cell? w _ hw114_1)).trans hw114_1) | exact ((HB.out.cell (World.block_lt_of_cell? w _ hv114_1)).trans hv114_1) | exact hx114_1), (by first | exact ((HB.out.cell (World.block_lt_of_cell? w _ hw114_2)).trans hw114_2) | exact ((HB.out.cell (World.block_lt_of_cell? w _ hv114_2)).trans hv114_2) | exact hx114_2), (by first | exact ((HB.out.cell (World.block_lt_of_cell? w _ hw114_3)).trans hw114_3) | exact ((HB.out.cell (World.block_lt_of_cell? w _ hv114_3)).trans hv114_3) | exact hx114_3), (by first | exact ((HB.out.cell (World.block_lt_of_cell? w _ hw116_0)).trans hw116_0) | exact ((HB.out.cell (World.block_lt_of_cell? w _ hv116_0)).trans hv116_0) | exact hx116_0), (by first | exact ((HB.out.cell (World.block_lt_of_cell? w _ hw116_1)).trans hw116_1) | exact ((HB.out.cell (World.block_lt_of_cell? w _ hv116_1)).trans hv116_1) | exact hx116_1), (by first | exact ((HB.out.cell (World.block_lt_of_cell? w _ hw116_2)).trans hw116_2) | exact ((HB.out.cell (World.block_lt_of_cell? w _ hv116_2)).trans hv116_2) | exact hx116_2), (by first | exact ((HB.out.cell (World.block_lt_of_cell? w _ hw116_3)).trans hw116_3) | exact ((HB.out.cell (World.block_lt_of_cell? w _ hv116_3)).trans hv116_3) | exact hx116_3)⟩ (fun hHeld => ?_); refine with_tabW spec_l04Ok.tab7 spec_l04Ok.bits7 (fun HT_ HW_ => ?_)
                  generalize wr.drew = w16 at HB HR112_3 HR114_3 HR116_3 hx112_0 hx112_1 hx112_2 hx112_3 hx114_0 hx114_1 hx114_2 hx114_3 hx116_0 hx116_1 hx116_2 hx116_3 hHeld ⊢
                  refine pure_ (i := 0) (N := some 18) (v := ?_) (a' := ?_) #[true, false, false, false, false, false, false, false, false, false, false, false, false, false, false, false, false, false, false, false, false, false, false, false, false, false, false, false, false, false, false, false, false, false, false, false, false, false, false] rfl rfl (any_of HT_.out (by kernel_rfl)) (fun _ _ _ h => h) (Or.inl ⟨by rfl, ?_⟩) ?_ ?_
                  rotate_left
                  · intro w'
                    go_simp
                    with_reducible rfl
                  rotate_left
                  · simp only [Act.put, List.setIfInBounds_toArray, List.set_cons_zero, List.set_cons_succ, i64_w, i32_w]
                    rfl
                  refine pure_ (i := 1) (N := some 19) (v := ?_) (a' := ?_) #[true, true, false, false, false, false, false, false, false, false, false, false, false, false, false, false, false, false, false, false, false, false, false, false, false, false, false, false, false, false, false, false, false, false, false, false, false, false, false] rfl rfl (any_of HT_.out (by kernel_rfl)) (fun _ _ _ h => h) (Or.inl ⟨by rfl, ?_⟩) ?_ ?_
                  rotate_left
                  · intro w'
                    go_simp
                    with_reducible rfl
                  rotate_left
                  · simp only [Act.put, List.setIfInBounds_toArray, List.set_cons_zero, List.set_cons_succ, i64_w, i32_w]
                    rfl
                  refine pure_ (i := 2) (N := some 20) (v := ?_) (a' := ?_) #[true, true, true, false, false, false, false, false, false, false, false, false, false, false, false, false, false, false, false, false, false, false, false, false, false, false, false, false, false, false, false, false, false, false, false, false, false, false, false] rfl rfl (any_of HT_.out (by kernel_rfl)) (fun _ _ _ h => h) (Or.inl ⟨by rfl, ?_⟩) ?_ ?_
                  rotate_left
                  · intro w'
                    go_simp
                    with_reducible rfl
                  rotate_left
                  · simp only [Act.put, List.setIfInBounds_toArray, List.set_cons_zero, List.set_cons_succ, i64_w, i32_w]
                    rfl
                  refine take_ (i := 3) (N := some 21) (v := ?_) (a' := ?_) #[true, true, true, true, false, false, false, false, false, false, false, false, false, false, false, false, false, false, false, false, false, false, false, false, false, false, false, false, false, false, false, false, false, false, false, false, false, false, false] rfl rfl (take_ofW HT_.out HW_.out (by kernel_rfl)) (fun _ _ _ h => h) (Or.inl ⟨by rfl, ?_⟩) hHeld ?_ ?_
                  rotate_left
                  · rintro w' ⟨s0, s1, s2, s3, s4, s5, s6, s7, s8, s9, s10, s11⟩
                    go_simp
                    with_reducible rfl
                  rotate_left
                  · simp only [Act.put, List.setIfInBounds_toArray, List.set_cons_zero, List.set_cons_succ, i64_w, i32_w]
                    rfl
                  refine pure_ (i := 4) (N := some 22) (v := ?_) (a' := ?_) #[true, true, true, true, true, false, false, false, false, false, false, false, false, false, false, false, false, false, false, false, false, false, false, false, false, false, false, false, false, false, false, false, false, false, false, false, false, false, false] rfl rfl (any_of HT_.out (by kernel_rfl)) (fun _ _ _ h => h) (Or.inl ⟨by rfl, ?_⟩) ?_ ?_
                  rotate_left
                  · intro w'
                    go_simp
                    with_reducible rfl
                  rotate_left
                  · simp only [Act.put, List.setIfInBounds_toArray, List.set_cons_zero, List.set_cons_succ, i64_w, i32_w]
                    rfl
                  refine one_ (i := 5) (N := some 23) #[true, true, true, true, true, true, false, false, false, false, false, false, false, false, false, false, false, false, false, false, false, false, false, false, false, false, false, false, false, false, false, false, false, false, false, false, false, false, false] rfl rfl (one_of HT_.out (by kernel_rfl)) (by decide) (fun K hK => ?_)
                  refine goes_ Try.func99 (by kernel_rfl) rfl #[.int .i64 (wrap64 ((rd_T152 l0 x3_1).f0)), .int .i64 1, .int .i64 60] (by rfl) rfl rfl (by (try simp only [List.map_toArray, List.map_cons, List.map_nil]); first | done | rfl | (simp only [List.length_drop, List.length_take]; rfl)) ?_
                  with_reducible refine (spec_l00In.calls (wrap64 ((rd_T152 l0 x3_1).f0)) 1 60 true _ A6.out).mono ?_
                  rintro e w' ⟨rfl, ⟨nd, rfl⟩⟩
                  refine ⟨_, rfl, ?_⟩
                  refine hK.out _ _ ⟨(by first | exact ((HB.out.cell (World.block_lt_of_cell? w _ hw112_0)).trans hw112_0) | exact ((HB.out.cell (World.block_lt_of_cell? w _ hv112_0)).trans hv112_0) | exact hx112_0), (by first | exact ((HB.out.cell (World.block_lt_of_cell? w _ hw112_1)).trans hw112_1) | exact ((HB.out.cell (World.block_lt_of_cell? w _ hv112_1)).trans hv112_1) | exact hx112_1), (by first | exact ((HB.out.cell (World.block_lt_of_cell? w _ hw112_2)).trans hw112_2) | exact ((HB.out.cell (World.block_lt_of_cell? w _ hv112_2)).trans hv112_2) | exact hx112_2), (by first | exact ((HB.out.cell (World.block_lt_of_cell? w _ hw112_3)).trans hw112_3) | exact ((HB.out.cell (World.block_lt_of_cell? w _ hv112_3)).trans hv112_3) | exact hx112_3), (by first | exact ((HB.out.cell (World.block_lt_of_cell? w _ hw114_0)).trans hw114_0) | exact ((HB.out.cell (World.block_lt_of_cell? w _ hv114_0)).trans hv114_0) | exact hx114_0), (by first | exact ((HB.out.cell (World.block_lt_of_cell? w _ hw114_1)).trans hw114_1) | exact ((HB.out.cell (World.block_lt_of_cell? w _ hv114_1)).trans hv114_1) | exact hx114_1), (by first | exact ((HB.out.cell (World.block_lt_of_cell? w _ hw114_2)).trans hw114_2) | exact ((HB.out.cell (World.block_lt_of_cell? w _ hv114_2)).trans hv114_2) | exact hx114_2), (by first | exact ((HB.out.cell (World.block_lt_of_cell? w _ hw114_3)).trans hw114_3) | exact ((HB.out.cell (World.block_lt_of_cell? w _ hv114_3)).trans hv114_3) | exact hx114_3), (by first | exact ((HB.out.cell (World.block_lt_of_cell? w _ hw116_0)).trans hw116_0) | exact ((HB.out.cell (World.block_lt_of_cell? w _ hv116_0)).trans hv116_0) | exact hx116_0), (by first | exact ((HB.out.cell (World.block_lt_of_cell? w _ hw116_1)).trans hw116_1) | exact ((HB.out.cell (World.block_lt_of_cell? w _ hv116_1)).trans hv116_1) | exact hx116_1), (by first | exact ((HB.out.cell (World.block_lt_of_cell? w _ hw116_2)).trans hw116_2) | exact ((HB.out.cell (World.block_lt_of_cell? w _ hv116_2)).trans hv116_2) | exact hx116_2), (by first | exact ((HB.out.cell (World.block_lt_of_cell? w _ hw116_3)).trans hw116_3) | exact ((HB.out.cell (World.block_lt_of_cell? w _ hv116_3)).trans hv116_3) | exact hx116_3)⟩ (fun hHeld => ?_)
                  clear hK K
                  refine norm_ (a' := ?_) ?_ ?_
                  rotate_left
                  · show Act.put _ (some 23) _ = _
                    simp only [Act.put, List.setIfInBounds_toArray, List.set_cons_zero, List.set_cons_succ, i64_w, i32_w]
                    rfl
                  refine pure_ (i := 6) (N := some 24) (v := ?_) (a' := ?_) #[true, true, true, true, true, true, true, false, false, false, false, false, false, false, false, false, false, false, false, false, false, false, false, false, false, false, false, false, false, false, false, false, false, false, false, false, false, false, false] rfl rfl (any_of HT_.out (by kernel_rfl)) (fun _ _ _ h => h) (Or.inl ⟨by rfl, ?_⟩) ?_ ?_
                  rotate_left
                  · intro w'
                    go_simp
                    with_reducible rfl
                  rotate_left
                  · simp only [Act.put, List.setIfInBounds_toArray, List.set_cons_zero, List.set_cons_succ, i64_w, i32_w]
                    rfl
                  refine pure_ (i := 7) (N := some 25) (v := ?_) (a' := ?_) #[true, true, true, true, true, true, true, true, false, false, false, false, false, false, false, false, false, false, false, false, false, false, false, false, false, false, false, false, false, false, false, false, false, false, false, false, false, false, false] rfl rfl (any_of HT_.out (by kernel_rfl)) (fun _ _ _ h => h) (Or.inl ⟨by rfl, ?_⟩) ?_ ?_
                  rotate_left
                  · intro w'
                    go_simp
                    with_reducible rfl
                  rotate_left
                  · simp only [Act.put, List.setIfInBounds_toArray, List.set_cons_zero, List.set_cons_succ, i64_w, i32_w]
                    rfl
                  refine pure_ (i := 8) (N := some 26) (v := ?_) (a' := ?_) #[true, true, true, true, true, true, true, true, true, false, false, false, false, false, false, false, false, false, false, false, false, false, false, false, false, false, false, false, false, false, false, false, false, false, false, false, false, false, false] rfl rfl (any_of HT_.out (by kernel_rfl)) (fun _ _ _ h => h) (Or.inl ⟨by rfl, ?_⟩) ?_ ?_
                  rotate_left
                  · intro w'
                    go_simp
                    with_reducible rfl
                  rotate_left
                  · simp only [Act.put, List.setIfInBounds_toArray, List.set_cons_zero, List.set_cons_succ, i64_w, i32_w]
                    rfl
                  refine pure_ (i := 9) (N := some 27) (v := ?_) (a' := ?_) #[true, true, true, true, true, true, true, true, true, true, false, false, false, false, false, false, false, false, false, false, false, false, false, false, false, false, false, false, false, false, false, false, false, false, false, false, false, false, false] rfl rfl (any_of HT_.out (by kernel_rfl)) (fun _ _ _ h => h) (Or.inl ⟨by rfl, ?_⟩) ?_ ?_
                  rotate_left
                  · intro w'
                    go_simp
                    with_reducible rfl
                  rotate_left
                  · simp only [Act.put, List.setIfInBounds_toArray, List.set_cons_zero, List.set_cons_succ, i64_w, i32_w]
                    rfl
                  refine pure_ (i := 10) (N := some 28) (v := ?_) (a' := ?_) #[true, true, true, true, true, true, true, true, true, true, true, false, false, false, false, false, false, false, false, false, false, false, false, false, false, false, false, false, false, false, false, false, false, false, false, false, false, false, false] rfl rfl (any_of HT_.out (by kernel_rfl)) (fun _ _ _ h => h) (Or.inl ⟨by rfl, ?_⟩) ?_ ?_
                  rotate_left
                  · intro w'
                    go_simp
                    with_reducible rfl
                  rotate_left
                  · simp only [Act.put, List.setIfInBounds_toArray, List.set_cons_zero, List.set_cons_succ, i64_w, i32_w]
                    rfl
                  refine take_ (i := 11) (N := some 29) (v := ?_) (a' := ?_) #[true, true, true, true, true, true, true, true, true, true, true, true, false, false, false, false, false, false, false, false, false, false, false, false, false, false, false, false, false, false, false, false, false, false, false, false, false, false, false] rfl rfl (take_ofW HT_.out HW_.out (by kernel_rfl)) (fun _ _ _ h => h) (Or.inl ⟨by rfl, ?_⟩) hHeld ?_ ?_
                  rotate_left
                  · rintro w' ⟨s0, s1, s2, s3, s4, s5, s6, s7, s8, s9, s10, s11⟩
                    go_simp
                    with_reducible rfl
                  rotate_left
                  · simp only [Act.put, List.setIfInBounds_toArray, List.set_cons_zero, List.set_cons_succ, i64_w, i32_w]
                    rfl
                  refine pure_ (i := 12) (N := some 30) (v := ?_) (a' := ?_) #[true, true, true, true, true, true, true, true, true, true, true, true, true, false, false, false, false, false, false, false, false, false, false, false, false, false, false, false, false, false, false, false, false, false, false, false, false, false, false] rfl rfl (any_of HT_.out (by kernel_rfl)) (fun _ _ _ h => h) (Or.inl ⟨by rfl, ?_⟩) ?_ ?_
                  rotate_left
                  · intro w'
                    go_simp
                    with_reducible rfl
                  rotate_left
                  · simp only [Act.put, List.setIfInBounds_toArray, List.set_cons_zero, List.set_cons_succ, i64_w, i32_w]
                    rfl
                  refine one_ (i := 13) (N := some 31) #[true, true, true, true, true, true, true, true, true, true, true, true, true, true, false, false, false, false, false, false, false, false, false, false, false, false, false, false, false, false, false, false, false, false, false, false, false, false, false] rfl rfl (one_of HT_.out (by kernel_rfl)) (by decide) (fun K hK => ?_)
                  refine goes_ Try.func99 (by kernel_rfl) rfl #[.int .i64 (wrap64 ((rd_T152 l0 x3_1).f1)), .int .i64 1, .int .i64 60] (by rfl) rfl rfl (by (try simp only [List.map_toArray, List.map_cons, List.map_nil]); first | done | rfl | (simp only [List.length_drop, List.length_take]; rfl)) ?_
                  with_reducible refine (spec_l00In.calls (wrap64 ((rd_T152 l0 x3_1).f1)) 1 60 true _ A8.out).mono ?_
                  rintro e w' ⟨rfl, ⟨nd, rfl⟩⟩
                  refine ⟨_, rfl, ?_⟩
                  refine hK.out _ _ ⟨(by first | exact ((HB.out.cell (World.block_lt_of_cell? w _ hw112_0)).trans hw112_0) | exact ((HB.out.cell (World.block_lt_of_cell? w _ hv112_0)).trans hv112_0) | exact hx112_0), (by first | exact ((HB.out.cell (World.block_lt_of_cell? w _ hw112_1)).trans hw112_1) | exact ((HB.out.cell (World.block_lt_of_cell? w _ hv112_1)).trans hv112_1) | exact hx112_1), (by first | exact ((HB.out.cell (World.block_lt_of_cell? w _ hw112_2)).trans hw112_2) | exact ((HB.out.cell (World.block_lt_of_cell? w _ hv112_2)).trans hv112_2) | exact hx112_2), (by first | exact ((HB.out.cell (World.block_lt_of_cell? w _ hw112_3)).trans hw112_3) | exact ((HB.out.cell (World.block_lt_of_cell? w _ hv112_3)).trans hv112_3) | exact hx112_3), (by first | exact ((HB.out.cell (World.block_lt_of_cell? w _ hw114_0)).trans hw114_0) | exact ((HB.out.cell (World.block_lt_of_cell? w _ hv114_0)).trans hv114_0) | exact hx114_0), (by first | exact ((HB.out.cell (World.block_lt_of_cell? w _ hw114_1)).trans hw114_1) | exact ((HB.out.cell (World.block_lt_of_cell? w _ hv114_1)).trans hv114_1) | exact hx114_1), (by first | exact ((HB.out.cell (World.block_lt_of_cell? w _ hw114_2)).trans hw114_2) | exact ((HB.out.cell (World.block_lt_of_cell? w _ hv114_2)).trans hv114_2) | exact hx114_2), (by first | exact ((HB.out.cell (World.block_lt_of_cell? w _ hw114_3)).trans hw114_3) | exact ((HB.out.cell (World.block_lt_of_cell? w _ hv114_3)).trans hv114_3) | exact hx114_3), (by first | exact ((HB.out.cell (World.block_lt_of_cell? w _ hw116_0)).trans hw116_0) | exact ((HB.out.cell (World.block_lt_of_cell? w _ hv116_0)).trans hv116_0) | exact hx116_0), (by first | exact ((HB.out.cell (World.block_lt_of_cell? w _ hw116_1)).trans hw116_1) | exact ((HB.out.cell (World.block_lt_of_cell? w _ hv116_1)).trans hv116_1) | exact hx116_1), (by first | exact ((HB.out.cell (World.block_lt_of_cell? w _ hw116_2)).trans hw116_2) | exact ((HB.out.cell (World.block_lt_of_cell? w _ hv116_2)).trans hv116_2) | exact hx116_2), (by first | exact ((HB.out.cell (World.block_lt_of_cell? w _ hw116_3)).trans hw116_3) | exact ((HB.out.cell (World.block_lt_of_cell? w _ hv116_3)).trans hv116_3) | exact hx116_3)⟩ (fun hHeld => ?_)
                  clear hK K
                  refine norm_ (a' := ?_) ?_ ?_
                  rotate_left
                  · show Act.put _ (some 31) _ = _
                    simp only [Act.put, List.setIfInBounds_toArray, List.set_cons_zero, List.set_cons_succ, i64_w, i32_w]
                    rfl
                  refine pure_ (i := 14) (N := some 32) (v := ?_) (a' := ?_) #[true, true, true, true, true, true, true, true, true, true, true, true, true, true, true, false, false, false, false, false, false, false, false, false, false, false, false, false, false, false, false, false, false, false, false, false, false, false, false] rfl rfl (any_of HT_.out (by kernel_rfl)) (fun _ _ _ h => h) (Or.inl ⟨by rfl, ?_⟩) ?_ ?_
                  rotate_left
                  · intro w'
                    go_simp
                    with_reducible rfl
                  rotate_left
                  · simp only [Act.put, List.setIfInBounds_toArray, List.set_cons_zero, List.set_cons_succ, i64_w, i32_w]
                    rfl
                  refine pure_ (i := 15) (N := some 33) (v := ?_) (a' := ?_) #[true, true, true, true, true, true, true, true, true, true, true, true, true, true, true, true, false, false, false, false, false, false, false, false, false, false, false, false, false, false, false, false, false, false, false, false, false, false, false] rfl rfl (any_of HT_.out (by kernel_rfl)) (fun _ _ _ h => h) (Or.inl ⟨by rfl, ?_⟩) ?_ ?_
                  rotate_left
                  · intro w'
                    go_simp
                    with_reducible rfl
                  rotate_left
                  · simp only [Act.put, List.setIfInBounds_toArray, List.set_cons_zero, List.set_cons_succ, i64_w, i32_w]
                    rfl
                  refine pure_ (i := 16) (N := some 34) (v := ?_) (a' := ?_) #[true, true, true, true, true, true, true, true, true, true, true, true, true, true, true, true, true, false, false, false, false, false, false, false, false, false, false, false, false, false, false, false, false, false, false, false, false, false, false] rfl rfl (any_of HT_.out (by kernel_rfl)) (fun _ _ _ h => h) (Or.inl ⟨by rfl, ?_⟩) ?_ ?_
                  rotate_left
                  · intro w'
                    go_simp
                    with_reducible rfl
                  rotate_left
                  · simp only [Act.put, List.setIfInBounds_toArray, List.set_cons_zero, List.set_cons_succ, i64_w, i32_w]
                    rfl
                  refine pure_ (i := 17) (N := some 35) (v := ?_) (a' := ?_) #[true, true, true, true, true, true, true, true, true, true, true, true, true, true, true, true, true, true, false, false, false, false, false, false, false, false, false, false, false, false, false, false, false, false, false, false, false, false, false] rfl rfl (any_of HT_.out (by kernel_rfl)) (fun _ _ _ h => h) (Or.inl ⟨by rfl, ?_⟩) ?_ ?_
                  rotate_left
                  · intro w'
                    go_simp
                    with_reducible rfl
                  rotate_left
                  · simp only [Act.put, List.setIfInBounds_toArray, List.set_cons_zero, List.set_cons_succ, i64_w, i32_w]
                    rfl
                  refine pure_ (i := 18) (N := some 36) (v := ?_) (a' := ?_) #[true, true, true, true, true, true, true, true, true, true, true, true, true, true, true, true, true, true, true, false, false, false, false, false, false, false, false, false, false, false, false, false, false, false, false, false, false, false, false] rfl rfl (any_of HT_.out (by kernel_rfl)) (fun _ _ _ h => h) (Or.inl ⟨by rfl, ?_⟩) ?_ ?_
                  rotate_left
                  · intro w'
                    go_simp
                    with_reducible rfl
                  rotate_left
                  · simp only [Act.put, List.setIfInBounds_toArray, List.set_cons_zero, List.set_cons_succ, i64_w, i32_w]
                    rfl
                  refine pure_ (i := 19) (N := some 37) (v := ?_) (a' := ?_) #[true, true, true, true, true, true, true, true, true, true, true, true, true, true, true, true, true, true, true, true, false, false, false, false, false, false, false, false, false, false, false, false, false, false, false, false, false, false, false] rfl rfl (any_of HT_.out (by kernel_rfl)) (fun _ _ _ h => h) (Or.inl ⟨by rfl, ?_⟩) ?_ ?_
                  rotate_left
                  · intro w'
                    go_simp
                    with_reducible rfl
                  rotate_left
                  · simp only [Act.put, List.setIfInBounds_toArray, List.set_cons_zero, List.set_cons_succ, i64_w, i32_w]
                    rfl
                  refine take_ (i := 20) (N := some 38) (v := ?_) (a' := ?_) #[true, true, true, true, true, true, true, true, true, true, true, true, true, true, true, true, true, true, true, true, true, false, false, false, false, false, false, false, false, false, false, false, false, false, false, false, false, false, false] rfl rfl (take_ofW HT_.out HW_.out (by kernel_rfl)) (fun _ _ _ h => h) (Or.inl ⟨by rfl, ?_⟩) hHeld ?_ ?_
                  rotate_left
                  · rintro w' ⟨s0, s1, s2, s3, s4, s5, s6, s7, s8, s9, s10, s11⟩
                    go_simp
                    with_reducible rfl
                  rotate_left
                  · simp only [Act.put, List.setIfInBounds_toArray, List.set_cons_zero, List.set_cons_succ, i64_w, i32_w]
                    rfl
                  refine one_ (i := 21) (N := some 39) #[true, true, true, true, true, true, true, true, true, true, true, true, true, true, true, true, true, true, true, true, true, true, false, false, false, false, false, false, false, false, false, false, false, false, false, false, false, false, false] rfl rfl (one_of HT_.out (by kernel_rfl)) (by decide) (fun K hK => ?_)
                  refine goes_ Try.func94 (by kernel_rfl) rfl #[.slice A112_3 ((rd_T152 l0 x3_1).f3).length c112_3] (by rfl) rfl rfl (by (try simp only [List.map_toArray, List.map_cons, List.map_nil]); first | done | rfl | (simp only [List.length_drop, List.length_take]; rfl)) ?_
                  with_reducible refine (spec_l01Ok.calls k1 _ _ ((rd_T152 l0 x3_1).f3) false _ ?side1 ?side2 A10.out).mono ?_
                  (case side1 => repeat (first | exact (Kd.C_below HR116_3.out (by repeat (first | (with_reducible first | exact HB.out | apply below_alloc | apply pw_below_drewN | apply below_drew1) | exact HB.out))) | (with_reducible refine Kd.C_alloc ?_ _) | (with_reducible refine Kd.C_drewN ?_ _) | (with_reducible refine Kd.C_drew ?_)))
                  (case side2 => exact HC116_3.out)
                  rintro e w' ⟨rfl, ⟨nd, rfl⟩⟩
                  refine ⟨_, rfl, ?_⟩
                  refine hK.out _ _ ⟨(by first | exact ((HB.out.cell (World.block_lt_of_cell? w _ hw112_0)).trans hw112_0) | exact ((HB.out.cell (World.block_lt_of_cell? w _ hv112_0)).trans hv112_0) | exact hx112_0), (by first | exact ((HB.out.cell (World.block_lt_of_cell? w _ hw112_1)).trans hw112_1) | exact ((HB.out.cell (World.block_lt_of_cell? w _ hv112_1)).trans hv112_1) | exact hx112_1), (by first | exact ((HB.out.cell (World.block_lt_of_cell? w _ hw112_2)).trans hw112_2) | exact ((HB.out.cell (World.block_lt_of_cell? w _ hv112_2)).trans hv112_2) | exact hx112_2), (by first | exact ((HB.out.cell (World.block_lt_of_cell? w _ hw112_3)).trans hw112_3) | exact ((HB.out.cell (World.block_lt_of_cell? w _ hv112_3)).trans hv112_3) | exact hx112_3), (by first | exact ((HB.out.cell (World.block_lt_of_cell? w _ hw114_0)).trans hw114_0) | exact ((HB.out.cell (World.block_lt_of_cell? w _ hv114_0)).trans hv114_0) | exact hx114_0), (by first | exact ((HB.out.cell (World.block_lt_of_cell? w _ hw114_1)).trans hw114_1) | exact ((HB.out.cell (World.block_lt_of_cell? w _ hv114_1)).trans hv114_1) | exact hx114_1), (by first | exact ((HB.out.cell (World.block_lt_of_cell? w _ hw114_2)).trans hw114_2) | exact ((HB.out.cell (World.block_lt_of_cell? w _ hv114_2)).trans hv114_2) | exact hx114_2), (by first | exact ((HB.out.cell (World.block_lt_of_cell? w _ hw114_3)).trans hw114_3) | exact ((HB.out.cell (World.block_lt_of_cell? w _ hv114_3)).trans hv114_3) | exact hx114_3), (by first | exact ((HB.out.cell (World.block_lt_of_cell? w _ hw116_0)).trans hw116_0) | exact ((HB.out.cell (World.block_lt_of_cell? w _ hv116_0)).trans hv116_0) | exact hx116_0), (by first | exact ((HB.out.cell (World.block_lt_of_cell? w _ hw116_1)).trans hw116_1) | exact ((HB.out.cell (World.block_lt_of_cell? w _ hv116_1)).trans hv116_1) | exact hx116_1), (by first | exact ((HB.out.cell (World.block_lt_of_cell? w _ hw116_2)).trans hw116_2) | exact ((HB.out.cell (World.block_lt_of_cell? w _ hv116_2)).trans hv116_2) | exact hx116_2), (by first | exact ((HB.out.cell (World.block_lt_of_cell? w _ hw116_3)).trans hw116_3) | exact ((HB.out.cell (World.block_lt_of_cell? w _ hv116_3)).trans hv116_3) | exact hx116_3)⟩ (fun hHeld => ?_)
                  clear hK K
                  refine norm_ (a' := ?_) ?_ ?_
                  rotate_left
                  · show Act.put _ (some 39) _ = _
                    simp only [Act.put, List.setIfInBounds_toArray, List.set_cons_zero, List.set_cons_succ, i64_w, i32_w]
                    rfl
                  refine pure_ (i := 22) (N := some 40) (v := ?_) (a' := ?_) #[true, true, true, true, true, true, true, true, true, true, true, true, true, true, true, true, true, true, true, true, true, true, true, false, false, false, false, false, false, false, false, false, false, false, false, false, false, false, false] rfl rfl (any_of HT_.out (by kernel_rfl)) (fun _ _ _ h => h) (Or.inl ⟨by rfl, ?_⟩) ?_ ?_
                  rotate_left
                  · intro w'
                    go_simp
                    with_reducible rfl
                  rotate_left
                  · simp only [Act.put, List.setIfInBounds_toArray, List.set_cons_zero, List.set_cons_succ, i64_w, i32_w]
                    rfl
                  refine pure_ (i := 23) (N := some 41) (v := ?_) (a' := ?_) #[true, true, true, true, true, true, true, true, true, true, true, true, true, true, true, true, true, true, true, true, true, true, true, true, false, false, false, false, false, false, false, false, false, false, false, false, false, false, false] rfl rfl (any_of HT_.out (by kernel_rfl)) (fun _ _ _ h => h) (Or.inl ⟨by rfl, ?_⟩) ?_ ?_
                  rotate_left
                  · intro w'
                    go_simp
                    with_reducible rfl
                  rotate_left
                  · simp only [Act.put, List.setIfInBounds_toArray, List.set_cons_zero, List.set_cons_succ, i64_w, i32_w]
                    rfl
                  refine pure_ (i := 24) (N := some 42) (v := ?_) (a' := ?_) #[true, true, true, true, true, true, true, true, true, true, true, true, true, true, true, true, true, true, true, true, true, true, true, true, true, false, false, false, false, false, false, false, false, false, false, false, false, false, false] rfl rfl (any_of HT_.out (by kernel_rfl)) (fun _ _ _ h => h) (Or.inl ⟨by rfl, ?_⟩) ?_ ?_
                  rotate_left
                  · intro w'
                    go_simp
                    with_reducible rfl
                  rotate_left
                  · simp only [Act.put, List.setIfInBounds_toArray, List.set_cons_zero, List.set_cons_succ, i64_w, i32_w]
                    rfl
                  refine pure_ (i := 25) (N := some 43) (v := undef) (a' := ?_) #[true, true, true, true, true, true, true, true, true, true, true, true, true, true, true, true, true, true, true, true, true, true, true, true, true, true, false, false, false, false, false, false, false, false, false, false, false, false, false] rfl rfl (any_of HT_.out (by kernel_rfl)) (fun _ _ _ h => h) (Or.inr ⟨by rfl, rfl⟩) ?_ ?_
                  rotate_left
                  · simp only [Act.put, List.setIfInBounds_toArray, List.set_cons_zero, List.set_cons_succ, i64_w, i32_w]
                    rfl
                  refine pure_ (i := 26) (N := some 44) (v := undef) (a' := ?_) #[true, true, true, true, true, true, true, true, true, true, true, true, true, true, true, true, true, true, true, true, true, true, true, true, true, true, true, false, false, false, false, false, false, false, false, false, false, false, false] rfl rfl (any_of HT_.out (by kernel_rfl)) (fun _ _ _ h => h) (Or.inr ⟨by rfl, rfl⟩) ?_ ?_
                  rotate_left
                  · simp only [Act.put, List.setIfInBounds_toArray, List.set_cons_zero, List.set_cons_succ, i64_w, i32_w]
                    rfl
                  refine pure_ (i := 27) (N := some 45) (v := undef) (a' := ?_) #[true, true, true, true, true, true, true, true, true, true, true, true, true, true, true, true, true, true, true, true, true, true, true, true, true, true, true, true, false, false, false, false, false, false, false, false, false, false, false] rfl rfl (any_of HT_.out (by kernel_rfl)) (fun _ _ _ h => h) (Or.inr ⟨by rfl, rfl⟩) ?_ ?_
                  rotate_left
                  · simp only [Act.put, List.setIfInBounds_toArray, List.set_cons_zero, List.set_cons_succ, i64_w, i32_w]
                    rfl
                  refine pure_ (i := 28) (N := some 46) (v := undef) (a' := ?_) #[true, true, true, true, true, true, true, true, true, true, true, true, true, true, true, true, true, true, true, true, true, true, true, true, true, true, true, true, true, false, false, false, false, false, false, false, false, false, false] rfl rfl (any_of HT_.out (by kernel_rfl)) (fun _ _ _ h => h) (Or.inr ⟨by rfl, rfl⟩) ?_ ?_
                  rotate_left
                  · simp only [Act.put, List.setIfInBounds_toArray, List.set_cons_zero, List.set_cons_succ, i64_w, i32_w]
                    rfl
                  refine pure_ (i := 29) (N := some 47) (v := undef) (a' := ?_) #[true, true, true, true, true, true, true, true, true, true, true, true, true, true, true, true, true, true, true, true, true, true, true, true, true, true, true, true, true, true, false, false, false, false, false, false, false, false, false] rfl rfl (any_of HT_.out (by kernel_rfl)) (fun _ _ _ h => h) (Or.inr ⟨by rfl, rfl⟩) ?_ ?_
                  rotate_left
                  · simp only [Act.put, List.setIfInBounds_toArray, List.set_cons_zero, List.set_cons_succ, i64_w, i32_w]
                    rfl
                  refine pure_ (i := 30) (N := some 48) (v := undef) (a' := ?_) #[true, true, true, true, true, true, true, true, true, true, true, true, true, true, true, true, true, true, true, true, true, true, true, true, true, true, true, true, true, true, true, false, false, false, false, false, false, false, false] rfl rfl (any_of HT_.out (by kernel_rfl)) (fun _ _ _ h => h) (Or.inr ⟨by rfl, rfl⟩) ?_ ?_
                  rotate_left
                  · simp only [Act.put, List.setIfInBounds_toArray, List.set_cons_zero, List.set_cons_succ, i64_w, i32_w]
                    rfl
                  refine pure_ (i := 31) (N := some 49) (v := undef) (a' := ?_) #[true, true, true, true, true, true, true, true, true, true, true, true, true, true, true, true, true, true, true, true, true, true, true, true, true, true, true, true, true, true, true, true, false, false, false, false, false, false, false] rfl rfl (any_of HT_.out (by kernel_rfl)) (fun _ _ _ h => h) (Or.inr ⟨by rfl, rfl⟩) ?_ ?_
                  rotate_left
                  · simp only [Act.put, List.setIfInBounds_toArray, List.set_cons_zero, List.set_cons_succ, i64_w, i32_w]
                    rfl
                  refine pure_ (i := 32) (N := some 50) (v := undef) (a' := ?_) #[true, true, true, true, true, true, true, true, true, true, true, true, true, true, true, true, true, true, true, true, true, true, true, true, true, true, true, true, true, true, true, true, true, false, false, false, false, false, false] rfl rfl (any_of HT_.out (by kernel_rfl)) (fun _ _ _ h => h) (Or.inr ⟨by rfl, rfl⟩) ?_ ?_
                  rotate_left
                  · simp only [Act.put, List.setIfInBounds_toArray, List.set_cons_zero, List.set_cons_succ, i64_w, i32_w]
                    rfl
                  refine pure_ (i := 33) (N := some 51) (v := undef) (a' := ?_) #[true, true, true, true, true, true, true, true, true, true, true, true, true, true, true, true, true, true, true, true, true, true, true, true, true, true, true, true, true, true, true, true, true, true, false, false, false, false, false] rfl rfl (any_of HT_.out (by kernel_rfl)) (fun _ _ _ h => h) (Or.inr ⟨by rfl, rfl⟩) ?_ ?_
                  rotate_left
                  · simp only [Act.put, List.setIfInBounds_toArray, List.set_cons_zero, List.set_cons_succ, i64_w, i32_w]
                    rfl
                  refine pure_ (i := 34) (N := some 52) (v := undef) (a' := ?_) #[true, true, true, true, true, true, true, true, true, true, true, true, true, true, true, true, true, true, true, true, true, true, true, true, true, true, true, true, true, true, true, true, true, true, true, false, false, false, false] rfl rfl (any_of HT_.out (by kernel_rfl)) (fun _ _ _ h => h) (Or.inr ⟨by rfl, rfl⟩) ?_ ?_
                  rotate_left
                  · simp only [Act.put, List.setIfInBounds_toArray, List.set_cons_zero, List.set_cons_succ, i64_w, i32_w]
                    rfl
                  refine pure_ (i := 35) (N := some 53) (v := undef) (a' := ?_) #[true, true, true, true, true, true, true, true, true, true, true, true, true, true, true, true, true, true, true, true, true, true, true, true, true, true, true, true, true, true, true, true, true, true, true, true, false, false, false] rfl rfl (any_of HT_.out (by kernel_rfl)) (fun _ _ _ h => h) (Or.inr ⟨by rfl, rfl⟩) ?_ ?_
                  rotate_left
                  · simp only [Act.put, List.setIfInBounds_toArray, List.set_cons_zero, List.set_cons_succ, i64_w, i32_w]
                    rfl
                  refine pure_ (i := 36) (N := some 54) (v := undef) (a' := ?_) #[true, true, true, true, true, true, true, true, true, true, true, true, true, true, true, true, true, true, true, true, true, true, true, true, true, true, true, true, true, true, true, true, true, true, true, true, true, false, false] rfl rfl (any_of HT_.out (by kernel_rfl)) (fun _ _ _ h => h) (Or.inr ⟨by rfl, rfl⟩) ?_ ?_
                  rotate_left
                  · simp only [Act.put, List.setIfInBounds_toArray, List.set_cons_zero, List.set_cons_succ, i64_w, i32_w]
                    rfl
                  refine pure_ (i := 37) (N := some 55) (v := undef) (a' := ?_) #[true, true, true, true, true, true, true, true, true, true, true, true, true, true, true, true, true, true, true, true, true, true, true, true, true, true, true, true, true, true, true, true, true, true, true, true, true, true, false] rfl rfl (any_of HT_.out (by kernel_rfl)) (fun _ _ _ h => h) (Or.inr ⟨by rfl, rfl⟩) ?_ ?_
                  rotate_left
                  · simp only [Act.put, List.setIfInBounds_toArray, List.set_cons_zero, List.set_cons_succ, i64_w, i32_w]
                    rfl
                  refine pure_ (i := 38) (N := some 56) (v := ?_) (a' := ?_) #[true, true, true, true, true, true, true, true, true, true, true, true, true, true, true, true, true, true, true, true, true, true, true, true, true, true, true, true, true, true, true, true, true, true, true, true, true, true, true] rfl rfl (any_of HT_.out (by kernel_rfl)) (fun _ _ _ h => h) (Or.inl ⟨by rfl, ?_⟩) ?_ ?_
                  rotate_left
                  · intro w'
                    go_simp
                    with_reducible rfl
                  rotate_left
                  · simp only [Act.put, List.setIfInBounds_toArray, List.set_cons_zero, List.set_cons_succ, i64_w, i32_w]
                    rfl
                  refine done_ (done_of HT_.out (by kernel_rfl)) ?_
                  try go_wp2
                  go_ret
                  exact ⟨by first | rfl | (simp [errW_none, errW_some] <;> rfl) | (simp [*, errW_none, errW_some] <;> rfl), by repeat (first | (with_reducible first | exact HB.out | apply below_alloc | apply pw_below_drewN | apply below_drew1) | exact HB.out)⟩
              · replace c9 := Bool.eq_false_iff.mpr c9
                subst c9
                have H1 : (some false) = some r := by rw [if_neg (show ¬ (false = true) by decide)] at H; exact H
                clear H
                have H := H1
                clear H1
                obtain rfl := Option.some.inj H
                have p111 : 0 ≤ (x3_1 : Int) := of_decide_eq_true (by first | (with_reducible assumption) | assumption)
                have q111 : x3_1 < (l0.length : Int) := of_decide_eq_true (by first | (with_reducible assumption) | assumption)
                obtain ⟨ad111, A111_3, c111_3, e111, hx111_0, hx111_1, hx111_2, hx111_3, hl111_3, hi111_3⟩ := at_T152 HR0.out x3_1 p111 q111
                cases e111
                replace hx111_0 := (HB.out.cell (World.block_lt_of_cell? w _ hx111_0)).trans hx111_0
                replace hx111_1 := (HB.out.cell (World.block_lt_of_cell? w _ hx111_1)).trans hx111_1
                replace hx111_2 := (HB.out.cell (World.block_lt_of_cell? w _ hx111_2)).trans hx111_2
                replace hx111_3 := (HB.out.cell (World.block_lt_of_cell? w _ hx111_3)).trans hx111_3
                have HR111_3 := Aside0.mk hi111_3
                have HC111_3 := Aside0.mk hl111_3
                clear hi111_3 hl111_3
                replace p111 := eq_true p111
                replace q111 := eq_true q111
                try go_wp2
                have n0_ := Aside0.mk (below_drew1 HB.out)
                clear HB
                have HB := n0_
                clear n0_
                have p112 : 0 ≤ (x3_1 : Int) := of_decide_eq_true (by first | (with_reducible assumption) | assumption)
                have q112 : x3_1 < (l0.length : Int) := of_decide_eq_true (by first | (with_reducible assumption) | assumption)
                obtain ⟨ad112, A112_3, c112_3, e112, hx112_0, hx112_1, hx112_2, hx112_3, hl112_3, hi112_3⟩ := at_T152 HR0.out x3_1 p112 q112
                have hw112_3 := hx112_3
                have hw112_2 := hx112_2
                have hw112_1 := hx112_1
                have hw112_0 := hx112_0
                obtain rfl : ad111 = ad112 := (by injection e112)
                replace hx112_0 := (HB.out.cell (World.block_lt_of_cell? w _ hx112_0)).trans hx112_0
                replace hx112_1 := (HB.out.cell (World.block_lt_of_cell? w _ hx112_1)).trans hx112_1
                replace hx112_2 := (HB.out.cell (World.block_lt_of_cell? w _ hx112_2)).trans hx112_2
                replace hx112_3 := (HB.out.cell (World.block_lt_of_cell? w _ hx112_3)).trans hx112_3
                have HR112_3 := Aside0.mk hi112_3
                have HC112_3 := Aside0.mk hl112_3
                clear hi112_3 hl112_3
                replace p112 := eq_true p112
                replace q112 := eq_true q112
                have p114 : 0 ≤ (x3_1 : Int) := of_decide_eq_true (by first | (with_reducible assumption) | assumption)
                have q114 : x3_1 < (l0.length : Int) := of_decide_eq_true (by first | (with_reducible assumption) | assumption)
                obtain ⟨ad114, A114_3, c114_3, e114, hx114_0, hx114_1, hx114_2, hx114_3, hl114_3, hi114_3⟩ := at_T152 HR0.out x3_1 p114 q114
                have hw114_3 := hx114_3
                have hw114_2 := hx114_2
                have hw114_1 := hx114_1
                have hw114_0 := hx114_0
                obtain rfl : ad111 = ad114 := (by injection e114)
                replace hx114_0 := (HB.out.cell (World.block_lt_of_cell? w _ hx114_0)).trans hx114_0
                replace hx114_1 := (HB.out.cell (World.block_lt_of_cell? w _ hx114_1)).trans hx114_1
                replace hx114_2 := (HB.out.cell (World.block_lt_of_cell? w _ hx114_2)).trans hx114_2
                replace hx114_3 := (HB.out.cell (World.block_lt_of_cell? w _ hx114_3)).trans hx114_3
                have HR114_3 := Aside0.mk hi114_3
                have HC114_3 := Aside0.mk hl114_3
                clear hi114_3 hl114_3
                replace p114 := eq_true p114
                replace q114 := eq_true q114
                have ea_ := Option.some.inj (hx112_3.symm.trans hx114_3)
                injection ea_ with ea_ en_ ec_
                subst ea_
                subst ec_
                clear en_
                refine start_ (n := 39) (S := fun w' => w'.cell? (ad111.add ((x3_1).toNat * 4)) = some (.int .i16 ((rd_T152 l0 x3_1).f0)) ∧ w'.cell? ⟨(ad111.add ((x3_1).toNat * 4)).block, (ad111.add ((x3_1).toNat * 4)).off + 1, none⟩ = some (.int .i16 ((rd_T152 l0 x3_1).f1)) ∧ w'.cell? ⟨(ad111.add ((x3_1).toNat * 4)).block, (ad111.add ((x3_1).toNat * 4)).off + 2, none⟩ = some (.int .i16 ((rd_T152 l0 x3_1).f2)) ∧ w'.cell? ⟨(ad111.add ((x3_1).toNat * 4)).block, (ad111.add ((x3_1).toNat * 4)).off + 3, none⟩ = some (.slice A112_3 ((rd_T152 l0 x3_1).f3).length c112_3) ∧ w'.cell? (ad111.add ((x3_1).toNat * 4)) = some (.int .i16 ((rd_T152 l0 x3_1).f0)) ∧ w'.cell? ⟨(ad111.add ((x3_1).toNat * 4)).block, (ad111.add ((x3_1).toNat * 4)).off + 1, none⟩ = some (.int .i16 ((rd_T152 l0 x3_1).f1)) ∧ w'.cell? ⟨(ad111.add ((x3_1).toNat * 4)).block, (ad111.add ((x3_1).toNat * 4)).off + 2, none⟩ = some (.int .i16 ((rd_T152 l0 x3_1).f2)) ∧ w'.cell? ⟨(ad111.add ((x3_1).toNat * 4)).block, (ad111.add ((x3_1).toNat * 4)).off + 3, none⟩ = some (.slice A112_3 ((rd_T152 l0 x3_1).f3).length c112_3)) (ds := []) #[false, false, false, false, false, false, false, false, false, false, false, false, false, false, false, false, false, false, false, false, false, false, false, false, false, false, false, false, false, false, false, false, false, false, false, false, false, false, false] (by kernel_rfl) rfl rfl ⟨(by first | exact ((HB.out.cell (World.block_lt_of_cell? w _ hw112_0)).trans hw112_0) | exact ((HB.out.cell (World.block_lt_of_cell? w _ hv112_0)).trans hv112_0) | exact hx112_0), (by first | exact ((HB.out.cell (World.block_lt_of_cell? w _ hw112_1)).trans hw112_1) | exact ((HB.out.cell (World.block_lt_of_cell? w _ hv112_1)).trans hv112_1) | exact hx112_1), (by first | exact ((HB.out.cell (World.block_lt_of_cell? w _ hw112_2)).trans hw112_2) | exact ((HB.out.cell (World.block_lt_of_cell? w _ hv112_2)).trans hv112_2) | exact hx112_2), (by first | exact ((HB.out.cell (World.block_lt_of_cell? w _ hw112_3)).trans hw112_3) | exact ((HB.out.cell (World.block_lt_of_cell? w _ hv112_3)).trans hv112_3) | exact hx112_3), (by first | exact ((HB.out.cell (World.block_lt_of_cell? w _ hw114_0)).trans hw114_0) | exact ((HB.out.cell (World.block_lt_of_cell? w _ hv114_0)).trans hv114_0) | exact hx114_0), (by first | exact ((HB.out.cell (World.block_lt_of_cell? w _ hw114_1)).trans hw114_1) | exact ((HB.out.cell (World.block_lt_of_cell? w _ hv114_1)).trans hv114_1) | exact hx114_1), (by first | exact ((HB.out.cell (World.block_lt_of_cell? w _ hw114_2)).trans hw114_2) | exact ((HB.out.cell (World.block_lt_of_cell? w _ hv114_2)).trans hv114_2) | exact hx114_2), (by first | exact ((HB.out.cell (World.block_lt_of_cell? w _ hw114_3)).trans hw114_3) | exact ((HB.out.cell (World.block_lt_of_cell? w _ hv114_3)).trans hv114_3) | exact hx114_3)⟩ (fun hHeld => ?_); refine with_tabW spec_l04Ok.tab7 spec_l04Ok.bits7 (fun HT_ HW_ => ?_)
                generalize wr.drew = w17 at HB HR112_3 HR114_3 hx112_0 hx112_1 hx112_2 hx112_3 hx114_0 hx114_1 hx114_2 hx114_3 hHeld ⊢
                refine pure_ (i := 0) (N := some 18) (v := ?_) (a' := ?_) #[true, false, false, false, false, false, false, false, false, false, false, false, false, false, false, false, false, false, false, false, false, false, false, false, false, false, false, false, false, false, false, false, false, false, false, false, false, false, false] rfl rfl (any_of HT_.out (by kernel_rfl)) (fun _ _ _ h => h) (Or.inl ⟨by rfl, ?_⟩) ?_ ?_
                rotate_left
                · intro w'
                  go_simp
                  with_reducible rfl
                rotate_left
                · simp only [Act.put, List.setIfInBounds_toArray, List.set_cons_zero, List.set_cons_succ, i64_w, i32_w]
                  rfl
                refine pure_ (i := 1) (N := some 19) (v := ?_) (a' := ?_) #[true, true, false, false, false, false, false, false, false, false, false, false, false, false, false, false, false, false, false, false, false, false, false, false, false, false, false, false, false, false, false, false, false, false, false, false, false, false, false] rfl rfl (any_of HT_.out (by kernel_rfl)) (fun _ _ _ h => h) (Or.inl ⟨by rfl, ?_⟩) ?_ ?_
                rotate_left
                · intro w'
                  go_simp
                  with_reducible rfl
                rotate_left
                · simp only [Act.put, List.setIfInBounds_toArray, List.set_cons_zero, List.set_cons_succ, i64_w, i32_w]
                  rfl
                refine pure_ (i := 2) (N := some 20) (v := ?_) (a' := ?_) #[true, true, true, false, false, false, false, false, false, false, false, false, false, false, false, false, false, false, false, false, false, false, false, false, false, false, false, false, false, false, false, false, false, false, false, false, false, false, false] rfl rfl (any_of HT_.out (by kernel_rfl)) (fun _ _ _ h => h) (Or.inl ⟨by rfl, ?_⟩) ?_ ?_
                rotate_left
                · intro w'
                  go_simp
                  with_reducible rfl
                rotate_left
                · simp only [Act.put, List.setIfInBounds_toArray, List.set_cons_zero, List.set_cons_succ, i64_w, i32_w]
                  rfl
                refine take_ (i := 3) (N := some 21) (v := ?_) (a' := ?_) #[true, true, true, true, false, false, false, false, false, false, false, false, false, false, false, false, false, false, false, false, false, false, false, false, false, false, false, false, false, false, false, false, false, false, false, false, false, false, false] rfl rfl (take_ofW HT_.out HW_.out (by kernel_rfl)) (fun _ _ _ h => h) (Or.inl ⟨by rfl, ?_⟩) hHeld ?_ ?_
                rotate_left
                · rintro w' ⟨s0, s1, s2, s3, s4, s5, s6, s7⟩
                  go_simp
                  with_reducible rfl
                rotate_left
                · simp only [Act.put, List.setIfInBounds_toArray, List.set_cons_zero, List.set_cons_succ, i64_w, i32_w]
                  rfl
                refine pure_ (i := 4) (N := some 22) (v := ?_) (a' := ?_) #[true, true, true, true, true, false, false, false, false, false, false, false, false, false, false, false, false, false, false, false, false, false, false, false, false, false, false, false, false, false, false, false, false, false, false, false, false, false, false] rfl rfl (any_of HT_.out (by kernel_rfl)) (fun _ _ _ h => h) (Or.inl ⟨by rfl, ?_⟩) ?_ ?_
                rotate_left
                · intro w'
                  go_simp
                  with_reducible rfl
                rotate_left
                · simp only [Act.put, List.setIfInBounds_toArray, List.set_cons_zero, List.set_cons_succ, i64_w, i32_w]
                  rfl
                refine one_ (i := 5) (N := some 23) #[true, true, true, true, true, true, false, false, false, false, false, false, false, false, false, false, false, false, false, false, false, false, false, false, false, false, false, false, false, false, false, false, false, false, false, false, false, false, false] rfl rfl (one_of HT_.out (by kernel_rfl)) (by decide) (fun K hK => ?_)
                refine goes_ Try.func99 (by kernel_rfl) rfl #[.int .i64 (wrap64 ((rd_T152 l0 x3_1).f0)), .int .i64 1, .int .i64 60] (by rfl) rfl rfl (by (try simp only [List.map_toArray, List.map_cons, List.map_nil]); first | done | rfl | (simp only [List.length_drop, List.length_take]; rfl)) ?_
                with_reducible refine (spec_l00In.calls (wrap64 ((rd_T152 l0 x3_1).f0)) 1 60 true _ A6.out).mono ?_
                rintro e w' ⟨rfl, ⟨nd, rfl⟩⟩
                refine ⟨_, rfl, ?_⟩
                refine hK.out _ _ ⟨(by first | exact ((HB.out.cell (World.block_lt_of_cell? w _ hw112_0)).trans hw112_0) | exact ((HB.out.cell (World.block_lt_of_cell? w _ hv112_0)).trans hv112_0) | exact hx112_0), (by first | exact ((HB.out.cell (World.block_lt_of_cell? w _ hw112_1)).trans hw112_1) | exact ((HB.out.cell (World.block_lt_of_cell? w _ hv112_1)).trans hv112_1) | exact hx112_1), (by first | exact ((HB.out.cell (World.block_lt_of_cell? w _ hw112_2)).trans hw112_2) | exact ((HB.out.cell (World.block_lt_of_cell? w _ hv112_2)).trans hv112_2) | exact hx112_2), (by first | exact ((HB.out.cell (World.block_lt_of_cell? w _ hw112_3)).trans hw112_3) | exact ((HB.out.cell (World.block_lt_of_cell? w _ hv112_3)).trans hv112_3) | exact hx112_3), (by first | exact ((HB.out.cell (World.block_lt_of_cell? w _ hw114_0)).trans hw114_0) | exact ((HB.out.cell (World.block_lt_of_cell? w _ hv114_0)).trans hv114_0) | exact hx114_0), (by first | exact ((HB.out.cell (World.block_lt_of_cell? w _ hw114_1)).trans hw114_1) | exact ((HB.out.cell (World.block_lt_of_cell? w _ hv114_1)).trans hv114_1) | exact hx114_1), (by first | exact ((HB.out.cell (World.block_lt_of_cell? w _ hw114_2)).trans hw114_2) | exact ((HB.out.cell (World.block_lt_of_cell? w _ hv114_2)).trans hv114_2) | exact hx114_2), (by first | exact ((HB.out.cell (World.block_lt_of_cell? w _ hw114_3)).trans hw114_3) | exact ((HB.out.cell (World.block_lt_of_cell? w _ hv114_3)).trans hv114_3) | exact hx114_3)⟩ (fun hHeld => ?_)
                clear hK K
                refine norm_ (a' := ?_) ?_ ?_
                rotate_left
                · show Act.put _ (some 23) _ = _
                  simp only [Act.put, List.setIfInBounds_toArray, List.set_cons_zero, List.set_cons_succ, i64_w, i32_w]
                  rfl
                refine pure_ (i := 6) (N := some 24) (v := ?_) (a' := ?_) #[true, true, true, true, true, true, true, false, false, false, false, false, false, false, false, false, false, false, false, false, false, false, false, false, false, false, false, false, false, false, false, false, false, false, false, false, false, false, false] rfl rfl (any_of HT_.out (by kernel_rfl)) (fun _ _ _ h => h) (Or.inl ⟨by rfl, ?_⟩) ?_ ?_
                rotate_left
                · intro w'
                  go_simp
                  with_reducible rfl
                rotate_left
                · simp only [Act.put, List.setIfInBounds_toArray, List.set_cons_zero, List.set_cons_succ, i64_w, i32_w]
                  rfl
                refine pure_ (i := 7) (N := some 25) (v := ?_) (a' := ?_) #[true, true, true, true, true, true, true, true, false, false, false, false, false, false, false, false, false, false, false, false, false, false, false, false, false, false, false, false, false, false, false, false, false, false, false, false, false, false, false] rfl rfl (any_of HT_.out (by kernel_rfl)) (fun _ _ _ h => h) (Or.inl ⟨by rfl, ?_⟩) ?_ ?_
                rotate_left
                · intro w'
                  go_simp
                  with_reducible rfl
                rotate_left
                · simp only [Act.put, List.setIfInBounds_toArray, List.set_cons_zero, List.set_cons_succ, i64_w, i32_w]
                  rfl
                refine pure_ (i := 8) (N := some 26) (v := ?_) (a' := ?_) #[true, true, true, true, true, true, true, true, true, false, false, false, false, false, false, false, false, false, false, false, false, false, false, false, false, false, false, false, false, false, false, false, false, false, false, false, false, false, false] rfl rfl (any_of HT_.out (by kernel_rfl)) (fun _ _ _ h => h) (Or.inl ⟨by rfl, ?_⟩) ?_ ?_
                rotate_left
                · intro w'
                  go_simp
                  with_reducible rfl
                rotate_left
                · simp only [Act.put, List.setIfInBounds_toArray, List.set_cons_zero, List.set_cons_succ, i64_w, i32_w]
                  rfl
                refine pure_ (i := 9) (N := some 27) (v := ?_) (a' := ?_) #[true, true, true, true, true, true, true, true, true, true, false, false, false, false, false, false, false, false, false, false, false, false, false, false, false, false, false, false, false, false, false, false, false, false, false, false, false, false, false] rfl rfl (any_of HT_.out (by kernel_rfl)) (fun _ _ _ h => h) (Or.inl ⟨by rfl, ?_⟩) ?_ ?_
                rotate_left
                · intro w'
                  go_simp
                  with_reducible rfl
                rotate_left
                · simp only [Act.put, List.setIfInBounds_toArray, List.set_cons_zero, List.set_cons_succ, i64_w, i32_w]
                  rfl
                refine pure_ (i := 10) (N := some 28) (v := ?_) (a' := ?_) #[true, true, true, true, true, true, true, true, true, true, true, false, false, false, false, false, false, false, false, false, false, false, false, false, false, false, false, false, false, false, false, false, false, false, false, false, false, false, false] rfl rfl (any_of HT_.out (by kernel_rfl)) (fun _ _ _ h => h) (Or.inl ⟨by rfl, ?_⟩) ?_ ?_
                rotate_left
                · intro w'
                  go_simp
                  with_reducible rfl
                rotate_left
                · simp only [Act.put, List.setIfInBounds_toArray, List.set_cons_zero, List.set_cons_succ, i64_w, i32_w]
                  rfl
                refine take_ (i := 11) (N := some 29) (v := ?_) (a' := ?_) #[true, true, true, true, true, true, true, true, true, true, true, true, false, false, false, false, false, false, false, false, false, false, false, false, false, false, false, false, false, false, false, false, false, false, false, false, false, false, false] rfl rfl (take_ofW HT_.out HW_.out (by kernel_rfl)) (fun _ _ _ h => h) (Or.inl ⟨by rfl, ?_⟩) hHeld ?_ ?_
                rotate_left
                · rintro w' ⟨s0, s1, s2, s3, s4, s5, s6, s7⟩
                  go_simp
                  with_reducible rfl
                rotate_left
                · simp only [Act.put, List.setIfInBounds_toArray, List.set_cons_zero, List.set_cons_succ, i64_w, i32_w]
                  rfl
                refine pure_ (i := 12) (N := some 30) (v := ?_) (a' := ?_) #[true, true, true, true, true, true, true, true, true, true, true, true, true, false, false, false, false, false, false, false, false, false, false, false, false, false, false, false, false, false, false, false, false, false, false, false, false, false, false] rfl rfl (any_of HT_.out (by kernel_rfl)) (fun _ _ _ h => h) (Or.inl ⟨by rfl, ?_⟩) ?_ ?_
                rotate_left
                · intro w'
                  go_simp
                  with_reducible rfl
                rotate_left
                · simp only [Act.put, List.setIfInBounds_toArray, List.set_cons_zero, List.set_cons_succ, i64_w, i32_w]
                  rfl
                refine one_ (i := 13) (N := some 31) #[true, true, true, true, true, true, true, true, true, true, true, true, true, true, false, false, false, false, false, false, false, false, false, false, false, false, false, false, false, false, false, false, false, false, false, false, false, false, false] rfl rfl (one_of HT_.out (by kernel_rfl)) (by decide) (fun K hK => ?_)
                refine goes_ Try.func99 (by kernel_rfl) rfl #[.int .i64 (wrap64 ((rd_T152 l0 x3_1).f1)), .int .i64 1, .int .i64 60] (by rfl) rfl rfl (by (try simp only [List.map_toArray, List.map_cons, List.map_nil]); first | done | rfl | (simp only [List.length_drop, List.length_take]; rfl)) ?_
                with_reducible refine (spec_l00In.calls (wrap64 ((rd_T152 l0 x3_1).f1)) 1 60 false _ A8.out).mono ?_
                rintro e w' ⟨rfl, ⟨nd, rfl⟩⟩
                refine ⟨_, rfl, ?_⟩
                refine hK.out _ _ ⟨(by first | exact ((HB.out.cell (World.block_lt_of_cell? w _ hw112_0)).trans hw112_0) | exact ((HB.out.cell (World.block_lt_of_cell? w _ hv112_0)).trans hv112_0) | exact hx112_0), (by first | exact ((HB.out.cell (World.block_lt_of_cell? w _ hw112_1)).trans hw112_1) | exact ((HB.out.cell (World.block_lt_of_cell? w _ hv112_1)).trans hv112_1) | exact hx112_1), (by first | exact ((HB.out.cell (World.block_lt_of_cell? w _ hw112_2)).trans hw112_2) | exact ((HB.out.cell (World.block_lt_of_cell? w _ hv112_2)).trans hv112_2) | exact hx112_2), (by first | exact ((HB.out.cell (World.block_lt_of_cell? w _ hw112_3)).trans hw112_3) | exact ((HB.out.cell (World.block_lt_of_cell? w _ hv112_3)).trans hv112_3) | exact hx112_3), (by first | exact ((HB.out.cell (World.block_lt_of_cell? w _ hw114_0)).trans hw114_0) | exact ((HB.out.cell (World.block_lt_of_cell? w _ hv114_0)).trans hv114_0) | exact hx114_0), (by first | exact ((HB.out.cell (World.block_lt_of_cell? w _ hw114_1)).trans hw114_1) | exact ((HB.out.cell (World.block_lt_of_cell? w _ hv114_1)).trans hv114_1) | exact hx114_1), (by first | exact ((HB.out.cell (World.block_lt_of_cell? w _ hw114_2)).trans hw114_2) | exact ((HB.out.cell (World.block_lt_of_cell? w _ hv114_2)).trans hv114_2) | exact hx114_2), (by first | exact ((HB.out.cell (World.block_lt_of_cell? w _ hw114_3)).trans hw114_3) | exact ((HB.out.cell (World.block_lt_of_cell? w _ hv114_3)).trans hv114_3) | exact hx114_3)⟩ (fun hHeld => ?_)
                clear hK K
                refine norm_ (a' := ?_) ?_ ?_
                rotate_left
                · show Act.put _ (some 31) _ = _
                  simp only [Act.put, List.setIfInBounds_toArray, List.set_cons_zero, List.set_cons_succ, i64_w, i32_w]
                  rfl
                refine pure_ (i := 14) (N := some 32) (v := ?_) (a' := ?_) #[true, true, true, true, true, true, true, true, true, true, true, true, true, true, true, false, false, false, false, false, false, false, false, false, false, false, false, false, false, false, false, false, false, false, false, false, false, false, false] rfl rfl (any_of HT_.out (by kernel_rfl)) (fun _ _ _ h => h) (Or.inl ⟨by rfl, ?_⟩) ?_ ?_
                rotate_left
                · intro w'
                  go_simp
                  with_reducible rfl
                rotate_left
                · simp only [Act.put, List.setIfInBounds_toArray, List.set_cons_zero, List.set_cons_succ, i64_w, i32_w]
                  rfl
                refine pure_ (i := 15) (N := some 33) (v := ?_) (a' := ?_) #[true, true, true, true, true, true, true, true, true, true, true, true, true, true, true, true, false, false, false, false, false, false, false, false, false, false, false, false, false, false, false, false, false, false, false, false, false, false, false] rfl rfl (any_of HT_.out (by kernel_rfl)) (fun _ _ _ h => h) (Or.inl ⟨by rfl, ?_⟩) ?_ ?_
                rotate_left
                · intro w'
                  go_simp
                  with_reducible rfl
                rotate_left
                · simp only [Act.put, List.setIfInBounds_toArray, List.set_cons_zero, List.set_cons_succ, i64_w, i32_w]
                  rfl
                refine pure_ (i := 16) (N := some 34) (v := ?_) (a' := ?_) #[true, true, true, true, true, true, true, true, true, true, true, true, true, true, true, true, true, false, false, false, false, false, false, false, false, false, false, false, false, false, false, false, false, false, false, false, false, false, false] rfl rfl (any_of HT_.out (by kernel_rfl)) (fun _ _ _ h => h) (Or.inl ⟨by rfl, ?_⟩) ?_ ?_
                rotate_left
                · intro w'
                  go_simp
                  with_reducible rfl
                rotate_left
                · simp only [Act.put, List.setIfInBounds_toArray, List.set_cons_zero, List.set_cons_succ, i64_w, i32_w]
                  rfl
                refine pure_ (i := 17) (N := some 35) (v := undef) (a' := ?_) #[true, true, true, true, true, true, true, true, true, true, true, true, true, true, true, true, true, true, false, false, false, false, false, false, false, false, false, false, false, false, false, false, false, false, false, false, false, false, false] rfl rfl (any_of HT_.out (by kernel_rfl)) (fun _ _ _ h => h) (Or.inr ⟨by rfl, rfl⟩) ?_ ?_
                rotate_left
                · simp only [Act.put, List.setIfInBounds_toArray, List.set_cons_zero, List.set_cons_succ, i64_w, i32_w]
                  rfl
                refine pure_ (i := 18) (N := some 36) (v := undef) (a' := ?_) #[true, true, true, true, true, true, true, true, true, true, true, true, true, true, true, true, true, true, true, false, false, false, false, false, false, false, false, false, false, false, false, false, false, false, false, false, false, false, false] rfl rfl (any_of HT_.out (by kernel_rfl)) (fun _ _ _ h => h) (Or.inr ⟨by rfl, rfl⟩) ?_ ?_
                rotate_left
                · simp only [Act.put, List.setIfInBounds_toArray, List.set_cons_zero, List.set_cons_succ, i64_w, i32_w]
                  rfl
                refine pure_ (i := 19) (N := some 37) (v := undef) (a' := ?_) #[true, true, true, true, true, true, true, true, true, true, true, true, true, true, true, true, true, true, true, true, false, false, false, false, false, false, false, false, false, false, false, false, false, false, false, false, false, false, false] rfl rfl (any_of HT_.out (by kernel_rfl)) (fun _ _ _ h => h) (Or.inr ⟨by rfl, rfl⟩) ?_ ?_
                rotate_left
                · simp only [Act.put, List.setIfInBounds_toArray, List.set_cons_zero, List.set_cons_succ, i64_w, i32_w]
                  rfl
                refine pure_ (i := 20) (N := some 38) (v := undef) (a' := ?_) #[true, true, true, true, true, true, true, true, true, true, true, true, true, true, true, true, true, true, true, true, true, false, false, false, false, false, false, false, false, false, false, false, false, false, false, false, false, false, false] rfl rfl (any_of HT_.out (by kernel_rfl)) (fun _ _ _ h => h) (Or.inr ⟨by rfl, rfl⟩) ?_ ?_
                rotate_left
                · simp only [Act.put, List.setIfInBounds_toArray, List.set_cons_zero, List.set_cons_succ, i64_w, i32_w]
                  rfl
                refine pure_ (i := 21) (N := some 39) (v := undef) (a' := ?_) #[true, true, true, true, true, true, true, true, true, true, true, true, true, true, true, true, true, true, true, true, true, true, false, false, false, false, false, false, false, false, false, false, false, false, false, false, false, false, false] rfl rfl (any_of HT_.out (by kernel_rfl)) (fun _ _ _ h => h) (Or.inr ⟨by rfl, rfl⟩) ?_ ?_
                rotate_left
                · simp only [Act.put, List.setIfInBounds_toArray, List.set_cons_zero, List.set_cons_succ, i64_w, i32_w]
                  rfl
                refine pure_ (i := 22) (N := some 40) (v := undef) (a' := ?_) #[true, true, true, true, true, true, true, true, true, true, true, true, true, true, true, true, true, true, true, true, true, true, true, false, false, false, false, false, false, false, false, false, false, false, false, false, false, false, false] rfl rfl (any_of HT_.out (by kernel_rfl)) (fun _ _ _ h => h) (Or.inr ⟨by rfl, rfl⟩) ?_ ?_
                rotate_left
                · simp only [Act.put, List.setIfInBounds_toArray, List.set_cons_zero, List.set_cons_succ, i64_w, i32_w]
                  rfl
                refine pure_ (i := 23) (N := some 41) (v := ?_) (a' := ?_) #[true, true, true, true, true, true, true, true, true, true, true, true, true, true, true, true, true, true, true, true, true, true, true, true, false, false, false, false, false, false, false, false, false, false, false, false, false, false, false] rfl rfl (any_of HT_.out (by kernel_rfl)) (fun _ _ _ h => h) (Or.inl ⟨by rfl, ?_⟩) ?_ ?_
                rotate_left
                · intro w'
                  go_simp
                  with_reducible rfl
                rotate_left
                · simp only [Act.put, List.setIfInBounds_toArray, List.set_cons_zero, List.set_cons_succ, i64_w, i32_w]
                  rfl
                refine pure_ (i := 24) (N := some 42) (v := ?_) (a' := ?_) #[true, true, true, true, true, true, true, true, true, true, true, true, true, true, true, true, true, true, true, true, true, true, true, true, true, false, false, false, false, false, false, false, false, false, false, false, false, false, false] rfl rfl (any_of HT_.out (by kernel_rfl)) (fun _ _ _ h => h) (Or.inl ⟨by rfl, ?_⟩) ?_ ?_
                rotate_left
                · intro w'
                  go_simp
                  with_reducible rfl
                rotate_left
                · simp only [Act.put, List.setIfInBounds_toArray, List.set_cons_zero, List.set_cons_succ, i64_w, i32_w]
                  rfl
                refine pure_ (i := 25) (N := some 43) (v := undef) (a' := ?_) #[true, true, true, true, true, true, true, true, true, true, true, true, true, true, true, true, true, true, true, true, true, true, true, true, true, true, false, false, false, false, false, false, false, false, false, false, false, false, false] rfl rfl (any_of HT_.out (by kernel_rfl)) (fun _ _ _ h => h) (Or.inr ⟨by rfl, rfl⟩) ?_ ?_
                rotate_left
                · simp only [Act.put, List.setIfInBounds_toArray, List.set_cons_zero, List.set_cons_succ, i64_w, i32_w]
                  rfl
                refine pure_ (i := 26) (N := some 44) (v := undef) (a' := ?_) #[true, true, true, true, true, true, true, true, true, true, true, true, true, true, true, true, true, true, true, true, true, true, true, true, true, true, true, false, false, false, false, false, false, false, false, false, false, false, false] rfl rfl (any_of HT_.out (by kernel_rfl)) (fun _ _ _ h => h) (Or.inr ⟨by rfl, rfl⟩) ?_ ?_
                rotate_left
                · simp only [Act.put, List.setIfInBounds_toArray, List.set_cons_zero, List.set_cons_succ, i64_w, i32_w]
                  rfl
                refine pure_ (i := 27) (N := some 45) (v := undef) (a' := ?_) #[true, true, true, true, true, true, true, true, true, true, true, true, true, true, true, true, true, true, true, true, true, true, true, true, true, true, true, true, false, false, false, false, false, false, false, false, false, false, false] rfl rfl (any_of HT_.out (by kernel_rfl)) (fun _ _ _ h => h) (Or.inr ⟨by rfl, rfl⟩) ?_ ?_
                rotate_left
                · simp only [Act.put, List.setIfInBounds_toArray, List.set_cons_zero, List.set_cons_succ, i64_w, i32_w]
                  rfl
                refine pure_ (i := 28) (N := some 46) (v := undef) (a' := ?_) #[true, true, true, true, true, true, true, true, true, true, true, true, true, true, true, true, true, true, true, true, true, true, true, true, true, true, true, true, true, false, false, false, false, false, false, false, false, false, false] rfl rfl (any_of HT_.out (by kernel_rfl)) (fun _ _ _ h => h) (Or.inr ⟨by rfl, rfl⟩) ?_ ?_
                rotate_left
                · simp only [Act.put, List.setIfInBounds_toArray, List.set_cons_zero, List.set_cons_succ, i64_w, i32_w]
                  rfl
                refine pure_ (i := 29) (N := some 47) (v := undef) (a' := ?_) #[true, true, true, true, true, true, true, true, true, true, true, true, true, true, true, true, true, true, true, true, true, true, true, true, true, true, true, true, true, true, false, false, false, false, false, false, false, false, false] rfl rfl (any_of HT_.out (by kernel_rfl)) (fun _ _ _ h => h) (Or.inr ⟨by rfl, rfl⟩) ?_ ?_
                rotate_left
                · simp only [Act.put, List.setIfInBounds_toArray, List.set_cons_zero, List.set_cons_succ, i64_w, i32_w]
                  rfl
                refine pure_ (i := 30) (N := some 48) (v := undef) (a' := ?_) #[true, true, true, true, true, true, true, true, true, true, true, true, true, true, true, true, true, true, true, true, true, true, true, true, true, true, true, true, true, true, true, false, false, false, false, false, false, false, false] rfl rfl (any_of HT_.out (by kernel_rfl)) (fun _ _ _ h => h) (Or.inr ⟨by rfl, rfl⟩) ?_ ?_
                rotate_left
                · simp only [Act.put, List.setIfInBounds_toArray, List.set_cons_zero, List.set_cons_succ, i64_w, i32_w]
                  rfl
                refine pure_ (i := 31) (N := some 49) (v := undef) (a' := ?_) #[true, true, true, true, true, true, true, true, true, true, true, true, true, true, true, true, true, true, true, true, true, true, true, true, true, true, true, true, true, true, true, true, false, false, false, false, false, false, false] rfl rfl (any_of HT_.out (by kernel_rfl)) (fun _ _ _ h => h) (Or.inr ⟨by rfl, rfl⟩) ?_ ?_
                rotate_left
                · simp only [Act.put, List.setIfInBounds_toArray, List.set_cons_zero, List.set_cons_succ, i64_w, i32_w]
                  rfl
                refine pure_ (i := 32) (N := some 50) (v := undef) (a' := ?_) #[true, true, true, true, true, true, true, true, true, true, true, true, true, true, true, true, true, true, true, true, true, true, true, true, true, true, true, true, true, true, true, true, true, false, false, false, false, false, false] rfl rfl (any_of HT_.out (by kernel_rfl)) (fun _ _ _ h => h) (Or.inr ⟨by rfl, rfl⟩) ?_ ?_
                rotate_left
                · simp only [Act.put, List.setIfInBounds_toArray, List.set_cons_zero, List.set_cons_succ, i64_w, i32_w]
                  rfl
                refine pure_ (i := 33) (N := some 51) (v := undef) (a' := ?_) #[true, true, true, true, true, true, true, true, true, true, true, true, true, true, true, true, true, true, true, true, true, true, true, true, true, true, true, true, true, true, true, true, true, true, false, false, false, false, false] rfl rfl (any_of HT_.out (by kernel_rfl)) (fun _ _ _ h => h) (Or.inr ⟨by rfl, rfl⟩) ?_ ?_
                rotate_left
                · simp only [Act.put, List.setIfInBounds_toArray, List.set_cons_zero, List.set_cons_succ, i64_w, i32_w]
                  rfl
                refine pure_ (i := 34) (N := some 52) (v := undef) (a' := ?_) #[true, true, true, true, true, true, true, true, true, true, true, true, true, true, true, true, true, true, true, true, true, true, true, true, true, true, true, true, true, true, true, true, true, true, true, false, false, false, false] rfl rfl (any_of HT_.out (by kernel_rfl)) (fun _ _ _ h => h) (Or.inr ⟨by rfl, rfl⟩) ?_ ?_
                rotate_left
                · simp only [Act.put, List.setIfInBounds_toArray, List.set_cons_zero, List.set_cons_succ, i64_w, i32_w]
                  rfl
                refine pure_ (i := 35) (N := some 53) (v := undef) (a' := ?_) #[true, true, true, true, true, true, true, true, true, true, true, true, true, true, true, true, true, true, true, true, true, true, true, true, true, true, true, true, true, true, true, true, true, true, true, true, false, false, false] rfl rfl (any_of HT_.out (by kernel_rfl)) (fun _ _ _ h => h) (Or.inr ⟨by rfl, rfl⟩) ?_ ?_
                rotate_left
                · simp only [Act.put, List.setIfInBounds_toArray, List.set_cons_zero, List.set_cons_succ, i64_w, i32_w]
                  rfl
                refine pure_ (i := 36) (N := some 54) (v := undef) (a' := ?_) #[true, true, true, true, true, true, true, true, true, true, true, true, true, true, true, true, true, true, true, true, true, true, true, true, true, true, true, true, true, true, true, true, true, true, true, true, true, false, false] rfl rfl (any_of HT_.out (by kernel_rfl)) (fun _ _ _ h => h) (Or.inr ⟨by rfl, rfl⟩) ?_ ?_
                rotate_left
                · simp only [Act.put, List.setIfInBounds_toArray, List.set_cons_zero, List.set_cons_succ, i64_w, i32_w]
                  rfl
                refine pure_ (i := 37) (N := some 55) (v := undef) (a' := ?_) #[true, true, true, true, true, true, true, true, true, true, true, true, true, true, true, true, true, true, true, true, true, true, true, true, true, true, true, true, true, true, true, true, true, true, true, true, true, true, false] rfl rfl (any_of HT_.out (by kernel_rfl)) (fun _ _ _ h => h) (Or.inr ⟨by rfl, rfl⟩) ?_ ?_
                rotate_left
                · simp only [Act.put, List.setIfInBounds_toArray, List.set_cons_zero, List.set_cons_succ, i64_w, i32_w]
                  rfl
                refine pure_ (i := 38) (N := some 56) (v := ?_) (a' := ?_) #[true, true, true, true, true, true, true, true, true, true, true, true, true, true, true, true, true, true, true, true, true, true, true, true, true, true, true, true, true, true, true, true, true, true, true, true, true, true, true] rfl rfl (any_of HT_.out (by kernel_rfl)) (fun _ _ _ h => h) (Or.inl ⟨by rfl, ?_⟩) ?_ ?_
                rotate_left
                · intro w'
                  go_simp
                  with_reducible rfl
                rotate_left
                · simp only [Act.put, List.setIfInBounds_toArray, List.set_cons_zero, List.set_cons_succ, i64_w, i32_w]
                  rfl
                refine done_ (done_of HT_.out (by kernel_rfl)) ?_
                try go_wp2
                go_ret
                exact ⟨by first | rfl | (simp [errW_none, errW_some] <;> rfl) | (simp [*, errW_none, errW_some] <;> rfl), by repeat (first | (with_reducible first | exact HB.out | apply below_alloc | apply pw_below_drewN | apply below_drew1) | exact HB.out)⟩
            · replace c7 := Bool.eq_false_iff.mpr c7
              subst c7
              have H1 : (some false) = some r := by rw [if_neg (show ¬ (false = true) by decide)] at H; exact H
              clear H
              have H := H1
              clear H1
              obtain rfl := Option.some.inj H
              have p111 : 0 ≤ (x3_1 : Int) := of_decide_eq_true (by first | (with_reducible assumption) | assumption)
              have q111 : x3_1 < (l0.length : Int) := of_decide_eq_true (by first | (with_reducible assumption) | assumption)
              obtain ⟨ad111, A111_3, c111_3, e111, hx111_0, hx111_1, hx111_2, hx111_3, hl111_3, hi111_3⟩ := at_T152 HR0.out x3_1 p111 q111
              cases e111
              replace hx111_0 := (HB.out.cell (World.block_lt_of_cell? w _ hx111_0)).trans hx111_0
              replace hx111_1 := (HB.out.cell (World.block_lt_of_cell? w _ hx111_1)).trans hx111_1
              replace hx111_2 := (HB.out.cell (World.block_lt_of_cell? w _ hx111_2)).trans hx111_2
              replace hx111_3 := (HB.out.cell (World.block_lt_of_cell? w _ hx111_3)).trans hx111_3
              have HR111_3 := Aside0.mk hi111_3
              have HC111_3 := Aside0.mk hl111_3
              clear hi111_3 hl111_3
              replace p111 := eq_true p111
              replace q111 := eq_true q111
              try go_wp2
              have n0_ := Aside0.mk (below_drew1 HB.out)
              clear HB
              have HB := n0_
              clear n0_
              have p112 : 0 ≤ (x3_1 : Int) := of_decide_eq_true (by first | (with_reducible assumption) | assumption)
              have q112 : x3_1 < (l0.length : Int) := of_decide_eq_true (by first | (with_reducible assumption) | assumption)
              obtain ⟨ad112, A112_3, c112_3, e112, hx112_0, hx112_1, hx112_2, hx112_3, hl112_3, hi112_3⟩ := at_T152 HR0.out x3_1 p112 q112
              have hw112_3 := hx112_3
              have hw112_2 := hx112_2
              have hw112_1 := hx112_1
              have hw112_0 := hx112_0
              obtain rfl : ad111 = ad112 := (by injection e112)
              replace hx112_0 := (HB.out.cell (World.block_lt_of_cell? w _ hx112_0)).trans hx112_0
              replace hx112_1 := (HB.out.cell (World.block_lt_of_cell? w _ hx112_1)).trans hx112_1
              replace hx112_2 := (HB.out.cell (World.block_lt_of_cell? w _ hx112_2)).trans hx112_2
              replace hx112_3 := (HB.out.cell (World.block_lt_of_cell? w _ hx112_3)).trans hx112_3
              have HR112_3 := Aside0.mk hi112_3
              have HC112_3 := Aside0.mk hl112_3
              clear hi112_3 hl112_3
              replace p112 := eq_true p112
              replace q112 := eq_true q112
              refine start_ (n := 39) (S := fun w' => w'.cell? (ad111.add ((x3_1).toNat * 4)) = some (.int .i16 ((rd_T152 l0 x3_1).f0)) ∧ w'.cell? ⟨(ad111.add ((x3_1).toNat * 4)).block, (ad111.add ((x3_1).toNat * 4)).off + 1, none⟩ = some (.int .i16 ((rd_T152 l0 x3_1).f1)) ∧ w'.cell? ⟨(ad111.add ((x3_1).toNat * 4)).block, (ad111.add ((x3_1).toNat * 4)).off + 2, none⟩ = some (.int .i16 ((rd_T152 l0 x3_1).f2)) ∧ w'.cell? ⟨(ad111.add ((x3_1).toNat * 4)).block, (ad111.add ((x3_1).toNat * 4)).off + 3, none⟩ = some (.slice A112_3 ((rd_T152 l0 x3_1).f3).length c112_3)) (ds := []) #[false, false, false, false, false, false, false, false, false, false, false, false, false, false, false, false, false, false, false, false, false, false, false, false, false, false, false, false, false, false, false, false, false, false, false, false, false, false, false] (by kernel_rfl) rfl rfl ⟨(by first | exact ((HB.out.cell (World.block_lt_of_cell? w _ hw112_0)).trans hw112_0) | exact ((HB.out.cell (World.block_lt_of_cell? w _ hv112_0)).trans hv112_0) | exact hx112_0), (by first | exact ((HB.out.cell (World.block_lt_of_cell? w _ hw112_1)).trans hw112_1) | exact ((HB.out.cell (World.block_lt_of_cell? w _ hv112_1)).trans hv112_1) | exact hx112_1), (by first | exact ((HB.out.cell (World.block_lt_of_cell? w _ hw112_2)).trans hw112_2) | exact ((HB.out.cell (World.block_lt_of_cell? w _ hv112_2)).trans hv112_2) | exact hx112_2), (by first | exact ((HB.out.cell (World.block_lt_of_cell? w _ hw112_3)).trans hw112_3) | exact ((HB.out.cell (World.block_lt_of_cell? w _ hv112_3)).trans hv112_3) | exact hx112_3)⟩ (fun hHeld => ?_); refine with_tabW spec_l04Ok.tab7 spec_l04Ok.bits7 (fun HT_ HW_ => ?_)
              generalize wr.drew = w18 at HB HR112_3 hx112_0 hx112_1 hx112_2 hx112_3 hHeld ⊢
              refine pure_ (i := 0) (N := some 18) (v := ?_) (a' := ?_) #[true, false, false, false, false, false, false, false, false, false, false, false, false, false, false, false, false, false, false, false, false, false, false, false, false, false, false, false, false, false, false, false, false, false, false, false, false, false, false] rfl rfl (any_of HT_.out (by kernel_rfl)) (fun _ _ _ h => h) (Or.inl ⟨by rfl, ?_⟩) ?_ ?_
              rotate_left
              · intro w'
                go_simp
                with_reducible rfl
              rotate_left
              · simp only [Act.put, List.setIfInBounds_toArray, List.set_cons_zero, List.set_cons_succ, i64_w, i32_w]
                rfl
              refine pure_ (i := 1) (N := some 19) (v := ?_) (a' := ?_) #[true, true, false, false, false, false, false, false, false, false, false, false, false, false, false, false, false, false, false, false, false, false, false, false, false, false, false, false, false, false, false, false, false, false, false, false, false, false, false] rfl rfl (any_of HT_.out (by kernel_rfl)) (fun _ _ _ h => h) (Or.inl ⟨by rfl, ?_⟩) ?_ ?_
              rotate_left
              · intro w'
                go_simp
                with_reducible rfl
              rotate_left
              · simp only [Act.put, List.setIfInBounds_toArray, List.set_cons_zero, List.set_cons_succ, i64_w, i32_w]
                rfl
              refine pure_ (i := 2) (N := some 20) (v := ?_) (a' := ?_) #[true, true, true, false, false, false, false, false, false, false, false, false, false, false, false, false, false, false, false, false, false, false, false, false, false, false, false, false, false, false, false, false, false, false, false, false, false, false, false] rfl rfl (any_of HT_.out (by kernel_rfl)) (fun _ _ _ h => h) (Or.inl ⟨by rfl, ?_⟩) ?_ ?_
              rotate_left
              · intro w'
                go_simp
                with_reducible rfl
              rotate_left
              · simp only [Act.put, List.setIfInBounds_toArray, List.set_cons_zero, List.set_cons_succ, i64_w, i32_w]
                rfl
              refine take_ (i := 3) (N := some 21) (v := ?_) (a' := ?_) #[true, true, true, true, false, false, false, false, false, false, false, false, false, false, false, false, false, false, false, false, false, false, false, false, false, false, false, false, false, false, false, false, false, false, false, false, false, false, false] rfl rfl (take_ofW HT_.out HW_.out (by kernel_rfl)) (fun _ _ _ h => h) (Or.inl ⟨by rfl, ?_⟩) hHeld ?_ ?_
              rotate_left
              · rintro w' ⟨s0, s1, s2, s3⟩
                go_simp
                with_reducible rfl
              rotate_left
              · simp only [Act.put, List.setIfInBounds_toArray, List.set_cons_zero, List.set_cons_succ, i64_w, i32_w]
                rfl
              refine pure_ (i := 4) (N := some 22) (v := ?_) (a' := ?_) #[true, true, true, true, true, false, false, false, false, false, false, false, false, false, false, false, false, false, false, false, false, false, false, false, false, false, false, false, false, false, false, false, false, false, false, false, false, false, false] rfl rfl (any_of HT_.out (by kernel_rfl)) (fun _ _ _ h => h) (Or.inl ⟨by rfl, ?_⟩) ?_ ?_
              rotate_left
              · intro w'
                go_simp
                with_reducible rfl
              rotate_left
              · simp only [Act.put, List.setIfInBounds_toArray, List.set_cons_zero, List.set_cons_succ, i64_w, i32_w]
                rfl
              refine one_ (i := 5) (N := some 23) #[true, true, true, true, true, true, false, false, false, false, false, false, false, false, false, false, false, false, false, false, false, false, false, false, false, false, false, false, false, false, false, false, false, false, false, false, false, false, false] rfl rfl (one_of HT_.out (by kernel_rfl)) (by decide) (fun K hK => ?_)
              refine goes_ Try.func99 (by kernel_rfl) rfl #[.int .i64 (wrap64 ((rd_T152 l0 x3_1).f0)), .int .i64 1, .int .i64 60] (by rfl) rfl rfl (by (try simp only [List.map_toArray, List.map_cons, List.map_nil]); first | done | rfl | (simp only [List.length_drop, List.length_take]; rfl)) ?_
              with_reducible refine (spec_l00In.calls (wrap64 ((rd_T152 l0 x3_1).f0)) 1 60 false _ A6.out).mono ?_
              rintro e w' ⟨rfl, ⟨nd, rfl⟩⟩
              refine ⟨_, rfl, ?_⟩
              refine hK.out _ _ ⟨(by first | exact ((HB.out.cell (World.block_lt_of_cell? w _ hw112_0)).trans hw112_0) | exact ((HB.out.cell (World.block_lt_of_cell? w _ hv112_0)).trans hv112_0) | exact hx112_0), (by first | exact ((HB.out.cell (World.block_lt_of_cell? w _ hw112_1)).trans hw112_1) | exact ((HB.out.cell (World.block_lt_of_cell? w _ hv112_1)).trans hv112_1) | exact hx112_1), (by first | exact ((HB.out.cell (World.block_lt_of_cell? w _ hw112_2)).trans hw112_2) | exact ((HB.out.cell (World.block_lt_of_cell? w _ hv112_2)).trans hv112_2) | exact hx112_2), (by first | exact ((HB.out.cell (World.block_lt_of_cell? w _ hw112_3)).trans hw112_3) | exact ((HB.out.cell (World.block_lt_of_cell? w _ hv112_3)).trans hv112_3) | exact hx112_3)⟩ (fun hHeld => ?_)
              clear hK K
              refine norm_ (a' := ?_) ?_ ?_
              rotate_left
              · show Act.put _ (some 23) _ = _
                simp only [Act.put, List.setIfInBounds_toArray, List.set_cons_zero, List.set_cons_succ, i64_w, i32_w]
                rfl
              refine pure_ (i := 6) (N := some 24) (v := ?_) (a' := ?_) #[true, true, true, true, true, true, true, false, false, false, false, false, false, false, false, false, false, false, false, false, false, false, false, false, false, false, false, false, false, false, false, false, false, false, false, false, false, false, false] rfl rfl (any_of HT_.out (by kernel_rfl)) (fun _ _ _ h => h) (Or.inl ⟨by rfl, ?_⟩) ?_ ?_
              rotate_left
              · intro w'
                go_simp
                with_reducible rfl
              rotate_left
              · simp only [Act.put, List.setIfInBounds_toArray, List.set_cons_zero, List.set_cons_succ, i64_w, i32_w]
                rfl
              refine pure_ (i := 7) (N := some 25) (v := ?_) (a' := ?_) #[true, true, true, true, true, true, true, true, false, false, false, false, false, false, false, false, false, false, false, false, false, false, false, false, false, false, false, false, false, false, false, false, false, false, false, false, false, false, false] rfl rfl (any_of HT_.out (by kernel_rfl)) (fun _ _ _ h => h) (Or.inl ⟨by rfl, ?_⟩) ?_ ?_
              rotate_left
              · intro w'
                go_simp
                with_reducible rfl
              rotate_left
              · simp only [Act.put, List.setIfInBounds_toArray, List.set_cons_zero, List.set_cons_succ, i64_w, i32_w]
                rfl
              refine pure_ (i := 8) (N := some 26) (v := undef) (a' := ?_) #[true, true, true, true, true, true, true, true, true, false, false, false, false, false, false, false, false, false, false, false, false, false, false, false, false, false, false, false, false, false, false, false, false, false, false, false, false, false, false] rfl rfl (any_of HT_.out (by kernel_rfl)) (fun _ _ _ h => h) (Or.inr ⟨by rfl, rfl⟩) ?_ ?_
              rotate_left
              · simp only [Act.put, List.setIfInBounds_toArray, List.set_cons_zero, List.set_cons_succ, i64_w, i32_w]
                rfl
              refine pure_ (i := 9) (N := some 27) (v := undef) (a' := ?_) #[true, true, true, true, true, true, true, true, true, true, false, false, false, false, false, false, false, false, false, false, false, false, false, false, false, false, false, false, false, false, false, false, false, false, false, false, false, false, false] rfl rfl (any_of HT_.out (by kernel_rfl)) (fun _ _ _ h => h) (Or.inr ⟨by rfl, rfl⟩) ?_ ?_
              rotate_left
              · simp only [Act.put, List.setIfInBounds_toArray, List.set_cons_zero, List.set_cons_succ, i64_w, i32_w]
                rfl
              refine pure_ (i := 10) (N := some 28) (v := undef) (a' := ?_) #[true, true, true, true, true, true, true, true, true, true, true, false, false, false, false, false, false, false, false, false, false, false, false, false, false, false, false, false, false, false, false, false, false, false, false, false, false, false, false] rfl rfl (any_of HT_.out (by kernel_rfl)) (fun _ _ _ h => h) (Or.inr ⟨by rfl, rfl⟩) ?_ ?_
              rotate_left
              · simp only [Act.put, List.setIfInBounds_toArray, List.set_cons_zero, List.set_cons_succ, i64_w, i32_w]
                rfl
              refine pure_ (i := 11) (N := some 29) (v := undef) (a' := ?_) #[true, true, true, true, true, true, true, true, true, true, true, true, false, false, false, false, false, false, false, false, false, false, false, false, false, false, false, false, false, false, false, false, false, false, false, false, false, false, false] rfl rfl (any_of HT_.out (by kernel_rfl)) (fun _ _ _ h => h) (Or.inr ⟨by rfl, rfl⟩) ?_ ?_
              rotate_left
              · simp only [Act.put, List.setIfInBounds_toArray, List.set_cons_zero, List.set_cons_succ, i64_w, i32_w]
                rfl
              refine pure_ (i := 12) (N := some 30) (v := undef) (a' := ?_) #[true, true, true, true, true, true, true, true, true, true, true, true, true, false, false, false, false, false, false, false, false, false, false, false, false, false, false, false, false, false, false, false, false, false, false, false, false, false, false] rfl rfl (any_of HT_.out (by kernel_rfl)) (fun _ _ _ h => h) (Or.inr ⟨by rfl, rfl⟩) ?_ ?_
              rotate_left
              · simp only [Act.put, List.setIfInBounds_toArray, List.set_cons_zero, List.set_cons_succ, i64_w, i32_w]
                rfl
              refine pure_ (i := 13) (N := some 31) (v := undef) (a' := ?_) #[true, true, true, true, true, true, true, true, true, true, true, true, true, true, false, false, false, false, false, false, false, false, false, false, false, false, false, false, false, false, false, false, false, false, false, false, false, false, false] rfl rfl (any_of HT_.out (by kernel_rfl)) (fun _ _ _ h => h) (Or.inr ⟨by rfl, rfl⟩) ?_ ?_
              rotate_left
              · simp only [Act.put, List.setIfInBounds_toArray, List.set_cons_zero, List.set_cons_succ, i64_w, i32_w]
                rfl
              refine pure_ (i := 14) (N := some 32) (v := undef) (a' := ?_) #[true, true, true, true, true, true, true, true, true, true, true, true, true, true, true, false, false, false, false, false, false, false, false, false, false, false, false, false, false, false, false, false, false, false, false, false, false, false, false] rfl rfl (any_of HT_.out (by kernel_rfl)) (fun _ _ _ h => h) (Or.inr ⟨by rfl, rfl⟩) ?_ ?_
              rotate_left
              · simp only [Act.put, List.setIfInBounds_toArray, List.set_cons_zero, List.set_cons_succ, i64_w, i32_w]
                rfl
              refine pure_ (i := 15) (N := some 33) (v := ?_) (a' := ?_) #[true, true, true, true, true, true, true, true, true, true, true, true, true, true, true, true, false, false, false, false, false, false, false, false, false, false, false, false, false, false, false, false, false, false, false, false, false, false, false] rfl rfl (any_of HT_.out (by kernel_rfl)) (fun _ _ _ h => h) (Or.inl ⟨by rfl, ?_⟩) ?_ ?_
              rotate_left
              · intro w'
                go_simp
                with_reducible rfl
              rotate_left
              · simp only [Act.put, List.setIfInBounds_toArray, List.set_cons_zero, List.set_cons_succ, i64_w, i32_w]
                rfl
              refine pure_ (i := 16) (N := some 34) (v := ?_) (a' := ?_) #[true, true, true, true, true, true, true, true, true, true, true, true, true, true, true, true, true, false, false, false, false, false, false, false, false, false, false, false, false, false, false, false, false, false, false, false, false, false, false] rfl rfl (any_of HT_.out (by kernel_rfl)) (fun _ _ _ h => h) (Or.inl ⟨by rfl, ?_⟩) ?_ ?_
              rotate_left
              · intro w'
                go_simp
                with_reducible rfl
              rotate_left
              · simp only [Act.put, List.setIfInBounds_toArray, List.set_cons_zero, List.set_cons_succ, i64_w, i32_w]
                rfl
              refine pure_ (i := 17) (N := some 35) (v := undef) (a' := ?_) #[true, true, true, true, true, true, true, true, true, true, true, true, true, true, true, true, true, true, false, false, false, false, false, false, false, false, false, false, false, false, false, false, false, false, false, false, false, false, false] rfl rfl (any_of HT_.out (by kernel_rfl)) (fun _ _ _ h => h) (Or.inr ⟨by rfl, rfl⟩) ?_ ?_
              rotate_left
              · simp only [Act.put, List.setIfInBounds_toArray, List.set_cons_zero, List.set_cons_succ, i64_w, i32_w]
                rfl
              refine pure_ (i := 18) (N := some 36) (v := undef) (a' := ?_) #[true, true, true, true, true, true, true, true, true, true, true, true, true, true, true, true, true, true, true, false, false, false, false, false, false, false, false, false, false, false, false, false, false, false, false, false, false, false, false] rfl rfl (any_of HT_.out (by kernel_rfl)) (fun _ _ _ h => h) (Or.inr ⟨by rfl, rfl⟩) ?_ ?_
              rotate_left
              · simp only [Act.put, List.setIfInBounds_toArray, List.set_cons_zero, List.set_cons_succ, i64_w, i32_w]
                rfl
              refine pure_ (i := 19) (N := some 37) (v := undef) (a' := ?_) #[true, true, true, true, true, true, true, true, true, true, true, true, true, true, true, true, true, true, true, true, false, false, false, false, false, false, false, false, false, false, false, false, false, false, false, false, false, false, false] rfl rfl (any_of HT_.out (by kernel_rfl)) (fun _ _ _ h => h) (Or.inr ⟨by rfl, rfl⟩) ?_ ?_
              rotate_left
              · simp only [Act.put, List.setIfInBounds_toArray, List.set_cons_zero, List.set_cons_succ, i64_w, i32_w]
                rfl
              refine pure_ (i := 20) (N := some 38) (v := undef) (a' := ?_) #[true, true, true, true, true, true, true, true, true, true, true, true, true, true, true, true, true, true, true, true, true, false, false, false, false, false, false, false, false, false, false, false, false, false, false, false, false, false, false] rfl rfl (any_of HT_.out (by kernel_rfl)) (fun _ _ _ h => h) (Or.inr ⟨by rfl, rfl⟩) ?_ ?_
              rotate_left
              · simp only [Act.put, List.setIfInBounds_toArray, List.set_cons_zero, List.set_cons_succ, i64_w, i32_w]
                rfl
              refine pure_ (i := 21) (N := some 39) (v := undef) (a' := ?_) #[true, true, true, true, true, true, true, true, true, true, true, true, true, true, true, true, true, true, true, true, true, true, false, false, false, false, false, false, false, false, false, false, false, false, false, false, false, false, false] rfl rfl (any_of HT_.out (by kernel_rfl)) (fun _ _ _ h => h) (Or.inr ⟨by rfl, rfl⟩) ?_ ?_
              rotate_left
              · simp only [Act.put, List.setIfInBounds_toArray, List.set_cons_zero, List.set_cons_succ, i64_w, i32_w]
                rfl
              refine pure_ (i := 22) (N := some 40) (v := undef) (a' := ?_) #[true, true, true, true, true, true, true, true, true, true, true, true, true, true, true, true, true, true, true, true, true, true, true, false, false, false, false, false, false, false, false, false, false, false, false, false, false, false, false] rfl rfl (any_of HT_.out (by kernel_rfl)) (fun _ _ _ h => h) (Or.inr ⟨by rfl, rfl⟩) ?_ ?_
              rotate_left
              · simp only [Act.put, List.setIfInBounds_toArray, List.set_cons_zero, List.set_cons_succ, i64_w, i32_w]
                rfl
              refine pure_ (i := 23) (N := some 41) (v := ?_) (a' := ?_) #[true, true, true, true, true, true, true, true, true, true, true, true, true, true, true, true, true, true, true, true, true, true, true, true, false, false, false, false, false, false, false, false, false, false, false, false, false, false, false] rfl rfl (any_of HT_.out (by kernel_rfl)) (fun _ _ _ h => h) (Or.inl ⟨by rfl, ?_⟩) ?_ ?_
              rotate_left
              · intro w'
                go_simp
                with_reducible rfl
              rotate_left
              · simp only [Act.put, List.setIfInBounds_toArray, List.set_cons_zero, List.set_cons_succ, i64_w, i32_w]
                rfl
              refine pure_ (i := 24) (N := some 42) (v := ?_) (a' := ?_) #[true, true, true, true, true, true, true, true, true, true, true, true, true, true, true, true, true, true, true, true, true, true, true, true, true, false, false, false, false, false, false, false, false, false, false, false, false, false, false] rfl rfl (any_of HT_.out (by kernel_rfl)) (fun _ _ _ h => h) (Or.inl ⟨by rfl, ?_⟩) ?_ ?_
              rotate_left
              · intro w'
                go_simp
                with_reducible rfl
              rotate_left
              · simp only [Act.put, List.setIfInBounds_toArray, List.set_cons_zero, List.set_cons_succ, i64_w, i32_w]
                rfl
              refine pure_ (i := 25) (N := some 43) (v := undef) (a' := ?_) #[true, true, true, true, true, true, true, true, true, true, true, true, true, true, true, true, true, true, true, true, true, true, true, true, true, true, false, false, false, false, false, false, false, false, false, false, false, false, false] rfl rfl (any_of HT_.out (by kernel_rfl)) (fun _ _ _ h => h) (Or.inr ⟨by rfl, rfl⟩) ?_ ?_
              rotate_left
              · simp only [Act.put, List.setIfInBounds_toArray, List.set_cons_zero, List.set_cons_succ, i64_w, i32_w]
                rfl
              refine pure_ (i := 26) (N := some 44) (v := undef) (a' := ?_) #[true, true, true, true, true, true, true, true, true, true, true, true, true, true, true, true, true, true, true, true, true, true, true, true, true, true, true, false, false, false, false, false, false, false, false, false, false, false, false] rfl rfl (any_of HT_.out (by kernel_rfl)) (fun _ _ _ h => h) (Or.inr ⟨by rfl, rfl⟩) ?_ ?_
              rotate_left
              · simp only [Act.put, List.setIfInBounds_toArray, List.set_cons_zero, List.set_cons_succ, i64_w, i32_w]
                rfl
              refine pure_ (i := 27) (N := some 45) (v := undef) (a' := ?_) #[true, true, true, true, true, true, true, true, true, true, true, true, true, true, true, true, true, true, true, true, true, true, true, true, true, true, true, true, false, false, false, false, false, false, false, false, false, false, false] rfl rfl (any_of HT_.out (by kernel_rfl)) (fun _ _ _ h => h) (Or.inr ⟨by rfl, rfl⟩) ?_ ?_
              rotate_left
              · simp only [Act.put, List.setIfInBounds_toArray, List.set_cons_zero, List.set_cons_succ, i64_w, i32_w]
                rfl
              refine pure_ (i := 28) (N := some 46) (v := undef) (a' := ?_) #[true, true, true, true, true, true, true, true, true, true, true, true, true, true, true, true, true, true, true, true, true, true, true, true, true, true, true, true, true, false, false, false, false, false, false, false, false, false, false] rfl rfl (any_of HT_.out (by kernel_rfl)) (fun _ _ _ h => h) (Or.inr ⟨by rfl, rfl⟩) ?_ ?_
              rotate_left
              · simp only [Act.put, List.setIfInBounds_toArray, List.set_cons_zero, List.set_cons_succ, i64_w, i32_w]
                rfl
              refine pure_ (i := 29) (N := some 47) (v := undef) (a' := ?_) #[true, true, true, true, true, true, true, true, true, true, true, true, true, true, true, true, true, true, true, true, true, true, true, true, true, true, true, true, true, true, false, false, false, false, false, false, false, false, false] rfl rfl (any_of HT_.out (by kernel_rfl)) (fun _ _ _ h => h) (Or.inr ⟨by rfl, rfl⟩) ?_ ?_
              rotate_left
              · simp only [Act.put, List.setIfInBounds_toArray, List.set_cons_zero, List.set_cons_succ, i64_w, i32_w]
                rfl
              refine pure_ (i := 30) (N := some 48) (v := undef) (a' := ?_) #[true, true, true, true, true, true, true, true, true, true, true, true, true, true, true, true, true, true, true, true, true, true, true, true, true, true, true, true, true, true, true, false, false, false, false, false, false, false, false] rfl rfl (any_of HT_.out (by kernel_rfl)) (fun _ _ _ h => h) (Or.inr ⟨by rfl, rfl⟩) ?_ ?_
              rotate_left
              · simp only [Act.put, List.setIfInBounds_toArray, List.set_cons_zero, List.set_cons_succ, i64_w, i32_w]
                rfl
              refine pure_ (i := 31) (N := some 49) (v := undef) (a' := ?_) #[true, true, true, true, true, true, true, true, true, true, true, true, true, true, true, true, true, true, true, true, true, true, true, true, true, true, true, true, true, true, true, true, false, false, false, false, false, false, false] rfl rfl (any_of HT_.out (by kernel_rfl)) (fun _ _ _ h => h) (Or.inr ⟨by rfl, rfl⟩) ?_ ?_
              rotate_left
              · simp only [Act.put, List.setIfInBounds_toArray, List.set_cons_zero, List.set_cons_succ, i64_w, i32_w]
                rfl
              refine pure_ (i := 32) (N := some 50) (v := undef) (a' := ?_) #[true, true, true, true, true, true, true, true, true, true, true, true, true, true, true, true, true, true, true, true, true, true, true, true, true, true, true, true, true, true, true, true, true, false, false, false, false, false, false] rfl rfl (any_of HT_.out (by kernel_rfl)) (fun _ _ _ h => h) (Or.inr ⟨by rfl, rfl⟩) ?_ ?_
              rotate_left
              · simp only [Act.put, List.setIfInBounds_toArray, List.set_cons_zero, List.set_cons_succ, i64_w, i32_w]
                rfl
              refine pure_ (i := 33) (N := some 51) (v := undef) (a' := ?_) #[true, true, true, true, true, true, true, true, true, true, true, true, true, true, true, true, true, true, true, true, true, true, true, true, true, true, true, true, true, true, true, true, true, true, false, false, false, false, false] rfl rfl (any_of HT_.out (by kernel_rfl)) (fun _ _ _ h => h) (Or.inr ⟨by rfl, rfl⟩) ?_ ?_
              rotate_left
              · simp only [Act.put, List.setIfInBounds_toArray, List.set_cons_zero, List.set_cons_succ, i64_w, i32_w]
                rfl
              refine pure_ (i := 34) (N := some 52) (v := undef) (a' := ?_) #[true, true, true, true, true, true, true, true, true, true, true, true, true, true, true, true, true, true, true, true, true, true, true, true, true, true, true, true, true, true, true, true, true, true, true, false, false, false, false] rfl rfl (any_of HT_.out (by kernel_rfl)) (fun _ _ _ h => h) (Or.inr ⟨by rfl, rfl⟩) ?_ ?_
              rotate_left
              · simp only [Act.put, List.setIfInBounds_toArray, List.set_cons_zero, List.set_cons_succ, i64_w, i32_w]
                rfl
              refine pure_ (i := 35) (N := some 53) (v := undef) (a' := ?_) #[true, true, true, true, true, true, true, true, true, true, true, true, true, true, true, true, true, true, true, true, true, true, true, true, true, true, true, true, true, true, true, true, true, true, true, true, false, false, false] rfl rfl (any_of HT_.out (by kernel_rfl)) (fun _ _ _ h => h) (Or.inr ⟨by rfl, rfl⟩) ?_ ?_
              rotate_left
              · simp only [Act.put, List.setIfInBounds_toArray, List.set_cons_zero, List.set_cons_succ, i64_w, i32_w]
                rfl
              refine pure_ (i := 36) (N := some 54) (v := undef) (a' := ?_) #[true, true, true, true, true, true, true, true, true, true, true, true, true, true, true, true, true, true, true, true, true, true, true, true, true, true, true, true, true, true, true, true, true, true, true, true, true, false, false] rfl rfl (any_of HT_.out (by kernel_rfl)) (fun _ _ _ h => h) (Or.inr ⟨by rfl, rfl⟩) ?_ ?_
              rotate_left
              · simp only [Act.put, List.setIfInBounds_toArray, List.set_cons_zero, List.set_cons_succ, i64_w, i32_w]
                rfl
              refine pure_ (i := 37) (N := some 55) (v := undef) (a' := ?_) #[true, true, true, true, true, true, true, true, true, true, true, true, true, true, true, true, true, true, true, true, true, true, true, true, true, true, true, true, true, true, true, true, true, true, true, true, true, true, false] rfl rfl (any_of HT_.out (by kernel_rfl)) (fun _ _ _ h => h) (Or.inr ⟨by rfl, rfl⟩) ?_ ?_
              rotate_left
              · simp only [Act.put, List.setIfInBounds_toArray, List.set_cons_zero, List.set_cons_succ, i64_w, i32_w]
                rfl
              refine pure_ (i := 38) (N := some 56) (v := ?_) (a' := ?_) #[true, true, true, true, true, true, true, true, true, true, true, true, true, true, true, true, true, true, true, true, true, true, true, true, true, true, true, true, true, true, true, true, true, true, true, true, true, true, true] rfl rfl (any_of HT_.out (by kernel_rfl)) (fun _ _ _ h => h) (Or.inl ⟨by rfl, ?_⟩) ?_ ?_
              rotate_left
              · intro w'
                go_simp
                with_reducible rfl
              rotate_left
              · simp only [Act.put, List.setIfInBounds_toArray, List.set_cons_zero, List.set_cons_succ, i64_w, i32_w]
                rfl
              refine done_ (done_of HT_.out (by kernel_rfl)) ?_
              try go_wp2
              go_ret
              exact ⟨by first | rfl | (simp [errW_none, errW_some] <;> rfl) | (simp [*, errW_none, errW_some] <;> rfl), by repeat (first | (with_reducible first | exact HB.out | apply below_alloc | apply pw_below_drewN | apply below_drew1) | exact HB.out)⟩
          · rw [if_neg c5] at H
            exact absurd H (by simp)
        · rw [if_neg c4] at H
          have c4b0 : decide (x3_1 < (l0.length : Int)) = false := decide_eq_false c4
          clear c4
          obtain rfl := Option.some.inj H
          go_wp2
          go_ret
          exact ⟨by first | rfl | (simp [errW_none, errW_some] <;> rfl) | (simp [*, errW_none, errW_some] <;> rfl), by repeat (first | (with_reducible first | exact HB.out | apply below_alloc | apply pw_below_drewN | apply below_drew1) | exact HB.out)⟩
  · replace c3 := Bool.eq_false_iff.mpr c3
    subst c3
    have H1 : (some false) = some r := by rw [if_neg (show ¬ (false = true) by decide)] at H; exact H
    clear H
    have H := H1
    clear H1
    obtain rfl := Option.some.inj H
    go_enter Try.func171, Try.ntmps171
    go_wp2_with (first | ((with_reducible refine gate_callee (f := 99) rfl ?_); refine goesL_ (some 7) rfl rfl Try.func99 (by kernel_rfl) rfl #[.int .i64 (l0.length : Int), .int .i64 1, .int .i64 6] rfl (by (try simp only [List.map_toArray, List.map_cons, List.map_nil]); first | done | rfl | (simp only [List.length_drop, List.length_take]; rfl)) ?_; (with_reducible refine (spec_l00In.calls (l0.length : Int) 1 6 false _ A2.out).mono ?_); rintro e w' ⟨rfl, ⟨nd, rfl⟩⟩; refine ⟨_, rfl, ?_⟩))
    go_ret
    exact ⟨by first | rfl | (simp [errW_none, errW_some] <;> rfl) | (simp [*, errW_none, errW_some] <;> rfl), by repeat (first | (with_reducible first | exact HB.out | apply below_alloc | apply pw_below_drewN | apply below_drew1) | exact HB.out)⟩

end Go.Proofs.Ytbobbihbikocbaa.XFnExactPeriodOfAll
