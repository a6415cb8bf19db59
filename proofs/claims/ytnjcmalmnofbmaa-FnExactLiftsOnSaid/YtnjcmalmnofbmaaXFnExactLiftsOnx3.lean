/- Printed by this repository's own program (wip/tools/xprint.py) for the law FnExactLiftsOn: Lean functions that say what the Go functions compute, and the proofs that the machine comes to just that; no condition beyond those in each statement. -/
import Derived.Test.YtnjcmalmnofbmaaXFnExactLiftsOnx0
import Derived.Test.YtnjcmalmnofbmaaXFnExactLiftsOnx2
namespace Go.Proofs.Ytnjcmalmnofbmaa.XFnExactLiftsOn
open Go.RowKit Go.Proofs.YtnjcmalmnofbmaaW.PrintWords Go.Proofs.YtnjcmalmnofbmaaW.PrintLast Go.Proofs.YtnjcmalmnofbmaaW.PrintMore
attribute [local go_sem] max2_int min2_int max_two min_two max_three min_three max_four min_four   -- for this text's walks alone
set_option linter.unusedVariables false
set_option linter.unusedSimpArgs false

/-! ### steps of spec_l04Ok that come again: each is read where it is used -/
theorem a1_ {p : Prop} (h : p := by first | exact ((HB.out.cell (World.block_lt_of_cell? w _ hw162_0)).trans hw162_0) | exact ((HB.out.cell (World.block_lt_of_cell? w _ hv162_0)).trans hv162_0) | exact hx162_0) : p := h
theorem a2_ {p : Prop} (h : p := by first | exact ((HB.out.cell (World.block_lt_of_cell? w _ hw162_1)).trans hw162_1) | exact ((HB.out.cell (World.block_lt_of_cell? w _ hv162_1)).trans hv162_1) | exact hx162_1) : p := h
theorem a3_ {p : Prop} (h : p := by first | exact ((HB.out.cell (World.block_lt_of_cell? w _ hw162_2)).trans hw162_2) | exact ((HB.out.cell (World.block_lt_of_cell? w _ hv162_2)).trans hv162_2) | exact hx162_2) : p := h
theorem a4_ {p : Prop} (h : p := by first | exact ((HB.out.cell (World.block_lt_of_cell? w _ hw162_3)).trans hw162_3) | exact ((HB.out.cell (World.block_lt_of_cell? w _ hv162_3)).trans hv162_3) | exact hx162_3) : p := h
theorem a5_ {p : Prop} (h : p := by first | exact ((HB.out.cell (World.block_lt_of_cell? w _ hw164_0)).trans hw164_0) | exact ((HB.out.cell (World.block_lt_of_cell? w _ hv164_0)).trans hv164_0) | exact hx164_0) : p := h
theorem a6_ {p : Prop} (h : p := by first | exact ((HB.out.cell (World.block_lt_of_cell? w _ hw164_1)).trans hw164_1) | exact ((HB.out.cell (World.block_lt_of_cell? w _ hv164_1)).trans hv164_1) | exact hx164_1) : p := h
theorem a7_ {p : Prop} (h : p := by first | exact ((HB.out.cell (World.block_lt_of_cell? w _ hw164_2)).trans hw164_2) | exact ((HB.out.cell (World.block_lt_of_cell? w _ hv164_2)).trans hv164_2) | exact hx164_2) : p := h
theorem a8_ {p : Prop} (h : p := by first | exact ((HB.out.cell (World.block_lt_of_cell? w _ hw164_3)).trans hw164_3) | exact ((HB.out.cell (World.block_lt_of_cell? w _ hv164_3)).trans hv164_3) | exact hx164_3) : p := h
theorem a9_ {p : Prop} (h : p := by first | exact ((HB.out.cell (World.block_lt_of_cell? w _ hw166_0)).trans hw166_0) | exact ((HB.out.cell (World.block_lt_of_cell? w _ hv166_0)).trans hv166_0) | exact hx166_0) : p := h
theorem a10_ {p : Prop} (h : p := by first | exact ((HB.out.cell (World.block_lt_of_cell? w _ hw166_1)).trans hw166_1) | exact ((HB.out.cell (World.block_lt_of_cell? w _ hv166_1)).trans hv166_1) | exact hx166_1) : p := h
theorem a11_ {p : Prop} (h : p := by first | exact ((HB.out.cell (World.block_lt_of_cell? w _ hw166_2)).trans hw166_2) | exact ((HB.out.cell (World.block_lt_of_cell? w _ hv166_2)).trans hv166_2) | exact hx166_2) : p := h
theorem a12_ {p : Prop} (h : p := by first | exact ((HB.out.cell (World.block_lt_of_cell? w _ hw166_3)).trans hw166_3) | exact ((HB.out.cell (World.block_lt_of_cell? w _ hv166_3)).trans hv166_3) | exact hx166_3) : p := h
theorem a13_ {p : Prop} (h : p := by (try simp only [List.map_toArray, List.map_cons, List.map_nil]); first | done | rfl | (simp only [List.length_drop, List.length_take]; rfl)) : p := h
theorem a14_ {p : Prop} (h : p := by first | (with_reducible assumption) | assumption) : p := h
theorem a15_ {p : Prop} (h : p := by first | exact ((HB.out.cell (World.block_lt_of_cell? w _ hw168_0)).trans hw168_0) | exact ((HB.out.cell (World.block_lt_of_cell? w _ hv168_0)).trans hv168_0) | exact hx168_0) : p := h
theorem a16_ {p : Prop} (h : p := by first | exact ((HB.out.cell (World.block_lt_of_cell? w _ hw168_1)).trans hw168_1) | exact ((HB.out.cell (World.block_lt_of_cell? w _ hv168_1)).trans hv168_1) | exact hx168_1) : p := h
theorem a17_ {p : Prop} (h : p := by first | exact ((HB.out.cell (World.block_lt_of_cell? w _ hw168_2)).trans hw168_2) | exact ((HB.out.cell (World.block_lt_of_cell? w _ hv168_2)).trans hv168_2) | exact hx168_2) : p := h
theorem a18_ {p : Prop} (h : p := by first | exact ((HB.out.cell (World.block_lt_of_cell? w _ hw168_3)).trans hw168_3) | exact ((HB.out.cell (World.block_lt_of_cell? w _ hv168_3)).trans hv168_3) | exact hx168_3) : p := h
theorem a19_ {p : Prop} (h : p := by first | exact ((HB.out.cell (World.block_lt_of_cell? w _ hw169_0)).trans hw169_0) | exact ((HB.out.cell (World.block_lt_of_cell? w _ hv169_0)).trans hv169_0) | exact hx169_0) : p := h
theorem a20_ {p : Prop} (h : p := by first | exact ((HB.out.cell (World.block_lt_of_cell? w _ hw169_1)).trans hw169_1) | exact ((HB.out.cell (World.block_lt_of_cell? w _ hv169_1)).trans hv169_1) | exact hx169_1) : p := h
theorem a21_ {p : Prop} (h : p := by first | exact ((HB.out.cell (World.block_lt_of_cell? w _ hw169_2)).trans hw169_2) | exact ((HB.out.cell (World.block_lt_of_cell? w _ hv169_2)).trans hv169_2) | exact hx169_2) : p := h
theorem a22_ {p : Prop} (h : p := by first | exact ((HB.out.cell (World.block_lt_of_cell? w _ hw169_3)).trans hw169_3) | exact ((HB.out.cell (World.block_lt_of_cell? w _ hv169_3)).trans hv169_3) | exact hx169_3) : p := h
theorem a23_ {p : Prop} (h : p := by repeat (first | (with_reducible first | exact HB.out | apply below_alloc | apply pw_below_drewN | apply below_drew1) | exact HB.out)) : p := h
theorem a24_ {p : Prop} (h : p := by repeat (first | exact (Kd.C_below HR166_3.out a23_) | (with_reducible refine Kd.C_alloc ?_ _) | (with_reducible refine Kd.C_drewN ?_ _) | (with_reducible refine Kd.C_drew ?_))) : p := h

/-! ### spec_l04Ok: function 124 -/
def spec_l04Ok.l0 : Nat → List (S144) → Int → Option (Bool)
  | 0, _, _ => none
  | k + 1, x0, x3 => if x3 < (x0.length : Int) then (if 0 ≤ x3 then ((spec_l00In.f (wrap64 ((rd_T144 x0 x3).f0)) 1 60).bind fun t163 => (if t163 = true then ((spec_l00In.f (wrap64 ((rd_T144 x0 x3).f1)) 1 60).bind fun t165 => (if t165 = true then ((spec_l01Ok.f k ((rd_T144 x0 x3).f3)).bind fun t167 => (if t167 = true then ((spec_l00In.f (wrap64 ((rd_T144 x0 x3).f2)) 0 (wrap64 ((((rd_T144 x0 x3).f3).length : Int) - 1))).bind fun t170 => (if t170 = true then (spec_l04Ok.l0 k x0 (wrap64 (x3 + 1))) else (some false))) else (some false))) else (some false))) else (some false))) else (none)) else (some true)
def spec_l04Ok.f (k : Nat) (l0 : List (S144)) : Option (Bool) := (spec_l00In.f (l0.length : Int) 1 6).bind fun t160 => (if t160 = true then (spec_l04Ok.l0 k l0 0) else (some false))
theorem spec_l04Ok.mono_l : ∀ k, (∀ y0 y1, LeO (spec_l04Ok.l0 k y0 y1) (spec_l04Ok.l0 (k + 1) y0 y1))
  | 0 => fun _ _ r h => by simp [spec_l04Ok.l0] at h
  | k + 1 => by
    have ih0 := spec_l04Ok.mono_l k
    · intro y0 y1
      unfold spec_l04Ok.l0
      repeat' first
      | (with_reducible exact ih0 _ _)
      | (with_reducible exact spec_l01Ok.mono _ _)
      | (with_reducible exact LeO.refl _)
      | (with_reducible exact LeO.none _)
      | (with_reducible refine LeO.ite ?_ ?_)
      | (with_reducible refine LeO.bind ?_ (fun _ => ?_))
      | exact ih0 _ _
      | exact spec_l01Ok.mono _ _
      | exact LeO.none _
      | refine LeO.ite ?_ ?_
      | refine LeO.bind ?_ (fun _ => ?_)
theorem spec_l04Ok.mono : ∀ a0 k, LeO (spec_l04Ok.f k a0) (spec_l04Ok.f (k + 1) a0) := by
  intro a0 k
  have ih0 := spec_l04Ok.mono_l k
  unfold spec_l04Ok.f
  repeat' first
      | (with_reducible exact ih0 _ _)
      | (with_reducible exact spec_l01Ok.mono _ _)
      | (with_reducible exact LeO.refl _)
      | (with_reducible exact LeO.none _)
      | (with_reducible refine LeO.ite ?_ ?_)
      | (with_reducible refine LeO.bind ?_ (fun _ => ?_))
      | exact ih0 _ _
      | exact spec_l01Ok.mono _ _
      | exact LeO.none _
      | refine LeO.ite ?_ ?_
      | refine LeO.bind ?_ (fun _ => ?_)
def spec_l04Ok.T7 : Bool × List (List Nat × List Nat) := (true, [([], []), ([0], [0]), ([1], [1]), ([2], [2]), ([3], [3]), ([4], [4]), ([5], [5]), ([6, 5], [6]), ([7], [7]), ([8, 7], [7, 8]), ([9, 7], [7, 9]), ([10, 7], [7, 10]), ([11, 7], [7, 11]), ([12, 7, 7], [7, 12]), ([13, 7], [7, 13]), ([7, 14], [7, 14]), ([15, 13], [15]), ([16], [16]), ([17, 16], [16, 17]), ([18, 16], [16, 18]), ([19, 16], [16, 19]), ([20, 16, 16], [16, 20]), ([21, 16], [16, 21]), ([16, 22], [16, 22]), ([23, 21], [23]), ([24], [24]), ([25, 24], [24, 25]), ([26, 24], [24, 26]), ([27, 24], [24, 27]), ([28, 24], [24, 28]), ([24], [24]), ([30, 24], [24, 30]), ([31, 24], [24, 31]), ([32, 24], [24, 32]), ([33, 24], [24, 33]), ([34, 24], [24, 34]), ([29, 35, 24, 24], [24, 29, 35]), ([36, 24], [24, 36]), ([24, 37], [24, 37])])
def spec_l04Ok.B7 : List Nat := [0, 1, 3, 7, 15, 31, 63, 127, 255, 511, 1023, 2047, 4095, 8191, 16383, 32767, 65535, 131071, 262143, 524287, 1048575, 2097151, 4194303, 8388607, 16777215, 33554431, 67108863, 134217727, 268435455, 536870911, 33554431, 1107296255, 3254779903, 7549747199, 16139681791, 33319550975, 68719476735, 137438953471, 274877906943]
theorem spec_l04Ok.tab7 : rtab .any (opsOf Try.f124 7) = spec_l04Ok.T7 := by kernel_rfl
theorem spec_l04Ok.bits7 : waitsOk spec_l04Ok.T7.2 spec_l04Ok.B7 = true := by kernel_rfl
/-! ### spec_l04Ok: what follows is its proof -/

end Go.Proofs.Ytnjcmalmnofbmaa.XFnExactLiftsOn
