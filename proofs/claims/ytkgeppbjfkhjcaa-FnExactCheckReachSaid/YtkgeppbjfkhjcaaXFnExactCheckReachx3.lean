/- Printed by this repository's own program (wip/tools/xprint.py) for the law FnExactCheckReach: Lean functions that say what the Go functions compute, and the proofs that the machine comes to just that; no condition beyond those in each statement. -/
import Derived.Deep.WholeRow
import Derived.Laws.CopyOwn
import Derived.Test.YtkgeppbjfkhjcaaXFnExactCheckReachx0
import Derived.Test.YtkgeppbjfkhjcaaXFnExactCheckReachx1
import Derived.Test.YtkgeppbjfkhjcaaXFnExactCheckReachx2
namespace Go.Proofs.Ytkgeppbjfkhjcaa.XFnExactCheckReach
open Go.RowKit Go.Proofs.YtkgeppbjfkhjcaaW.PrintWords Go.Proofs.YtkgeppbjfkhjcaaW.PrintLast Go.Proofs.YtkgeppbjfkhjcaaW.PrintMore
attribute [local go_sem] max2_int min2_int max_two min_two max_three min_three max_four min_four   -- for this text's walks alone
set_option linter.unusedVariables false
set_option linter.unusedSimpArgs false

/-! ### spec_CheckReach: function 13 -/
mutual
def spec_CheckReach.j0 : Nat → List (S69) → Int → Bool → List Int → Int → Int → Int → Int → Option (Bool × Int)
  | 0, _, _, _, _, _, _, _, _ => none
  | k + 1, x4, x12, x15, x129000, x129001, x129002, x129003, x129004 => spec_CheckReach.l0 k x4 x12 x15 1 x129000 x129001 x129002 x129003 x129004
def spec_CheckReach.l0 : Nat → List (S69) → Int → Bool → Int → List Int → Int → Int → Int → Int → Option (Bool × Int)
  | 0, _, _, _, _, _, _, _, _, _ => none
  | k + 1, x4, x12, x15, x16, x129000, x129001, x129002, x129003, x129004 => if x16 ≤ (wrap64 (x12 + 2)) then (spec_CheckReach.j2 k x4 x12 x15 x16 x15 x129000 x129001 x129002 x129003 x129004) else (spec_CheckReach.j2 k x4 x12 x15 x16 false x129000 x129001 x129002 x129003 x129004)
def spec_CheckReach.j2 : Nat → List (S69) → Int → Bool → Int → Bool → List Int → Int → Int → Int → Int → Option (Bool × Int)
  | 0, _, _, _, _, _, _, _, _, _, _ => none
  | k + 1, x4, x12, x15, x16, x65, x129000, x129001, x129002, x129003, x129004 => if x65 = true then (spec_CheckReach.l1 k x4 x12 x15 x16 0 x129000 x129001 x129002 x129003 x129004) else (some (x15, 0))
def spec_CheckReach.l1 : Nat → List (S69) → Int → Bool → Int → Int → List Int → Int → Int → Int → Int → Option (Bool × Int)
  | 0, _, _, _, _, _, _, _, _, _, _ => none
  | k + 1, x4, x12, x15, x16, x17, x129000, x129001, x129002, x129003, x129004 => if x17 < 64 then (spec_CheckReach.l2 k x4 x12 x15 x16 x17 0 x129000 x129001 x129002 x129003 x129004) else (spec_CheckReach.l0 k x4 x12 x15 (wrap64 (x16 + 1)) x129000 x129001 x129002 x129003 x129004)
def spec_CheckReach.l2 : Nat → List (S69) → Int → Bool → Int → Int → Int → List Int → Int → Int → Int → Int → Option (Bool × Int)
  | 0, _, _, _, _, _, _, _, _, _, _, _ => none
  | k + 1, x4, x12, x15, x16, x17, x18, x129000, x129001, x129002, x129003, x129004 => if x18 < 64 then (if 0 ≤ (wrap64 (x16 - 1)) then (if (wrap64 (x16 - 1)) < (x4.length : Int) then ((plate_get.f ((rd_T69 x4 (wrap64 (x16 - 1))).f0) x17).bind fun t135 => (if 0 ≤ (IntKind.u64.wrap (x18)) then (if (Go.bits .and .u64 (shr .u64 t135 (IntKind.u64.wrap (x18))) 1) = 1 then (if x15 = true then ((spec_l05Stretch_may.f x129000 x129001 x129002 x129003 x129004 x17 x18 x16).bind fun t136 => (if 0 ≤ x16 then (if x16 < (x4.length : Int) then ((plate_get.f ((rd_T69 x4 x16).f0) x18).bind fun t138 => (spec_CheckReach.l2 k x4 x12 ((Go.bits .andNot .u64 t136 t138) == 0) x16 x17 (wrap64 (x18 + 1)) x129000 x129001 x129002 x129003 x129004)) else (none)) else (none))) else (spec_CheckReach.l2 k x4 x12 false x16 x17 (wrap64 (x18 + 1)) x129000 x129001 x129002 x129003 x129004)) else (spec_CheckReach.l2 k x4 x12 x15 x16 x17 (wrap64 (x18 + 1)) x129000 x129001 x129002 x129003 x129004)) else (none))) else (none)) else (none)) else (spec_CheckReach.l1 k x4 x12 x15 x16 (wrap64 (x17 + 1)) x129000 x129001 x129002 x129003 x129004)
end
def spec_CheckReach.f (k : Nat) (l0 : List Int) (a1 : Int) (a2 : Int) (a3 : Int) (l4 : List (S69)) : Option (Bool × Int) := (spec_l05Asked.f k l0 a1 (wrap64 ((l4.length : Int) - 3)) a2 a3).bind fun t127 => (if t127 = 0 then (if 0 < (l4.length : Int) then ((spec_l05Stretch_at.f l0 a1 (wrap64 ((l4.length : Int) - 3)) a2 a3 (wrap64 (a1 - 2))).bind fun t130 => ((spec_l05Stretch_at.f l0 a1 (wrap64 ((l4.length : Int) - 3)) a2 a3 (wrap64 (a1 - 1))).bind fun t131 => ((spec_HasPair.f ((rd_T69 l4 0).f0) t130 t131).bind fun t132 => (if t132 = true then (if 0 ≤ (wrap64 ((wrap64 ((l4.length : Int) - 3)) + 2)) then (if (wrap64 ((wrap64 ((l4.length : Int) - 3)) + 2)) < (l4.length : Int) then (if plq ((rd_T69 l4 (wrap64 ((wrap64 ((l4.length : Int) - 3)) + 2))).f0) = true then (spec_CheckReach.j0 k l4 (wrap64 ((l4.length : Int) - 3)) true l0 a1 (wrap64 ((l4.length : Int) - 3)) a2 a3) else (spec_CheckReach.j0 k l4 (wrap64 ((l4.length : Int) - 3)) false l0 a1 (wrap64 ((l4.length : Int) - 3)) a2 a3)) else (none)) else (none)) else (spec_CheckReach.j0 k l4 (wrap64 ((l4.length : Int) - 3)) false l0 a1 (wrap64 ((l4.length : Int) - 3)) a2 a3))))) else (none)) else (some (false, t127)))
theorem spec_CheckReach.mono_l : ∀ k, (∀ y0 y1 y2 y3 y4 y5 y6 y7, LeO (spec_CheckReach.j0 k y0 y1 y2 y3 y4 y5 y6 y7) (spec_CheckReach.j0 (k + 1) y0 y1 y2 y3 y4 y5 y6 y7)) ∧ (∀ y0 y1 y2 y3 y4 y5 y6 y7 y8, LeO (spec_CheckReach.l0 k y0 y1 y2 y3 y4 y5 y6 y7 y8) (spec_CheckReach.l0 (k + 1) y0 y1 y2 y3 y4 y5 y6 y7 y8)) ∧ (∀ y0 y1 y2 y3 y4 y5 y6 y7 y8 y9, LeO (spec_CheckReach.j2 k y0 y1 y2 y3 y4 y5 y6 y7 y8 y9) (spec_CheckReach.j2 (k + 1) y0 y1 y2 y3 y4 y5 y6 y7 y8 y9)) ∧ (∀ y0 y1 y2 y3 y4 y5 y6 y7 y8 y9, LeO (spec_CheckReach.l1 k y0 y1 y2 y3 y4 y5 y6 y7 y8 y9) (spec_CheckReach.l1 (k + 1) y0 y1 y2 y3 y4 y5 y6 y7 y8 y9)) ∧ (∀ y0 y1 y2 y3 y4 y5 y6 y7 y8 y9 y10, LeO (spec_CheckReach.l2 k y0 y1 y2 y3 y4 y5 y6 y7 y8 y9 y10) (spec_CheckReach.l2 (k + 1) y0 y1 y2 y3 y4 y5 y6 y7 y8 y9 y10))
  | 0 => ⟨fun _ _ _ _ _ _ _ _ r h => by simp [spec_CheckReach.j0] at h, fun _ _ _ _ _ _ _ _ _ r h => by simp [spec_CheckReach.l0] at h, fun _ _ _ _ _ _ _ _ _ _ r h => by simp [spec_CheckReach.j2] at h, fun _ _ _ _ _ _ _ _ _ _ r h => by simp [spec_CheckReach.l1] at h, fun _ _ _ _ _ _ _ _ _ _ _ r h => by simp [spec_CheckReach.l2] at h⟩
  | k + 1 => by
    obtain ⟨ih0, ih1, ih2, ih3, ih4⟩ := spec_CheckReach.mono_l k
    refine ⟨?_, ?_, ?_, ?_, ?_⟩
    · intro y0 y1 y2 y3 y4 y5 y6 y7
      unfold spec_CheckReach.j0
      repeat' first
      | (with_reducible exact ih0 _ _ _ _ _ _ _ _)
      | (with_reducible exact ih1 _ _ _ _ _ _ _ _ _)
      | (with_reducible exact ih2 _ _ _ _ _ _ _ _ _ _)
      | (with_reducible exact ih3 _ _ _ _ _ _ _ _ _ _)
      | (with_reducible exact ih4 _ _ _ _ _ _ _ _ _ _ _)
      | (with_reducible exact spec_l05Asked.mono _ _ _ _ _ _)
      | (with_reducible exact LeO.refl _)
      | (with_reducible exact LeO.none _)
      | (with_reducible refine LeO.ite ?_ ?_)
      | (with_reducible refine LeO.bind ?_ (fun _ => ?_))
      | exact ih0 _ _ _ _ _ _ _ _
      | exact ih1 _ _ _ _ _ _ _ _ _
      | exact ih2 _ _ _ _ _ _ _ _ _ _
      | exact ih3 _ _ _ _ _ _ _ _ _ _
      | exact ih4 _ _ _ _ _ _ _ _ _ _ _
      | exact spec_l05Asked.mono _ _ _ _ _ _
      | exact LeO.none _
      | refine LeO.ite ?_ ?_
      | refine LeO.bind ?_ (fun _ => ?_)
    · intro y0 y1 y2 y3 y4 y5 y6 y7 y8
      unfold spec_CheckReach.l0
      repeat' first
      | (with_reducible exact ih0 _ _ _ _ _ _ _ _)
      | (with_reducible exact ih1 _ _ _ _ _ _ _ _ _)
      | (with_reducible exact ih2 _ _ _ _ _ _ _ _ _ _)
      | (with_reducible exact ih3 _ _ _ _ _ _ _ _ _ _)
      | (with_reducible exact ih4 _ _ _ _ _ _ _ _ _ _ _)
      | (with_reducible exact spec_l05Asked.mono _ _ _ _ _ _)
      | (with_reducible exact LeO.refl _)
      | (with_reducible exact LeO.none _)
      | (with_reducible refine LeO.ite ?_ ?_)
      | (with_reducible refine LeO.bind ?_ (fun _ => ?_))
      | exact ih0 _ _ _ _ _ _ _ _
      | exact ih1 _ _ _ _ _ _ _ _ _
      | exact ih2 _ _ _ _ _ _ _ _ _ _
      | exact ih3 _ _ _ _ _ _ _ _ _ _
      | exact ih4 _ _ _ _ _ _ _ _ _ _ _
      | exact spec_l05Asked.mono _ _ _ _ _ _
      | exact LeO.none _
      | refine LeO.ite ?_ ?_
      | refine LeO.bind ?_ (fun _ => ?_)
    · intro y0 y1 y2 y3 y4 y5 y6 y7 y8 y9
      unfold spec_CheckReach.j2
      repeat' first
      | (with_reducible exact ih0 _ _ _ _ _ _ _ _)
      | (with_reducible exact ih1 _ _ _ _ _ _ _ _ _)
      | (with_reducible exact ih2 _ _ _ _ _ _ _ _ _ _)
      | (with_reducible exact ih3 _ _ _ _ _ _ _ _ _ _)
      | (with_reducible exact ih4 _ _ _ _ _ _ _ _ _ _ _)
      | (with_reducible exact spec_l05Asked.mono _ _ _ _ _ _)
      | (with_reducible exact LeO.refl _)
      | (with_reducible exact LeO.none _)
      | (with_reducible refine LeO.ite ?_ ?_)
      | (with_reducible refine LeO.bind ?_ (fun _ => ?_))
      | exact ih0 _ _ _ _ _ _ _ _
      | exact ih1 _ _ _ _ _ _ _ _ _
      | exact ih2 _ _ _ _ _ _ _ _ _ _
      | exact ih3 _ _ _ _ _ _ _ _ _ _
      | exact ih4 _ _ _ _ _ _ _ _ _ _ _
      | exact spec_l05Asked.mono _ _ _ _ _ _
      | exact LeO.none _
      | refine LeO.ite ?_ ?_
      | refine LeO.bind ?_ (fun _ => ?_)
    · intro y0 y1 y2 y3 y4 y5 y6 y7 y8 y9
      unfold spec_CheckReach.l1
      repeat' first
      | (with_reducible exact ih0 _ _ _ _ _ _ _ _)
      | (with_reducible exact ih1 _ _ _ _ _ _ _ _ _)
      | (with_reducible exact ih2 _ _ _ _ _ _ _ _ _ _)
      | (with_reducible exact ih3 _ _ _ _ _ _ _ _ _ _)
      | (with_reducible exact ih4 _ _ _ _ _ _ _ _ _ _ _)
      | (with_reducible exact spec_l05Asked.mono _ _ _ _ _ _)
      | (with_reducible exact LeO.refl _)
      | (with_reducible exact LeO.none _)
      | (with_reducible refine LeO.ite ?_ ?_)
      | (with_reducible refine LeO.bind ?_ (fun _ => ?_))
      | exact ih0 _ _ _ _ _ _ _ _
      | exact ih1 _ _ _ _ _ _ _ _ _
      | exact ih2 _ _ _ _ _ _ _ _ _ _
      | exact ih3 _ _ _ _ _ _ _ _ _ _
      | exact ih4 _ _ _ _ _ _ _ _ _ _ _
      | exact spec_l05Asked.mono _ _ _ _ _ _
      | exact LeO.none _
      | refine LeO.ite ?_ ?_
      | refine LeO.bind ?_ (fun _ => ?_)
    · intro y0 y1 y2 y3 y4 y5 y6 y7 y8 y9 y10
      unfold spec_CheckReach.l2
      repeat' first
      | (with_reducible exact ih0 _ _ _ _ _ _ _ _)
      | (with_reducible exact ih1 _ _ _ _ _ _ _ _ _)
      | (with_reducible exact ih2 _ _ _ _ _ _ _ _ _ _)
      | (with_reducible exact ih3 _ _ _ _ _ _ _ _ _ _)
      | (with_reducible exact ih4 _ _ _ _ _ _ _ _ _ _ _)
      | (with_reducible exact spec_l05Asked.mono _ _ _ _ _ _)
      | (with_reducible exact LeO.refl _)
      | (with_reducible exact LeO.none _)
      | (with_reducible refine LeO.ite ?_ ?_)
      | (with_reducible refine LeO.bind ?_ (fun _ => ?_))
      | exact ih0 _ _ _ _ _ _ _ _
      | exact ih1 _ _ _ _ _ _ _ _ _
      | exact ih2 _ _ _ _ _ _ _ _ _ _
      | exact ih3 _ _ _ _ _ _ _ _ _ _
      | exact ih4 _ _ _ _ _ _ _ _ _ _ _
      | exact spec_l05Asked.mono _ _ _ _ _ _
      | exact LeO.none _
      | refine LeO.ite ?_ ?_
      | refine LeO.bind ?_ (fun _ => ?_)
theorem spec_CheckReach.mono : ∀ a0 a1 a2 a3 a4 k, LeO (spec_CheckReach.f k a0 a1 a2 a3 a4) (spec_CheckReach.f (k + 1) a0 a1 a2 a3 a4) := by
  intro a0 a1 a2 a3 a4 k
  obtain ⟨ih0, ih1, ih2, ih3, ih4⟩ := spec_CheckReach.mono_l k
  unfold spec_CheckReach.f
  repeat' first
      | (with_reducible exact ih0 _ _ _ _ _ _ _ _)
      | (with_reducible exact ih1 _ _ _ _ _ _ _ _ _)
      | (with_reducible exact ih2 _ _ _ _ _ _ _ _ _ _)
      | (with_reducible exact ih3 _ _ _ _ _ _ _ _ _ _)
      | (with_reducible exact ih4 _ _ _ _ _ _ _ _ _ _ _)
      | (with_reducible exact spec_l05Asked.mono _ _ _ _ _ _)
      | (with_reducible exact LeO.refl _)
      | (with_reducible exact LeO.none _)
      | (with_reducible refine LeO.ite ?_ ?_)
      | (with_reducible refine LeO.bind ?_ (fun _ => ?_))
      | exact ih0 _ _ _ _ _ _ _ _
      | exact ih1 _ _ _ _ _ _ _ _ _
      | exact ih2 _ _ _ _ _ _ _ _ _ _
      | exact ih3 _ _ _ _ _ _ _ _ _ _
      | exact ih4 _ _ _ _ _ _ _ _ _ _ _
      | exact spec_l05Asked.mono _ _ _ _ _ _
      | exact LeO.none _
      | refine LeO.ite ?_ ?_
      | refine LeO.bind ?_ (fun _ => ?_)
def spec_CheckReach.T6 : Bool × List (List Nat × List Nat) := (true, [([], []), ([0], [0]), ([1], [1]), ([], []), ([], []), ([4], [4]), ([3, 5], [3, 5]), ([], []), ([], []), ([8], [8]), ([7, 9, 6], [7, 9]), ([2, 6, 10, 10], [2, 6, 10]), ([11, 11], [11]), ([12], [12]), ([12], [12]), ([14, 12], [12, 14]), ([13, 15, 12], [12, 13, 15]), ([16, 12], [12, 16]), ([12], [12]), ([17, 18, 12], [12, 17, 18]), ([12, 19], [12, 19]), ([20, 12, 0, 1, 2, 3, 4, 5, 6, 7, 8, 9, 10, 11, 12, 13, 14, 15, 16, 17, 18, 19, 20], [20])])
def spec_CheckReach.B6 : List Nat := [0, 1, 3, 0, 0, 16, 56, 0, 0, 256, 1016, 2047, 4095, 8191, 8191, 24575, 65535, 131071, 8191, 524287, 1048575, 2097151]
theorem spec_CheckReach.tab6 : rtab .any (opsOf Try.f13 6) = spec_CheckReach.T6 := by kernel_rfl
theorem spec_CheckReach.bits6 : waitsOk spec_CheckReach.T6.2 spec_CheckReach.B6 = true := by kernel_rfl
def spec_CheckReach.T17 : Bool × List (List Nat × List Nat) := (true, [([], []), ([0], [0]), ([1], [1]), ([1], [1]), ([1], [1]), ([1], [1]), ([2, 3, 4, 5, 1, 1], [1, 2, 3, 4, 5]), ([1], [1]), ([1], [1]), ([1], [1]), ([7, 8, 1], [1, 7, 8]), ([10, 9, 1], [1, 9, 10]), ([11, 1], [1, 11]), ([6, 12, 1], [1, 6, 12]), ([13, 1], [1, 13]), ([1, 14], [1, 14]), ([15, 6, 0, 1, 2, 3, 4, 5, 6, 7, 8, 9, 10, 11, 12, 13, 14, 15], [0, 15])])
def spec_CheckReach.B17 : List Nat := [0, 1, 3, 3, 3, 3, 63, 3, 3, 3, 387, 1923, 3971, 8191, 16383, 32767, 65535]
theorem spec_CheckReach.tab17 : rtab .any (opsOf Try.f13 17) = spec_CheckReach.T17 := by kernel_rfl
theorem spec_CheckReach.bits17 : waitsOk spec_CheckReach.T17.2 spec_CheckReach.B17 = true := by kernel_rfl
set_option maxHeartbeats 8000000 in
set_option maxRecDepth 100000 in
theorem spec_CheckReach.calls (k : Nat) (A0 : Option Addr) (c0 : Nat) (l0 : List Int) (a1 : Int) (a2 : Int) (a3 : Int) (A4 : Option Addr) (c4 : Nat) (l4 : List (S69)) (r1 : Bool) (r2 : Int) (w : World) (hr0 : Kd.C (Kd.int .i16) w A0 l0.length l0) (hc0 : l0.length ≤ c0) (hr4 : Kd.C k69 w A4 l4.length l4) (hc4 : l4.length ≤ c4) (h : spec_CheckReach.f k l0 a1 a2 a3 l4 = some (r1, r2)) :
    Calls Try.prog 13 #[.slice A0 l0.length c0, .int .i64 a1, .int .i64 a2, .int .i64 a3, .slice A4 l4.length c4] w fun e w' => e = .returned (.tuple #[.bool r1, .int .i64 r2]) ∧ Below w.heap.size w w' := by
  have hu67 := Try.underlying67
  have hu69 := Try.underlying69
  have HR0 := Aside0.mk hr0
  have HC0 := Aside0.mk hc0
  clear hr0 hc0
  have HR4 := Aside0.mk hr4
  have HC4 := Aside0.mk hc4
  clear hr4 hc4
  have HB := Aside0.mk (Below.refl w.heap.size w)
  have H : ((spec_l05Asked.f k l0 a1 (wrap64 ((l4.length : Int) - 3)) a2 a3).bind fun t127 => (if t127 = 0 then (if 0 < (l4.length : Int) then ((spec_l05Stretch_at.f l0 a1 (wrap64 ((l4.length : Int) - 3)) a2 a3 (wrap64 (a1 - 2))).bind fun t130 => ((spec_l05Stretch_at.f l0 a1 (wrap64 ((l4.length : Int) - 3)) a2 a3 (wrap64 (a1 - 1))).bind fun t131 => ((spec_HasPair.f ((rd_T69 l4 0).f0) t130 t131).bind fun t132 => (if t132 = true then (if 0 ≤ (wrap64 ((wrap64 ((l4.length : Int) - 3)) + 2)) then (if (wrap64 ((wrap64 ((l4.length : Int) - 3)) + 2)) < (l4.length : Int) then (if plq ((rd_T69 l4 (wrap64 ((wrap64 ((l4.length : Int) - 3)) + 2))).f0) = true then (spec_CheckReach.j0 k l4 (wrap64 ((l4.length : Int) - 3)) true l0 a1 (wrap64 ((l4.length : Int) - 3)) a2 a3) else (spec_CheckReach.j0 k l4 (wrap64 ((l4.length : Int) - 3)) false l0 a1 (wrap64 ((l4.length : Int) - 3)) a2 a3)) else (none)) else (none)) else (spec_CheckReach.j0 k l4 (wrap64 ((l4.length : Int) - 3)) false l0 a1 (wrap64 ((l4.length : Int) - 3)) a2 a3))))) else (none)) else (some (false, t127)))) = some (r1, r2) := h
  clear h
  replace H := Option.bind_eq_some_iff.mp H
  obtain ⟨t127, A60, H⟩ := H
  replace H : (if t127 = 0 then (if 0 < (l4.length : Int) then ((spec_l05Stretch_at.f l0 a1 (wrap64 ((l4.length : Int) - 3)) a2 a3 (wrap64 (a1 - 2))).bind fun t130 => ((spec_l05Stretch_at.f l0 a1 (wrap64 ((l4.length : Int) - 3)) a2 a3 (wrap64 (a1 - 1))).bind fun t131 => ((spec_HasPair.f ((rd_T69 l4 0).f0) t130 t131).bind fun t132 => (if t132 = true then (if 0 ≤ (wrap64 ((wrap64 ((l4.length : Int) - 3)) + 2)) then (if (wrap64 ((wrap64 ((l4.length : Int) - 3)) + 2)) < (l4.length : Int) then (if plq ((rd_T69 l4 (wrap64 ((wrap64 ((l4.length : Int) - 3)) + 2))).f0) = true then (spec_CheckReach.j0 k l4 (wrap64 ((l4.length : Int) - 3)) true l0 a1 (wrap64 ((l4.length : Int) - 3)) a2 a3) else (spec_CheckReach.j0 k l4 (wrap64 ((l4.length : Int) - 3)) false l0 a1 (wrap64 ((l4.length : Int) - 3)) a2 a3)) else (none)) else (none)) else (spec_CheckReach.j0 k l4 (wrap64 ((l4.length : Int) - 3)) false l0 a1 (wrap64 ((l4.length : Int) - 3)) a2 a3))))) else (none)) else (some (false, t127))) = some (r1, r2) := H
  have A6 := Aside0.mk A60
  clear A60
  by_cases c7 : t127 = 0
  · rw [if_pos c7] at H
    have c7b0 : (t127 == 0) = true := beq_iff_eq.mpr c7
    have c7b1 : (t127 != 0) = false := bne_eq_false_iff_eq.mpr c7
    clear c7
    have HC8 := Aside0.mk H
    clear H
    go_enter Try.func13, Try.ntmps13
    go_upto_region 6 with (first | ((with_reducible refine gate_callee (f := 31) rfl ?_); refine goesL_ (some 27) rfl rfl Try.func31 (by kernel_rfl) rfl #[.slice A0 l0.length c0, .int .i64 a1, .int .i64 (wrap64 ((l4.length : Int) - 3)), .int .i64 a2, .int .i64 a3] rfl (by (try simp only [List.map_toArray, List.map_cons, List.map_nil]); first | done | rfl | (simp only [List.length_drop, List.length_take]; rfl)) ?_; (with_reducible refine (spec_l05Asked.calls k _ _ l0 a1 (wrap64 ((l4.length : Int) - 3)) a2 a3 t127 _ ?side1 ?side2 A6.out).mono ?_); (case side1 => repeat (first | exact HR0.out | (with_reducible refine Kd.C_alloc ?_ _) | (with_reducible refine Kd.C_drewN ?_ _) | (with_reducible refine Kd.C_drew ?_))); (case side2 => exact HC0.out); rintro e w9 ⟨rfl, hb⟩; refine ⟨_, rfl, ?_⟩; have n0_ := Aside0.mk (below_step (by repeat (first | (with_reducible first | exact HB.out | apply below_alloc | apply pw_below_drewN | apply below_drew1) | exact HB.out)) hb); clear HB; have HB := n0_; clear n0_; (try clear hb); (try clear hb2); (try clear hk); (try clear hi)) | ((with_reducible refine gate_dst (N := 37) rfl ?_); refine box_event ?hg (N := 37) ?hd (cs := #[.slice A0 l0.length c0, .int .i64 a1, .int .i64 (wrap64 ((l4.length : Int) - 3)), .int .i64 a2, .int .i64 a3]) (t := 67) ?hr ?_; (case hd => rfl); (case hg => rfl); (case hr => first | (go_simp; done) | (go_simp; rfl)); intro gb128 hg w10 hbox hb; have n0_ := Aside0.mk (below_step (by repeat (first | (with_reducible first | exact HB.out | apply below_alloc | apply pw_below_drewN | apply below_drew1) | exact HB.out)) hb); have n1_ := Aside0.mk (hbox); have n2_ := Aside0.mk ((by rw [hg]; exact (below_size (by repeat (first | (with_reducible first | exact HB.out | apply below_alloc | apply pw_below_drewN | apply below_drew1) | exact HB.out))) : w.heap.size ≤ gb128)); have n3_ := Aside0.mk ((by rw [hg]; exact (below_size (by repeat (first | (with_reducible first | exact HB.out | apply below_alloc | apply pw_below_drewN | apply below_drew1) | exact HB.out))) : w.heap.size ≤ gb128)); clear HB; have HB := n0_; have BK128 := n1_; have GW128 := n2_; have GE128 := n3_; clear n0_ n1_ n2_ n3_; clear hb hbox hg))
    (try simp only [Act.put, List.setIfInBounds_toArray, List.set_cons_zero, List.set_cons_succ])
    go_cut [15] (fun v15 wc => ∃ (kq : Nat) (x15_7 : Bool) (x129001_7 : Int) (x129002_7 : Int) (x129003_7 : Int) (x129004_7 : Int), v15 = .bool x15_7 ∧ Aside0 (spec_CheckReach.j0 kq l4 (wrap64 ((l4.length : Int) - 3)) x15_7 l0 x129001_7 x129002_7 x129003_7 x129004_7 = some (r1, r2)) ∧ Aside0 (kq ≤ k) ∧ Aside0 (wc.heap[gb128]? = some (.cells #[(.slice A0 l0.length c0), .int .i64 x129001_7, .int .i64 x129002_7, .int .i64 x129003_7, .int .i64 x129004_7] 67 (0, 0))) ∧ Aside0 (Below w.heap.size w wc))
    case first =>
      have H := HC8.out
      clear HC8
      by_cases c11 : 0 < (l4.length : Int)
      · rw [if_pos c11] at H
        have c11b0 : decide (0 < (l4.length : Int)) = true := decide_eq_true c11
        have c11b1 : decide (0 < l4.length) = true := decide_eq_true (by omega)
        clear c11
        (first | rw [c11b0] | (simp only [i64_w, i32_w]; rw [c11b0]) | skip)
        replace H := Option.bind_eq_some_iff.mp H
        obtain ⟨t130, A120, H⟩ := H
        replace H : ((spec_l05Stretch_at.f l0 a1 (wrap64 ((l4.length : Int) - 3)) a2 a3 (wrap64 (a1 - 1))).bind fun t131 => ((spec_HasPair.f ((rd_T69 l4 0).f0) t130 t131).bind fun t132 => (if t132 = true then (if 0 ≤ (wrap64 ((wrap64 ((l4.length : Int) - 3)) + 2)) then (if (wrap64 ((wrap64 ((l4.length : Int) - 3)) + 2)) < (l4.length : Int) then (if plq ((rd_T69 l4 (wrap64 ((wrap64 ((l4.length : Int) - 3)) + 2))).f0) = true then (spec_CheckReach.j0 k l4 (wrap64 ((l4.length : Int) - 3)) true l0 a1 (wrap64 ((l4.length : Int) - 3)) a2 a3) else (spec_CheckReach.j0 k l4 (wrap64 ((l4.length : Int) - 3)) false l0 a1 (wrap64 ((l4.length : Int) - 3)) a2 a3)) else (none)) else (none)) else (spec_CheckReach.j0 k l4 (wrap64 ((l4.length : Int) - 3)) false l0 a1 (wrap64 ((l4.length : Int) - 3)) a2 a3)))) = some (r1, r2) := H
        have A12 := Aside0.mk A120
        clear A120
        replace H := Option.bind_eq_some_iff.mp H
        obtain ⟨t131, A130, H⟩ := H
        replace H : ((spec_HasPair.f ((rd_T69 l4 0).f0) t130 t131).bind fun t132 => (if t132 = true then (if 0 ≤ (wrap64 ((wrap64 ((l4.length : Int) - 3)) + 2)) then (if (wrap64 ((wrap64 ((l4.length : Int) - 3)) + 2)) < (l4.length : Int) then (if plq ((rd_T69 l4 (wrap64 ((wrap64 ((l4.length : Int) - 3)) + 2))).f0) = true then (spec_CheckReach.j0 k l4 (wrap64 ((l4.length : Int) - 3)) true l0 a1 (wrap64 ((l4.length : Int) - 3)) a2 a3) else (spec_CheckReach.j0 k l4 (wrap64 ((l4.length : Int) - 3)) false l0 a1 (wrap64 ((l4.length : Int) - 3)) a2 a3)) else (none)) else (none)) else (spec_CheckReach.j0 k l4 (wrap64 ((l4.length : Int) - 3)) false l0 a1 (wrap64 ((l4.length : Int) - 3)) a2 a3))) = some (r1, r2) := H
        have A13 := Aside0.mk A130
        clear A130
        replace H := Option.bind_eq_some_iff.mp H
        obtain ⟨t132, A140, H⟩ := H
        replace H : (if t132 = true then (if 0 ≤ (wrap64 ((wrap64 ((l4.length : Int) - 3)) + 2)) then (if (wrap64 ((wrap64 ((l4.length : Int) - 3)) + 2)) < (l4.length : Int) then (if plq ((rd_T69 l4 (wrap64 ((wrap64 ((l4.length : Int) - 3)) + 2))).f0) = true then (spec_CheckReach.j0 k l4 (wrap64 ((l4.length : Int) - 3)) true l0 a1 (wrap64 ((l4.length : Int) - 3)) a2 a3) else (spec_CheckReach.j0 k l4 (wrap64 ((l4.length : Int) - 3)) false l0 a1 (wrap64 ((l4.length : Int) - 3)) a2 a3)) else (none)) else (none)) else (spec_CheckReach.j0 k l4 (wrap64 ((l4.length : Int) - 3)) false l0 a1 (wrap64 ((l4.length : Int) - 3)) a2 a3)) = some (r1, r2) := H
        have A14 := Aside0.mk A140
        clear A140
        by_cases c15 : t132 = true
        · subst c15
          have H1 : (if 0 ≤ (wrap64 ((wrap64 ((l4.length : Int) - 3)) + 2)) then (if (wrap64 ((wrap64 ((l4.length : Int) - 3)) + 2)) < (l4.length : Int) then (if plq ((rd_T69 l4 (wrap64 ((wrap64 ((l4.length : Int) - 3)) + 2))).f0) = true then (spec_CheckReach.j0 k l4 (wrap64 ((l4.length : Int) - 3)) true l0 a1 (wrap64 ((l4.length : Int) - 3)) a2 a3) else (spec_CheckReach.j0 k l4 (wrap64 ((l4.length : Int) - 3)) false l0 a1 (wrap64 ((l4.length : Int) - 3)) a2 a3)) else (none)) else (none)) = some (r1, r2) := by rw [if_pos rfl] at H; exact H
          clear H
          have H := H1
          clear H1
          obtain ⟨ji16, hji16⟩ : ∃ j_ : Int, (wrap64 ((wrap64 ((l4.length : Int) - 3)) + 2)) = j_ := ⟨_, rfl⟩
          replace H : (if 0 ≤ (ji16) then (if (ji16) < (l4.length : Int) then (if plq ((rd_T69 l4 (ji16)).f0) = true then (spec_CheckReach.j0 k l4 (wrap64 ((l4.length : Int) - 3)) true l0 a1 (wrap64 ((l4.length : Int) - 3)) a2 a3) else (spec_CheckReach.j0 k l4 (wrap64 ((l4.length : Int) - 3)) false l0 a1 (wrap64 ((l4.length : Int) - 3)) a2 a3)) else (none)) else (none)) = some (r1, r2) := by first | (rw [hji16] at H; exact H) | (simp only [hji16] at H ⊢; exact H)
          (try rw [hji16] at A12)
          (try rw [hji16] at A13)
          (try rw [hji16] at A14)
          have hji16w : (IntKind.i64.wrap ((wrap64 ((l4.length : Int) - 3)) + 2)) = ji16 := (i64_w _).trans hji16
          by_cases c17 : 0 ≤ (ji16)
          · rw [if_pos c17] at H
            have c17b0 : decide (0 ≤ (ji16)) = true := decide_eq_true c17
            clear c17
            by_cases c18 : (ji16) < (l4.length : Int)
            · rw [if_pos c18] at H
              have c18b0 : decide ((ji16) < (l4.length : Int)) = true := decide_eq_true c18
              clear c18
              by_cases c19 : plq ((rd_T69 l4 (ji16)).f0) = true
              · rw [if_pos c19] at H
                have PZe : plq ((rd_T69 l4 (ji16)).f0) = true := c19
                have PZn : (!plq ((rd_T69 l4 (ji16)).f0)) = false := by rw [c19]; rfl
                clear c19
                have H' := Aside0.mk H
                clear H
                try go_wp2
                have n0_ := Aside0.mk (blk_drew BK128.out)
                have n1_ := Aside0.mk (below_drew1 HB.out)
                clear BK128
                clear HB
                have BK128 := n0_
                have HB := n1_
                clear n0_ n1_
                have p129 : 0 ≤ (0 : Int) := (by omega)
                have q129 : 0 < (l4.length : Int) := of_decide_eq_true (by first | (with_reducible assumption) | assumption)
                obtain ⟨ad129, e129, hx129_0⟩ := at_T69 HR4.out 0 p129 q129
                have hw129_0 := hx129_0
                (try rw [show ((0 : Int)).toNat = 0 from rfl] at hw129_0)
                (try rw [show 0 * 64 = 0 from rfl] at hw129_0)
                (try rw [Addr.add_zero'] at hw129_0)
                cases e129
                have qi129 : (0 < l4.length) = True := eq_true (by omega)
                (try rw [show ((0 : Int)).toNat = 0 from rfl] at hx129_0)
                (try rw [show 0 * 64 = 0 from rfl] at hx129_0)
                (try rw [Addr.add_zero'] at hx129_0)
                replace hx129_0 := plAt.below (w := w) HB.out hx129_0 hx129_0.lt
                replace p129 := eq_true p129
                replace q129 := eq_true q129
                have p133 : 0 ≤ ((ji16) : Int) := of_decide_eq_true (by first | (with_reducible assumption) | assumption)
                have q133 : (ji16) < (l4.length : Int) := of_decide_eq_true (by first | (with_reducible assumption) | assumption)
                obtain ⟨ad133, e133, hx133_0⟩ := at_T69 HR4.out (ji16) p133 q133
                have hw133_0 := hx133_0
                obtain rfl : ad129 = ad133 := (by injection e133)
                replace hx133_0 := plAt.below (w := w) HB.out hx133_0 hx133_0.lt
                replace p133 := eq_true p133
                replace q133 := eq_true q133
                refine start_ (n := 22) (S := fun w' => plAt w' ad129 ((rd_T69 l4 0).f0) ∧ plAt w' (ad129.add (((ji16)).toNat * 64)) ((rd_T69 l4 (ji16)).f0)) (ds := []) #[false, false, false, false, false, false, false, false, false, false, false, false, false, false, false, false, false, false, false, false, false, false] (by kernel_rfl) rfl rfl ⟨(by first | exact (plAt.below (w := w) HB.out hw129_0 hw129_0.lt) | exact (plAt.below (w := w) HB.out hv129_0 hv129_0.lt) | exact hx129_0), (by first | exact (plAt.below (w := w) HB.out hw133_0 hw133_0.lt) | exact (plAt.below (w := w) HB.out hv133_0 hv133_0.lt) | exact hx133_0)⟩ (fun hHeld => ?_); refine with_tabW spec_CheckReach.tab6 spec_CheckReach.bits6 (fun HT_ HW_ => ?_)
                generalize w10.drew = w20 at BK128 HB hx129_0 hx133_0 hHeld ⊢
                refine pure_ (i := 0) (N := some 38) (v := ?_) (a' := ?_) #[true, false, false, false, false, false, false, false, false, false, false, false, false, false, false, false, false, false, false, false, false, false] rfl rfl (any_of HT_.out (by kernel_rfl)) (fun _ _ _ h => h) (Or.inl ⟨by rfl, ?_⟩) ?_ ?_
                rotate_left
                · intro w'
                  first | (refine pl_zeroRun ?_ pbuilt69; rfl) | (refine pl_neqRunX ?_ Try.underlying69 Try.underlying24 (by kernel_rfl) pgd69 PZn; exact ⟨_, _, _, rfl, rfl, rfl⟩) | (refine pl_eqlRunX ?_ Try.underlying69 Try.underlying24 (by kernel_rfl) pgd69 PZe; exact ⟨_, _, _, rfl, rfl, rfl⟩) | (go_simp; with_reducible rfl)
                rotate_left
                · simp only [Act.put, List.setIfInBounds_toArray, List.set_cons_zero, List.set_cons_succ, i64_w, i32_w]
                  rfl
                refine pure_ (i := 1) (N := some 39) (v := ?_) (a' := ?_) #[true, true, false, false, false, false, false, false, false, false, false, false, false, false, false, false, false, false, false, false, false, false] rfl rfl (any_of HT_.out (by kernel_rfl)) (fun _ _ _ h => h) (Or.inl ⟨by rfl, ?_⟩) ?_ ?_
                rotate_left
                · intro w'
                  first | (refine pl_zeroRun ?_ pbuilt69; rfl) | (refine pl_neqRunX ?_ Try.underlying69 Try.underlying24 (by kernel_rfl) pgd69 PZn; exact ⟨_, _, _, rfl, rfl, rfl⟩) | (refine pl_eqlRunX ?_ Try.underlying69 Try.underlying24 (by kernel_rfl) pgd69 PZe; exact ⟨_, _, _, rfl, rfl, rfl⟩) | (go_simp; with_reducible rfl)
                rotate_left
                · simp only [Act.put, List.setIfInBounds_toArray, List.set_cons_zero, List.set_cons_succ, i64_w, i32_w]
                  rfl
                refine pure_ (i := 3) (N := some 41) (v := ?_) (a' := ?_) #[true, true, false, true, false, false, false, false, false, false, false, false, false, false, false, false, false, false, false, false, false, false] rfl rfl (any_of HT_.out (by kernel_rfl)) (fun _ _ _ h => h) (Or.inl ⟨by rfl, ?_⟩) ?_ ?_
                rotate_left
                · intro w'
                  first | (refine pl_zeroRun ?_ pbuilt69; rfl) | (refine pl_neqRunX ?_ Try.underlying69 Try.underlying24 (by kernel_rfl) pgd69 PZn; exact ⟨_, _, _, rfl, rfl, rfl⟩) | (refine pl_eqlRunX ?_ Try.underlying69 Try.underlying24 (by kernel_rfl) pgd69 PZe; exact ⟨_, _, _, rfl, rfl, rfl⟩) | (go_simp; with_reducible rfl)
                rotate_left
                · simp only [Act.put, List.setIfInBounds_toArray, List.set_cons_zero, List.set_cons_succ, i64_w, i32_w]
                  rfl
                refine pure_ (i := 4) (N := some 42) (v := ?_) (a' := ?_) #[true, true, false, true, true, false, false, false, false, false, false, false, false, false, false, false, false, false, false, false, false, false] rfl rfl (any_of HT_.out (by kernel_rfl)) (fun _ _ _ h => h) (Or.inl ⟨by rfl, ?_⟩) ?_ ?_
                rotate_left
                · intro w'
                  first | (refine pl_zeroRun ?_ pbuilt69; rfl) | (refine pl_neqRunX ?_ Try.underlying69 Try.underlying24 (by kernel_rfl) pgd69 PZn; exact ⟨_, _, _, rfl, rfl, rfl⟩) | (refine pl_eqlRunX ?_ Try.underlying69 Try.underlying24 (by kernel_rfl) pgd69 PZe; exact ⟨_, _, _, rfl, rfl, rfl⟩) | (go_simp; with_reducible rfl)
                rotate_left
                · simp only [Act.put, List.setIfInBounds_toArray, List.set_cons_zero, List.set_cons_succ, i64_w, i32_w]
                  rfl
                refine pure_ (i := 5) (N := some 43) (v := ?_) (a' := ?_) #[true, true, false, true, true, true, false, false, false, false, false, false, false, false, false, false, false, false, false, false, false, false] rfl rfl (any_of HT_.out (by kernel_rfl)) (fun _ _ _ h => h) (Or.inl ⟨by rfl, ?_⟩) ?_ ?_
                rotate_left
                · intro w'
                  first | (refine pl_zeroRun ?_ pbuilt69; rfl) | (refine pl_neqRunX ?_ Try.underlying69 Try.underlying24 (by kernel_rfl) pgd69 PZn; exact ⟨_, _, _, rfl, rfl, rfl⟩) | (refine pl_eqlRunX ?_ Try.underlying69 Try.underlying24 (by kernel_rfl) pgd69 PZe; exact ⟨_, _, _, rfl, rfl, rfl⟩) | (go_simp; with_reducible rfl)
                rotate_left
                · simp only [Act.put, List.setIfInBounds_toArray, List.set_cons_zero, List.set_cons_succ, i64_w, i32_w]
                  rfl
                refine pure_ (i := 7) (N := some 45) (v := ?_) (a' := ?_) #[true, true, false, true, true, true, false, true, false, false, false, false, false, false, false, false, false, false, false, false, false, false] rfl rfl (any_of HT_.out (by kernel_rfl)) (fun _ _ _ h => h) (Or.inl ⟨by rfl, ?_⟩) ?_ ?_
                rotate_left
                · intro w'
                  first | (refine pl_zeroRun ?_ pbuilt69; rfl) | (refine pl_neqRunX ?_ Try.underlying69 Try.underlying24 (by kernel_rfl) pgd69 PZn; exact ⟨_, _, _, rfl, rfl, rfl⟩) | (refine pl_eqlRunX ?_ Try.underlying69 Try.underlying24 (by kernel_rfl) pgd69 PZe; exact ⟨_, _, _, rfl, rfl, rfl⟩) | (go_simp; with_reducible rfl)
                rotate_left
                · simp only [Act.put, List.setIfInBounds_toArray, List.set_cons_zero, List.set_cons_succ, i64_w, i32_w]
                  rfl
                refine pure_ (i := 8) (N := some 46) (v := ?_) (a' := ?_) #[true, true, false, true, true, true, false, true, true, false, false, false, false, false, false, false, false, false, false, false, false, false] rfl rfl (any_of HT_.out (by kernel_rfl)) (fun _ _ _ h => h) (Or.inl ⟨by rfl, ?_⟩) ?_ ?_
                rotate_left
                · intro w'
                  first | (refine pl_zeroRun ?_ pbuilt69; rfl) | (refine pl_neqRunX ?_ Try.underlying69 Try.underlying24 (by kernel_rfl) pgd69 PZn; exact ⟨_, _, _, rfl, rfl, rfl⟩) | (refine pl_eqlRunX ?_ Try.underlying69 Try.underlying24 (by kernel_rfl) pgd69 PZe; exact ⟨_, _, _, rfl, rfl, rfl⟩) | (go_simp; with_reducible rfl)
                rotate_left
                · simp only [Act.put, List.setIfInBounds_toArray, List.set_cons_zero, List.set_cons_succ, i64_w, i32_w]
                  rfl
                refine pure_ (i := 9) (N := some 47) (v := ?_) (a' := ?_) #[true, true, false, true, true, true, false, true, true, true, false, false, false, false, false, false, false, false, false, false, false, false] rfl rfl (any_of HT_.out (by kernel_rfl)) (fun _ _ _ h => h) (Or.inl ⟨by rfl, ?_⟩) ?_ ?_
                rotate_left
                · intro w'
                  first | (refine pl_zeroRun ?_ pbuilt69; rfl) | (refine pl_neqRunX ?_ Try.underlying69 Try.underlying24 (by kernel_rfl) pgd69 PZn; exact ⟨_, _, _, rfl, rfl, rfl⟩) | (refine pl_eqlRunX ?_ Try.underlying69 Try.underlying24 (by kernel_rfl) pgd69 PZe; exact ⟨_, _, _, rfl, rfl, rfl⟩) | (go_simp; with_reducible rfl)
                rotate_left
                · simp only [Act.put, List.setIfInBounds_toArray, List.set_cons_zero, List.set_cons_succ, i64_w, i32_w]
                  rfl
                refine take_ (i := 2) (N := some 40) (v := ?_) (a' := ?_) #[true, true, true, true, true, true, false, true, true, true, false, false, false, false, false, false, false, false, false, false, false, false] rfl rfl (take_ofW HT_.out HW_.out (by kernel_rfl)) (fun _ _ _ h => h) (Or.inl ⟨by rfl, ?_⟩) hHeld ?_ ?_
                rotate_left
                · rintro w' ⟨s0, s1⟩
                  first | (refine pl_loadRunX ?_ s0 Try.underlying69 (info_pl pinfo69); exact ⟨_, rfl, rfl⟩) | (refine pl_loadRunX ?_ s1 Try.underlying69 (info_pl pinfo69); exact ⟨_, rfl, rfl⟩) | (go_simp; with_reducible rfl)
                rotate_left
                · simp only [Act.put, List.setIfInBounds_toArray, List.set_cons_zero, List.set_cons_succ, i64_w, i32_w]
                  rfl
                refine one_ (i := 6) (N := some 44) #[true, true, true, true, true, true, true, true, true, true, false, false, false, false, false, false, false, false, false, false, false, false] rfl rfl (one_of HT_.out (by kernel_rfl)) (by decide) (fun K hK => ?_)
                refine goes_ Try.func33 (by kernel_rfl) rfl #[.pointer (some ⟨gb128, 0, none⟩), .int .i64 (wrap64 (a1 - 2))] (by rfl) rfl rfl (by (try simp only [List.map_toArray, List.map_cons, List.map_nil]); first | done | rfl | (simp only [List.length_drop, List.length_take]; rfl)) ?_
                with_reducible refine (spec_l05Stretch_at.calls A0 c0 l0 a1 (wrap64 ((l4.length : Int) - 3)) a2 a3 (wrap64 (a1 - 2)) t130 _ ?side1 ?side2 ?side3 ?side4 ?side5 ?side6 ?side7 A12.out).mono ?_
                (case side1 => repeat (first | exact (Kd.C_below HR0.out HB.out) | (with_reducible refine Kd.C_alloc ?_ _) | (with_reducible refine Kd.C_drewN ?_ _) | (with_reducible refine Kd.C_drew ?_)))
                (case side2 => exact HC0.out)
                (case side3 => exact (blk_cell (g := gb128) (t := 67) (cs := #[.slice A0 l0.length c0, .int .i64 a1, .int .i64 (wrap64 ((l4.length : Int) - 3)), .int .i64 a2, .int .i64 a3]) (by (with_reducible repeat (first | refine blk_drewN ?_ _ | refine blk_drew ?_ | refine blk_alloc ?_ _)); exact BK128.out) 0).trans rfl)
                (case side4 => exact (blk_cell (g := gb128) (t := 67) (cs := #[.slice A0 l0.length c0, .int .i64 a1, .int .i64 (wrap64 ((l4.length : Int) - 3)), .int .i64 a2, .int .i64 a3]) (by (with_reducible repeat (first | refine blk_drewN ?_ _ | refine blk_drew ?_ | refine blk_alloc ?_ _)); exact BK128.out) 1).trans rfl)
                (case side5 => exact (blk_cell (g := gb128) (t := 67) (cs := #[.slice A0 l0.length c0, .int .i64 a1, .int .i64 (wrap64 ((l4.length : Int) - 3)), .int .i64 a2, .int .i64 a3]) (by (with_reducible repeat (first | refine blk_drewN ?_ _ | refine blk_drew ?_ | refine blk_alloc ?_ _)); exact BK128.out) 2).trans rfl)
                (case side6 => exact (blk_cell (g := gb128) (t := 67) (cs := #[.slice A0 l0.length c0, .int .i64 a1, .int .i64 (wrap64 ((l4.length : Int) - 3)), .int .i64 a2, .int .i64 a3]) (by (with_reducible repeat (first | refine blk_drewN ?_ _ | refine blk_drew ?_ | refine blk_alloc ?_ _)); exact BK128.out) 3).trans rfl)
                (case side7 => exact (blk_cell (g := gb128) (t := 67) (cs := #[.slice A0 l0.length c0, .int .i64 a1, .int .i64 (wrap64 ((l4.length : Int) - 3)), .int .i64 a2, .int .i64 a3]) (by (with_reducible repeat (first | refine blk_drewN ?_ _ | refine blk_drew ?_ | refine blk_alloc ?_ _)); exact BK128.out) 4).trans rfl)
                rintro e w' ⟨rfl, ⟨nd, rfl⟩⟩
                refine ⟨_, rfl, ?_⟩
                refine hK.out _ _ ⟨(by first | exact (plAt.below (w := w) HB.out hw129_0 hw129_0.lt) | exact (plAt.below (w := w) HB.out hv129_0 hv129_0.lt) | exact hx129_0), (by first | exact (plAt.below (w := w) HB.out hw133_0 hw133_0.lt) | exact (plAt.below (w := w) HB.out hv133_0 hv133_0.lt) | exact hx133_0)⟩ (fun hHeld => ?_)
                clear hK K
                refine norm_ (a' := ?_) ?_ ?_
                rotate_left
                · show Act.put _ (some 44) _ = _
                  simp only [Act.put, List.setIfInBounds_toArray, List.set_cons_zero, List.set_cons_succ, i64_w, i32_w]
                  rfl
                refine one_ (i := 10) (N := some 48) #[true, true, true, true, true, true, true, true, true, true, true, false, false, false, false, false, false, false, false, false, false, false] rfl rfl (one_of HT_.out (by kernel_rfl)) (by decide) (fun K hK => ?_)
                refine goes_ Try.func33 (by kernel_rfl) rfl #[.pointer (some ⟨gb128, 0, none⟩), .int .i64 (wrap64 (a1 - 1))] (by rfl) rfl rfl (by (try simp only [List.map_toArray, List.map_cons, List.map_nil]); first | done | rfl | (simp only [List.length_drop, List.length_take]; rfl)) ?_
                with_reducible refine (spec_l05Stretch_at.calls A0 c0 l0 a1 (wrap64 ((l4.length : Int) - 3)) a2 a3 (wrap64 (a1 - 1)) t131 _ ?side1 ?side2 ?side3 ?side4 ?side5 ?side6 ?side7 A13.out).mono ?_
                (case side1 => repeat (first | exact (Kd.C_below HR0.out (by repeat (first | (with_reducible first | exact HB.out | apply below_alloc | apply pw_below_drewN | apply below_drew1 | refine below_set ?_ GE128.out) | exact HB.out))) | (with_reducible refine Kd.C_alloc ?_ _) | (with_reducible refine Kd.C_drewN ?_ _) | (with_reducible refine Kd.C_drew ?_)))
                (case side2 => exact HC0.out)
                (case side3 => exact (blk_cell (g := gb128) (t := 67) (cs := #[.slice A0 l0.length c0, .int .i64 a1, .int .i64 (wrap64 ((l4.length : Int) - 3)), .int .i64 a2, .int .i64 a3]) (by (with_reducible repeat (first | refine blk_drewN ?_ _ | refine blk_drew ?_ | refine blk_alloc ?_ _)); exact BK128.out) 0).trans rfl)
                (case side4 => exact (blk_cell (g := gb128) (t := 67) (cs := #[.slice A0 l0.length c0, .int .i64 a1, .int .i64 (wrap64 ((l4.length : Int) - 3)), .int .i64 a2, .int .i64 a3]) (by (with_reducible repeat (first | refine blk_drewN ?_ _ | refine blk_drew ?_ | refine blk_alloc ?_ _)); exact BK128.out) 1).trans rfl)
                (case side5 => exact (blk_cell (g := gb128) (t := 67) (cs := #[.slice A0 l0.length c0, .int .i64 a1, .int .i64 (wrap64 ((l4.length : Int) - 3)), .int .i64 a2, .int .i64 a3]) (by (with_reducible repeat (first | refine blk_drewN ?_ _ | refine blk_drew ?_ | refine blk_alloc ?_ _)); exact BK128.out) 2).trans rfl)
                (case side6 => exact (blk_cell (g := gb128) (t := 67) (cs := #[.slice A0 l0.length c0, .int .i64 a1, .int .i64 (wrap64 ((l4.length : Int) - 3)), .int .i64 a2, .int .i64 a3]) (by (with_reducible repeat (first | refine blk_drewN ?_ _ | refine blk_drew ?_ | refine blk_alloc ?_ _)); exact BK128.out) 3).trans rfl)
                (case side7 => exact (blk_cell (g := gb128) (t := 67) (cs := #[.slice A0 l0.length c0, .int .i64 a1, .int .i64 (wrap64 ((l4.length : Int) - 3)), .int .i64 a2, .int .i64 a3]) (by (with_reducible repeat (first | refine blk_drewN ?_ _ | refine blk_drew ?_ | refine blk_alloc ?_ _)); exact BK128.out) 4).trans rfl)
                rintro e w' ⟨rfl, ⟨nd, rfl⟩⟩
                refine ⟨_, rfl, ?_⟩
                refine hK.out _ _ ⟨(by first | exact (plAt.below (w := w) HB.out hw129_0 hw129_0.lt) | exact (plAt.below (w := w) HB.out hv129_0 hv129_0.lt) | exact hx129_0), (by first | exact (plAt.below (w := w) HB.out hw133_0 hw133_0.lt) | exact (plAt.below (w := w) HB.out hv133_0 hv133_0.lt) | exact hx133_0)⟩ (fun hHeld => ?_)
                clear hK K
                refine norm_ (a' := ?_) ?_ ?_
                rotate_left
                · show Act.put _ (some 48) _ = _
                  simp only [Act.put, List.setIfInBounds_toArray, List.set_cons_zero, List.set_cons_succ, i64_w, i32_w]
                  rfl
                refine one_ (i := 11) (N := some 49) #[true, true, true, true, true, true, true, true, true, true, true, true, false, false, false, false, false, false, false, false, false, false] rfl rfl (one_of HT_.out (by kernel_rfl)) (by decide) (fun K hK => ?_)
                refine goes_ Try.func32 (by kernel_rfl) rfl #[.agg (plA ((rd_T69 l4 0).f0)), .int .i64 t130, .int .i64 t131] (by rfl) rfl rfl (by (try simp only [List.map_toArray, List.map_cons, List.map_nil]); first | done | rfl | (simp only [List.length_drop, List.length_take]; rfl)) ?_
                with_reducible refine (spec_HasPair.calls ((rd_T69 l4 0).f0) t130 t131 true _ A14.out).mono ?_
                rintro e w21 ⟨rfl, hb⟩
                refine ⟨_, rfl, ?_⟩
                have n0_ := Aside0.mk (blk_below (g := gb128) (o := .cells #[.slice A0 l0.length c0, .int .i64 a1, .int .i64 (wrap64 ((l4.length : Int) - 3)), .int .i64 a2, .int .i64 a3] 67 (0, 0)) (by (with_reducible repeat (first | refine blk_drewN ?_ _ | refine blk_drew ?_ | refine blk_alloc ?_ _)); exact BK128.out) hb)
                have n1_ := Aside0.mk (below_step (by repeat (first | (with_reducible first | exact HB.out | apply below_alloc | apply pw_below_drewN | apply below_drew1 | refine below_set ?_ GE128.out) | exact HB.out)) hb)
                clear BK128
                clear HB
                have BK128 := n0_
                have HB := n1_
                clear n0_ n1_
                (try clear hb)
                (try clear hb2)
                (try clear hk)
                (try clear hi)
                refine hK.out _ _ ⟨(by first | exact (plAt.below (w := w) HB.out hw129_0 hw129_0.lt) | exact (plAt.below (w := w) HB.out hv129_0 hv129_0.lt) | exact hx129_0), (by first | exact (plAt.below (w := w) HB.out hw133_0 hw133_0.lt) | exact (plAt.below (w := w) HB.out hv133_0 hv133_0.lt) | exact hx133_0)⟩ (fun hHeld => ?_)
                clear hK K
                refine norm_ (a' := ?_) ?_ ?_
                rotate_left
                · show Act.put _ (some 49) _ = _
                  simp only [Act.put, List.setIfInBounds_toArray, List.set_cons_zero, List.set_cons_succ, i64_w, i32_w]
                  rfl
                refine pure_ (i := 12) (N := some 50) (v := ?_) (a' := ?_) #[true, true, true, true, true, true, true, true, true, true, true, true, true, false, false, false, false, false, false, false, false, false] rfl rfl (any_of HT_.out (by kernel_rfl)) (fun _ _ _ h => h) (Or.inl ⟨by rfl, ?_⟩) ?_ ?_
                rotate_left
                · intro w'
                  first | (refine pl_zeroRun ?_ pbuilt69; rfl) | (refine pl_neqRunX ?_ Try.underlying69 Try.underlying24 (by kernel_rfl) pgd69 PZn; exact ⟨_, _, _, rfl, rfl, rfl⟩) | (refine pl_eqlRunX ?_ Try.underlying69 Try.underlying24 (by kernel_rfl) pgd69 PZe; exact ⟨_, _, _, rfl, rfl, rfl⟩) | (go_simp; with_reducible rfl)
                rotate_left
                · simp only [Act.put, List.setIfInBounds_toArray, List.set_cons_zero, List.set_cons_succ, i64_w, i32_w]
                  rfl
                refine pure_ (i := 13) (N := some 51) (v := ?_) (a' := ?_) #[true, true, true, true, true, true, true, true, true, true, true, true, true, true, false, false, false, false, false, false, false, false] rfl rfl (any_of HT_.out (by kernel_rfl)) (fun _ _ _ h => h) (Or.inl ⟨by rfl, ?_⟩) ?_ ?_
                rotate_left
                · intro w'
                  first | (refine pl_zeroRun ?_ pbuilt69; rfl) | (refine pl_neqRunX ?_ Try.underlying69 Try.underlying24 (by kernel_rfl) pgd69 PZn; exact ⟨_, _, _, rfl, rfl, rfl⟩) | (refine pl_eqlRunX ?_ Try.underlying69 Try.underlying24 (by kernel_rfl) pgd69 PZe; exact ⟨_, _, _, rfl, rfl, rfl⟩) | (go_simp; with_reducible rfl)
                rotate_left
                · simp only [Act.put, List.setIfInBounds_toArray, List.set_cons_zero, List.set_cons_succ, i64_w, i32_w]
                  rfl
                refine pure_ (i := 14) (N := some 52) (v := ?_) (a' := ?_) #[true, true, true, true, true, true, true, true, true, true, true, true, true, true, true, false, false, false, false, false, false, false] rfl rfl (any_of HT_.out (by kernel_rfl)) (fun _ _ _ h => h) (Or.inl ⟨by rfl, ?_⟩) ?_ ?_
                rotate_left
                · intro w'
                  first | (refine pl_zeroRun ?_ pbuilt69; rfl) | (refine pl_neqRunX ?_ Try.underlying69 Try.underlying24 (by kernel_rfl) pgd69 PZn; exact ⟨_, _, _, rfl, rfl, rfl⟩) | (refine pl_eqlRunX ?_ Try.underlying69 Try.underlying24 (by kernel_rfl) pgd69 PZe; exact ⟨_, _, _, rfl, rfl, rfl⟩) | (go_simp; with_reducible rfl)
                rotate_left
                · simp only [Act.put, List.setIfInBounds_toArray, List.set_cons_zero, List.set_cons_succ, i64_w, i32_w]
                  rfl
                refine pure_ (i := 15) (N := some 53) (v := ?_) (a' := ?_) #[true, true, true, true, true, true, true, true, true, true, true, true, true, true, true, true, false, false, false, false, false, false] rfl rfl (any_of HT_.out (by kernel_rfl)) (fun _ _ _ h => h) (Or.inl ⟨by rfl, ?_⟩) ?_ ?_
                rotate_left
                · intro w'
                  first | (refine pl_zeroRun ?_ pbuilt69; rfl) | (refine pl_neqRunX ?_ Try.underlying69 Try.underlying24 (by kernel_rfl) pgd69 PZn; exact ⟨_, _, _, rfl, rfl, rfl⟩) | (refine pl_eqlRunX ?_ Try.underlying69 Try.underlying24 (by kernel_rfl) pgd69 PZe; exact ⟨_, _, _, rfl, rfl, rfl⟩) | (go_simp; with_reducible rfl)
                rotate_left
                · simp only [Act.put, List.setIfInBounds_toArray, List.set_cons_zero, List.set_cons_succ, i64_w, i32_w]
                  rfl
                refine pure_ (i := 16) (N := some 54) (v := ?_) (a' := ?_) #[true, true, true, true, true, true, true, true, true, true, true, true, true, true, true, true, true, false, false, false, false, false] rfl rfl (any_of HT_.out (by kernel_rfl)) (fun _ _ _ h => h) (Or.inl ⟨by rfl, ?_⟩) ?_ ?_
                rotate_left
                · intro w'
                  first | (refine pl_zeroRun ?_ pbuilt69; rfl) | (refine pl_neqRunX ?_ Try.underlying69 Try.underlying24 (by kernel_rfl) pgd69 PZn; exact ⟨_, _, _, rfl, rfl, rfl⟩) | (refine pl_eqlRunX ?_ Try.underlying69 Try.underlying24 (by kernel_rfl) pgd69 PZe; exact ⟨_, _, _, rfl, rfl, rfl⟩) | (go_simp; with_reducible rfl)
                rotate_left
                · simp only [Act.put, List.setIfInBounds_toArray, List.set_cons_zero, List.set_cons_succ, i64_w, i32_w]
                  rfl
                refine pure_ (i := 18) (N := some 56) (v := ?_) (a' := ?_) #[true, true, true, true, true, true, true, true, true, true, true, true, true, true, true, true, true, false, true, false, false, false] rfl rfl (any_of HT_.out (by kernel_rfl)) (fun _ _ _ h => h) (Or.inl ⟨by rfl, ?_⟩) ?_ ?_
                rotate_left
                · intro w'
                  first | (refine pl_zeroRun ?_ pbuilt69; rfl) | (refine pl_neqRunX ?_ Try.underlying69 Try.underlying24 (by kernel_rfl) pgd69 PZn; exact ⟨_, _, _, rfl, rfl, rfl⟩) | (refine pl_eqlRunX ?_ Try.underlying69 Try.underlying24 (by kernel_rfl) pgd69 PZe; exact ⟨_, _, _, rfl, rfl, rfl⟩) | (go_simp; with_reducible rfl)
                rotate_left
                · simp only [Act.put, List.setIfInBounds_toArray, List.set_cons_zero, List.set_cons_succ, i64_w, i32_w]
                  rfl
                refine take_ (i := 17) (N := some 55) (v := ?_) (a' := ?_) #[true, true, true, true, true, true, true, true, true, true, true, true, true, true, true, true, true, true, true, false, false, false] rfl rfl (take_ofW HT_.out HW_.out (by kernel_rfl)) (fun _ _ _ h => h) (Or.inl ⟨by rfl, ?_⟩) hHeld ?_ ?_
                rotate_left
                · rintro w' ⟨s0, s1⟩
                  first | (refine pl_loadRunX ?_ s0 Try.underlying69 (info_pl pinfo69); exact ⟨_, rfl, rfl⟩) | (refine pl_loadRunX ?_ s1 Try.underlying69 (info_pl pinfo69); exact ⟨_, rfl, rfl⟩) | (go_simp; with_reducible rfl)
                rotate_left
                · simp only [Act.put, List.setIfInBounds_toArray, List.set_cons_zero, List.set_cons_succ, i64_w, i32_w]
                  rfl
                refine pure_ (i := 19) (N := some 57) (v := ?_) (a' := ?_) #[true, true, true, true, true, true, true, true, true, true, true, true, true, true, true, true, true, true, true, true, false, false] rfl rfl (any_of HT_.out (by kernel_rfl)) (fun _ _ _ h => h) (Or.inl ⟨by rfl, ?_⟩) ?_ ?_
                rotate_left
                · intro w'
                  first | (refine pl_zeroRun ?_ pbuilt69; rfl) | (refine pl_neqRunX ?_ Try.underlying69 Try.underlying24 (by kernel_rfl) pgd69 PZn; exact ⟨_, _, _, rfl, rfl, rfl⟩) | (refine pl_eqlRunX ?_ Try.underlying69 Try.underlying24 (by kernel_rfl) pgd69 PZe; exact ⟨_, _, _, rfl, rfl, rfl⟩) | (go_simp; with_reducible rfl)
                rotate_left
                · simp only [Act.put, List.setIfInBounds_toArray, List.set_cons_zero, List.set_cons_succ, i64_w, i32_w]
                  rfl
                refine pure_ (i := 20) (N := some 58) (v := ?_) (a' := ?_) #[true, true, true, true, true, true, true, true, true, true, true, true, true, true, true, true, true, true, true, true, true, false] rfl rfl (any_of HT_.out (by kernel_rfl)) (fun _ _ _ h => h) (Or.inl ⟨by rfl, ?_⟩) ?_ ?_
                rotate_left
                · intro w'
                  first | (refine pl_zeroRun ?_ pbuilt69; rfl) | (refine pl_neqRunX ?_ Try.underlying69 Try.underlying24 (by kernel_rfl) pgd69 PZn; exact ⟨_, _, _, rfl, rfl, rfl⟩) | (refine pl_eqlRunX ?_ Try.underlying69 Try.underlying24 (by kernel_rfl) pgd69 PZe; exact ⟨_, _, _, rfl, rfl, rfl⟩) | (go_simp; with_reducible rfl)
                rotate_left
                · simp only [Act.put, List.setIfInBounds_toArray, List.set_cons_zero, List.set_cons_succ, i64_w, i32_w]
                  rfl
                refine pure_ (i := 21) (N := some 15) (v := ?_) (a' := ?_) #[true, true, true, true, true, true, true, true, true, true, true, true, true, true, true, true, true, true, true, true, true, true] rfl rfl (any_of HT_.out (by kernel_rfl)) (fun _ _ _ h => h) (Or.inl ⟨by rfl, ?_⟩) ?_ ?_
                rotate_left
                · intro w'
                  first | (refine pl_zeroRun ?_ pbuilt69; rfl) | (refine pl_neqRunX ?_ Try.underlying69 Try.underlying24 (by kernel_rfl) pgd69 PZn; exact ⟨_, _, _, rfl, rfl, rfl⟩) | (refine pl_eqlRunX ?_ Try.underlying69 Try.underlying24 (by kernel_rfl) pgd69 PZe; exact ⟨_, _, _, rfl, rfl, rfl⟩) | (go_simp; with_reducible rfl)
                rotate_left
                · simp only [Act.put, List.setIfInBounds_toArray, List.set_cons_zero, List.set_cons_succ, i64_w, i32_w]
                  rfl
                refine done_ (done_of HT_.out (by kernel_rfl)) ?_
                try go_wp2
                go_meet
                case rel => exact ⟨_, (true), (a1), (wrap64 ((l4.length : Int) - 3)), (a2), (a3), (by first | rfl | (simp; done) | (simp [*]; done)), H', ⟨by first | omega | exact Nat.le_refl _⟩, ⟨by (with_reducible repeat (first | refine blk_drewN ?_ _ | refine blk_drew ?_ | refine blk_alloc ?_ _)); exact BK128.out⟩, ⟨by repeat (first | (with_reducible first | exact HB.out | apply below_alloc | apply pw_below_drewN | apply below_drew1 | refine below_set ?_ GE128.out) | exact HB.out)⟩⟩
              · rw [if_neg c19] at H
                have PZe : plq ((rd_T69 l4 (ji16)).f0) = false := Bool.eq_false_iff.mpr c19
                have PZn : (!plq ((rd_T69 l4 (ji16)).f0)) = true := by rw [Bool.eq_false_iff.mpr c19]; rfl
                have H' := Aside0.mk H
                clear H
                try go_wp2
                have n0_ := Aside0.mk (blk_drew BK128.out)
                have n1_ := Aside0.mk (below_drew1 HB.out)
                clear BK128
                clear HB
                have BK128 := n0_
                have HB := n1_
                clear n0_ n1_
                have p129 : 0 ≤ (0 : Int) := (by omega)
                have q129 : 0 < (l4.length : Int) := of_decide_eq_true (by first | (with_reducible assumption) | assumption)
                obtain ⟨ad129, e129, hx129_0⟩ := at_T69 HR4.out 0 p129 q129
                have hw129_0 := hx129_0
                (try rw [show ((0 : Int)).toNat = 0 from rfl] at hw129_0)
                (try rw [show 0 * 64 = 0 from rfl] at hw129_0)
                (try rw [Addr.add_zero'] at hw129_0)
                cases e129
                have qi129 : (0 < l4.length) = True := eq_true (by omega)
                (try rw [show ((0 : Int)).toNat = 0 from rfl] at hx129_0)
                (try rw [show 0 * 64 = 0 from rfl] at hx129_0)
                (try rw [Addr.add_zero'] at hx129_0)
                replace hx129_0 := plAt.below (w := w) HB.out hx129_0 hx129_0.lt
                replace p129 := eq_true p129
                replace q129 := eq_true q129
                have p133 : 0 ≤ ((ji16) : Int) := of_decide_eq_true (by first | (with_reducible assumption) | assumption)
                have q133 : (ji16) < (l4.length : Int) := of_decide_eq_true (by first | (with_reducible assumption) | assumption)
                obtain ⟨ad133, e133, hx133_0⟩ := at_T69 HR4.out (ji16) p133 q133
                have hw133_0 := hx133_0
                obtain rfl : ad129 = ad133 := (by injection e133)
                replace hx133_0 := plAt.below (w := w) HB.out hx133_0 hx133_0.lt
                replace p133 := eq_true p133
                replace q133 := eq_true q133
                refine start_ (n := 22) (S := fun w' => plAt w' ad129 ((rd_T69 l4 0).f0) ∧ plAt w' (ad129.add (((ji16)).toNat * 64)) ((rd_T69 l4 (ji16)).f0)) (ds := []) #[false, false, false, false, false, false, false, false, false, false, false, false, false, false, false, false, false, false, false, false, false, false] (by kernel_rfl) rfl rfl ⟨(by first | exact (plAt.below (w := w) HB.out hw129_0 hw129_0.lt) | exact (plAt.below (w := w) HB.out hv129_0 hv129_0.lt) | exact hx129_0), (by first | exact (plAt.below (w := w) HB.out hw133_0 hw133_0.lt) | exact (plAt.below (w := w) HB.out hv133_0 hv133_0.lt) | exact hx133_0)⟩ (fun hHeld => ?_); refine with_tabW spec_CheckReach.tab6 spec_CheckReach.bits6 (fun HT_ HW_ => ?_)
                generalize w10.drew = w22 at BK128 HB hx129_0 hx133_0 hHeld ⊢
                refine pure_ (i := 0) (N := some 38) (v := ?_) (a' := ?_) #[true, false, false, false, false, false, false, false, false, false, false, false, false, false, false, false, false, false, false, false, false, false] rfl rfl (any_of HT_.out (by kernel_rfl)) (fun _ _ _ h => h) (Or.inl ⟨by rfl, ?_⟩) ?_ ?_
                rotate_left
                · intro w'
                  first | (refine pl_zeroRun ?_ pbuilt69; rfl) | (refine pl_neqRunX ?_ Try.underlying69 Try.underlying24 (by kernel_rfl) pgd69 PZn; exact ⟨_, _, _, rfl, rfl, rfl⟩) | (refine pl_eqlRunX ?_ Try.underlying69 Try.underlying24 (by kernel_rfl) pgd69 PZe; exact ⟨_, _, _, rfl, rfl, rfl⟩) | (go_simp; with_reducible rfl)
                rotate_left
                · simp only [Act.put, List.setIfInBounds_toArray, List.set_cons_zero, List.set_cons_succ, i64_w, i32_w]
                  rfl
                refine pure_ (i := 1) (N := some 39) (v := ?_) (a' := ?_) #[true, true, false, false, false, false, false, false, false, false, false, false, false, false, false, false, false, false, false, false, false, false] rfl rfl (any_of HT_.out (by kernel_rfl)) (fun _ _ _ h => h) (Or.inl ⟨by rfl, ?_⟩) ?_ ?_
                rotate_left
                · intro w'
                  first | (refine pl_zeroRun ?_ pbuilt69; rfl) | (refine pl_neqRunX ?_ Try.underlying69 Try.underlying24 (by kernel_rfl) pgd69 PZn; exact ⟨_, _, _, rfl, rfl, rfl⟩) | (refine pl_eqlRunX ?_ Try.underlying69 Try.underlying24 (by kernel_rfl) pgd69 PZe; exact ⟨_, _, _, rfl, rfl, rfl⟩) | (go_simp; with_reducible rfl)
                rotate_left
                · simp only [Act.put, List.setIfInBounds_toArray, List.set_cons_zero, List.set_cons_succ, i64_w, i32_w]
                  rfl
                refine pure_ (i := 3) (N := some 41) (v := ?_) (a' := ?_) #[true, true, false, true, false, false, false, false, false, false, false, false, false, false, false, false, false, false, false, false, false, false] rfl rfl (any_of HT_.out (by kernel_rfl)) (fun _ _ _ h => h) (Or.inl ⟨by rfl, ?_⟩) ?_ ?_
                rotate_left
                · intro w'
                  first | (refine pl_zeroRun ?_ pbuilt69; rfl) | (refine pl_neqRunX ?_ Try.underlying69 Try.underlying24 (by kernel_rfl) pgd69 PZn; exact ⟨_, _, _, rfl, rfl, rfl⟩) | (refine pl_eqlRunX ?_ Try.underlying69 Try.underlying24 (by kernel_rfl) pgd69 PZe; exact ⟨_, _, _, rfl, rfl, rfl⟩) | (go_simp; with_reducible rfl)
                rotate_left
                · simp only [Act.put, List.setIfInBounds_toArray, List.set_cons_zero, List.set_cons_succ, i64_w, i32_w]
                  rfl
                refine pure_ (i := 4) (N := some 42) (v := ?_) (a' := ?_) #[true, true, false, true, true, false, false, false, false, false, false, false, false, false, false, false, false, false, false, false, false, false] rfl rfl (any_of HT_.out (by kernel_rfl)) (fun _ _ _ h => h) (Or.inl ⟨by rfl, ?_⟩) ?_ ?_
                rotate_left
                · intro w'
                  first | (refine pl_zeroRun ?_ pbuilt69; rfl) | (refine pl_neqRunX ?_ Try.underlying69 Try.underlying24 (by kernel_rfl) pgd69 PZn; exact ⟨_, _, _, rfl, rfl, rfl⟩) | (refine pl_eqlRunX ?_ Try.underlying69 Try.underlying24 (by kernel_rfl) pgd69 PZe; exact ⟨_, _, _, rfl, rfl, rfl⟩) | (go_simp; with_reducible rfl)
                rotate_left
                · simp only [Act.put, List.setIfInBounds_toArray, List.set_cons_zero, List.set_cons_succ, i64_w, i32_w]
                  rfl
                refine pure_ (i := 5) (N := some 43) (v := ?_) (a' := ?_) #[true, true, false, true, true, true, false, false, false, false, false, false, false, false, false, false, false, false, false, false, false, false] rfl rfl (any_of HT_.out (by kernel_rfl)) (fun _ _ _ h => h) (Or.inl ⟨by rfl, ?_⟩) ?_ ?_
                rotate_left
                · intro w'
                  first | (refine pl_zeroRun ?_ pbuilt69; rfl) | (refine pl_neqRunX ?_ Try.underlying69 Try.underlying24 (by kernel_rfl) pgd69 PZn; exact ⟨_, _, _, rfl, rfl, rfl⟩) | (refine pl_eqlRunX ?_ Try.underlying69 Try.underlying24 (by kernel_rfl) pgd69 PZe; exact ⟨_, _, _, rfl, rfl, rfl⟩) | (go_simp; with_reducible rfl)
                rotate_left
                · simp only [Act.put, List.setIfInBounds_toArray, List.set_cons_zero, List.set_cons_succ, i64_w, i32_w]
                  rfl
                refine pure_ (i := 7) (N := some 45) (v := ?_) (a' := ?_) #[true, true, false, true, true, true, false, true, false, false, false, false, false, false, false, false, false, false, false, false, false, false] rfl rfl (any_of HT_.out (by kernel_rfl)) (fun _ _ _ h => h) (Or.inl ⟨by rfl, ?_⟩) ?_ ?_
                rotate_left
                · intro w'
                  first | (refine pl_zeroRun ?_ pbuilt69; rfl) | (refine pl_neqRunX ?_ Try.underlying69 Try.underlying24 (by kernel_rfl) pgd69 PZn; exact ⟨_, _, _, rfl, rfl, rfl⟩) | (refine pl_eqlRunX ?_ Try.underlying69 Try.underlying24 (by kernel_rfl) pgd69 PZe; exact ⟨_, _, _, rfl, rfl, rfl⟩) | (go_simp; with_reducible rfl)
                rotate_left
                · simp only [Act.put, List.setIfInBounds_toArray, List.set_cons_zero, List.set_cons_succ, i64_w, i32_w]
                  rfl
                refine pure_ (i := 8) (N := some 46) (v := ?_) (a' := ?_) #[true, true, false, true, true, true, false, true, true, false, false, false, false, false, false, false, false, false, false, false, false, false] rfl rfl (any_of HT_.out (by kernel_rfl)) (fun _ _ _ h => h) (Or.inl ⟨by rfl, ?_⟩) ?_ ?_
                rotate_left
                · intro w'
                  first | (refine pl_zeroRun ?_ pbuilt69; rfl) | (refine pl_neqRunX ?_ Try.underlying69 Try.underlying24 (by kernel_rfl) pgd69 PZn; exact ⟨_, _, _, rfl, rfl, rfl⟩) | (refine pl_eqlRunX ?_ Try.underlying69 Try.underlying24 (by kernel_rfl) pgd69 PZe; exact ⟨_, _, _, rfl, rfl, rfl⟩) | (go_simp; with_reducible rfl)
                rotate_left
                · simp only [Act.put, List.setIfInBounds_toArray, List.set_cons_zero, List.set_cons_succ, i64_w, i32_w]
                  rfl
                refine pure_ (i := 9) (N := some 47) (v := ?_) (a' := ?_) #[true, true, false, true, true, true, false, true, true, true, false, false, false, false, false, false, false, false, false, false, false, false] rfl rfl (any_of HT_.out (by kernel_rfl)) (fun _ _ _ h => h) (Or.inl ⟨by rfl, ?_⟩) ?_ ?_
                rotate_left
                · intro w'
                  first | (refine pl_zeroRun ?_ pbuilt69; rfl) | (refine pl_neqRunX ?_ Try.underlying69 Try.underlying24 (by kernel_rfl) pgd69 PZn; exact ⟨_, _, _, rfl, rfl, rfl⟩) | (refine pl_eqlRunX ?_ Try.underlying69 Try.underlying24 (by kernel_rfl) pgd69 PZe; exact ⟨_, _, _, rfl, rfl, rfl⟩) | (go_simp; with_reducible rfl)
                rotate_left
                · simp only [Act.put, List.setIfInBounds_toArray, List.set_cons_zero, List.set_cons_succ, i64_w, i32_w]
                  rfl
                refine take_ (i := 2) (N := some 40) (v := ?_) (a' := ?_) #[true, true, true, true, true, true, false, true, true, true, false, false, false, false, false, false, false, false, false, false, false, false] rfl rfl (take_ofW HT_.out HW_.out (by kernel_rfl)) (fun _ _ _ h => h) (Or.inl ⟨by rfl, ?_⟩) hHeld ?_ ?_
                rotate_left
                · rintro w' ⟨s0, s1⟩
                  first | (refine pl_loadRunX ?_ s0 Try.underlying69 (info_pl pinfo69); exact ⟨_, rfl, rfl⟩) | (refine pl_loadRunX ?_ s1 Try.underlying69 (info_pl pinfo69); exact ⟨_, rfl, rfl⟩) | (go_simp; with_reducible rfl)
                rotate_left
                · simp only [Act.put, List.setIfInBounds_toArray, List.set_cons_zero, List.set_cons_succ, i64_w, i32_w]
                  rfl
                refine one_ (i := 6) (N := some 44) #[true, true, true, true, true, true, true, true, true, true, false, false, false, false, false, false, false, false, false, false, false, false] rfl rfl (one_of HT_.out (by kernel_rfl)) (by decide) (fun K hK => ?_)
                refine goes_ Try.func33 (by kernel_rfl) rfl #[.pointer (some ⟨gb128, 0, none⟩), .int .i64 (wrap64 (a1 - 2))] (by rfl) rfl rfl (by (try simp only [List.map_toArray, List.map_cons, List.map_nil]); first | done | rfl | (simp only [List.length_drop, List.length_take]; rfl)) ?_
                with_reducible refine (spec_l05Stretch_at.calls A0 c0 l0 a1 (wrap64 ((l4.length : Int) - 3)) a2 a3 (wrap64 (a1 - 2)) t130 _ ?side1 ?side2 ?side3 ?side4 ?side5 ?side6 ?side7 A12.out).mono ?_
                (case side1 => repeat (first | exact (Kd.C_below HR0.out HB.out) | (with_reducible refine Kd.C_alloc ?_ _) | (with_reducible refine Kd.C_drewN ?_ _) | (with_reducible refine Kd.C_drew ?_)))
                (case side2 => exact HC0.out)
                (case side3 => exact (blk_cell (g := gb128) (t := 67) (cs := #[.slice A0 l0.length c0, .int .i64 a1, .int .i64 (wrap64 ((l4.length : Int) - 3)), .int .i64 a2, .int .i64 a3]) (by (with_reducible repeat (first | refine blk_drewN ?_ _ | refine blk_drew ?_ | refine blk_alloc ?_ _)); exact BK128.out) 0).trans rfl)
                (case side4 => exact (blk_cell (g := gb128) (t := 67) (cs := #[.slice A0 l0.length c0, .int .i64 a1, .int .i64 (wrap64 ((l4.length : Int) - 3)), .int .i64 a2, .int .i64 a3]) (by (with_reducible repeat (first | refine blk_drewN ?_ _ | refine blk_drew ?_ | refine blk_alloc ?_ _)); exact BK128.out) 1).trans rfl)
                (case side5 => exact (blk_cell (g := gb128) (t := 67) (cs := #[.slice A0 l0.length c0, .int .i64 a1, .int .i64 (wrap64 ((l4.length : Int) - 3)), .int .i64 a2, .int .i64 a3]) (by (with_reducible repeat (first | refine blk_drewN ?_ _ | refine blk_drew ?_ | refine blk_alloc ?_ _)); exact BK128.out) 2).trans rfl)
                (case side6 => exact (blk_cell (g := gb128) (t := 67) (cs := #[.slice A0 l0.length c0, .int .i64 a1, .int .i64 (wrap64 ((l4.length : Int) - 3)), .int .i64 a2, .int .i64 a3]) (by (with_reducible repeat (first | refine blk_drewN ?_ _ | refine blk_drew ?_ | refine blk_alloc ?_ _)); exact BK128.out) 3).trans rfl)
                (case side7 => exact (blk_cell (g := gb128) (t := 67) (cs := #[.slice A0 l0.length c0, .int .i64 a1, .int .i64 (wrap64 ((l4.length : Int) - 3)), .int .i64 a2, .int .i64 a3]) (by (with_reducible repeat (first | refine blk_drewN ?_ _ | refine blk_drew ?_ | refine blk_alloc ?_ _)); exact BK128.out) 4).trans rfl)
                rintro e w' ⟨rfl, ⟨nd, rfl⟩⟩
                refine ⟨_, rfl, ?_⟩
                refine hK.out _ _ ⟨(by first | exact (plAt.below (w := w) HB.out hw129_0 hw129_0.lt) | exact (plAt.below (w := w) HB.out hv129_0 hv129_0.lt) | exact hx129_0), (by first | exact (plAt.below (w := w) HB.out hw133_0 hw133_0.lt) | exact (plAt.below (w := w) HB.out hv133_0 hv133_0.lt) | exact hx133_0)⟩ (fun hHeld => ?_)
                clear hK K
                refine norm_ (a' := ?_) ?_ ?_
                rotate_left
                · show Act.put _ (some 44) _ = _
                  simp only [Act.put, List.setIfInBounds_toArray, List.set_cons_zero, List.set_cons_succ, i64_w, i32_w]
                  rfl
                refine one_ (i := 10) (N := some 48) #[true, true, true, true, true, true, true, true, true, true, true, false, false, false, false, false, false, false, false, false, false, false] rfl rfl (one_of HT_.out (by kernel_rfl)) (by decide) (fun K hK => ?_)
                refine goes_ Try.func33 (by kernel_rfl) rfl #[.pointer (some ⟨gb128, 0, none⟩), .int .i64 (wrap64 (a1 - 1))] (by rfl) rfl rfl (by (try simp only [List.map_toArray, List.map_cons, List.map_nil]); first | done | rfl | (simp only [List.length_drop, List.length_take]; rfl)) ?_
                with_reducible refine (spec_l05Stretch_at.calls A0 c0 l0 a1 (wrap64 ((l4.length : Int) - 3)) a2 a3 (wrap64 (a1 - 1)) t131 _ ?side1 ?side2 ?side3 ?side4 ?side5 ?side6 ?side7 A13.out).mono ?_
                (case side1 => repeat (first | exact (Kd.C_below HR0.out (by repeat (first | (with_reducible first | exact HB.out | apply below_alloc | apply pw_below_drewN | apply below_drew1 | refine below_set ?_ GE128.out) | exact HB.out))) | (with_reducible refine Kd.C_alloc ?_ _) | (with_reducible refine Kd.C_drewN ?_ _) | (with_reducible refine Kd.C_drew ?_)))
                (case side2 => exact HC0.out)
                (case side3 => exact (blk_cell (g := gb128) (t := 67) (cs := #[.slice A0 l0.length c0, .int .i64 a1, .int .i64 (wrap64 ((l4.length : Int) - 3)), .int .i64 a2, .int .i64 a3]) (by (with_reducible repeat (first | refine blk_drewN ?_ _ | refine blk_drew ?_ | refine blk_alloc ?_ _)); exact BK128.out) 0).trans rfl)
                (case side4 => exact (blk_cell (g := gb128) (t := 67) (cs := #[.slice A0 l0.length c0, .int .i64 a1, .int .i64 (wrap64 ((l4.length : Int) - 3)), .int .i64 a2, .int .i64 a3]) (by (with_reducible repeat (first | refine blk_drewN ?_ _ | refine blk_drew ?_ | refine blk_alloc ?_ _)); exact BK128.out) 1).trans rfl)
                (case side5 => exact (blk_cell (g := gb128) (t := 67) (cs := #[.slice A0 l0.length c0, .int .i64 a1, .int .i64 (wrap64 ((l4.length : Int) - 3)), .int .i64 a2, .int .i64 a3]) (by (with_reducible repeat (first | refine blk_drewN ?_ _ | refine blk_drew ?_ | refine blk_alloc ?_ _)); exact BK128.out) 2).trans rfl)
                (case side6 => exact (blk_cell (g := gb128) (t := 67) (cs := #[.slice A0 l0.length c0, .int .i64 a1, .int .i64 (wrap64 ((l4.length : Int) - 3)), .int .i64 a2, .int .i64 a3]) (by (with_reducible repeat (first | refine blk_drewN ?_ _ | refine blk_drew ?_ | refine blk_alloc ?_ _)); exact BK128.out) 3).trans rfl)
                (case side7 => exact (blk_cell (g := gb128) (t := 67) (cs := #[.slice A0 l0.length c0, .int .i64 a1, .int .i64 (wrap64 ((l4.length : Int) - 3)), .int .i64 a2, .int .i64 a3]) (by (with_reducible repeat (first | refine blk_drewN ?_ _ | refine blk_drew ?_ | refine blk_alloc ?_ _)); exact BK128.out) 4).trans rfl)
                rintro e w' ⟨rfl, ⟨nd, rfl⟩⟩
                refine ⟨_, rfl, ?_⟩
                refine hK.out _ _ ⟨(by first | exact (plAt.below (w := w) HB.out hw129_0 hw129_0.lt) | exact (plAt.below (w := w) HB.out hv129_0 hv129_0.lt) | exact hx129_0), (by first | exact (plAt.below (w := w) HB.out hw133_0 hw133_0.lt) | exact (plAt.below (w := w) HB.out hv133_0 hv133_0.lt) | exact hx133_0)⟩ (fun hHeld => ?_)
                clear hK K
                refine norm_ (a' := ?_) ?_ ?_
                rotate_left
                · show Act.put _ (some 48) _ = _
                  simp only [Act.put, List.setIfInBounds_toArray, List.set_cons_zero, List.set_cons_succ, i64_w, i32_w]
                  rfl
                refine one_ (i := 11) (N := some 49) #[true, true, true, true, true, true, true, true, true, true, true, true, false, false, false, false, false, false, false, false, false, false] rfl rfl (one_of HT_.out (by kernel_rfl)) (by decide) (fun K hK => ?_)
                refine goes_ Try.func32 (by kernel_rfl) rfl #[.agg (plA ((rd_T69 l4 0).f0)), .int .i64 t130, .int .i64 t131] (by rfl) rfl rfl (by (try simp only [List.map_toArray, List.map_cons, List.map_nil]); first | done | rfl | (simp only [List.length_drop, List.length_take]; rfl)) ?_
                with_reducible refine (spec_HasPair.calls ((rd_T69 l4 0).f0) t130 t131 true _ A14.out).mono ?_
                rintro e w23 ⟨rfl, hb⟩
                refine ⟨_, rfl, ?_⟩
                have n0_ := Aside0.mk (blk_below (g := gb128) (o := .cells #[.slice A0 l0.length c0, .int .i64 a1, .int .i64 (wrap64 ((l4.length : Int) - 3)), .int .i64 a2, .int .i64 a3] 67 (0, 0)) (by (with_reducible repeat (first | refine blk_drewN ?_ _ | refine blk_drew ?_ | refine blk_alloc ?_ _)); exact BK128.out) hb)
                have n1_ := Aside0.mk (below_step (by repeat (first | (with_reducible first | exact HB.out | apply below_alloc | apply pw_below_drewN | apply below_drew1 | refine below_set ?_ GE128.out) | exact HB.out)) hb)
                clear BK128
                clear HB
                have BK128 := n0_
                have HB := n1_
                clear n0_ n1_
                (try clear hb)
                (try clear hb2)
                (try clear hk)
                (try clear hi)
                refine hK.out _ _ ⟨(by first | exact (plAt.below (w := w) HB.out hw129_0 hw129_0.lt) | exact (plAt.below (w := w) HB.out hv129_0 hv129_0.lt) | exact hx129_0), (by first | exact (plAt.below (w := w) HB.out hw133_0 hw133_0.lt) | exact (plAt.below (w := w) HB.out hv133_0 hv133_0.lt) | exact hx133_0)⟩ (fun hHeld => ?_)
                clear hK K
                refine norm_ (a' := ?_) ?_ ?_
                rotate_left
                · show Act.put _ (some 49) _ = _
                  simp only [Act.put, List.setIfInBounds_toArray, List.set_cons_zero, List.set_cons_succ, i64_w, i32_w]
                  rfl
                refine pure_ (i := 12) (N := some 50) (v := ?_) (a' := ?_) #[true, true, true, true, true, true, true, true, true, true, true, true, true, false, false, false, false, false, false, false, false, false] rfl rfl (any_of HT_.out (by kernel_rfl)) (fun _ _ _ h => h) (Or.inl ⟨by rfl, ?_⟩) ?_ ?_
                rotate_left
                · intro w'
                  first | (refine pl_zeroRun ?_ pbuilt69; rfl) | (refine pl_neqRunX ?_ Try.underlying69 Try.underlying24 (by kernel_rfl) pgd69 PZn; exact ⟨_, _, _, rfl, rfl, rfl⟩) | (refine pl_eqlRunX ?_ Try.underlying69 Try.underlying24 (by kernel_rfl) pgd69 PZe; exact ⟨_, _, _, rfl, rfl, rfl⟩) | (go_simp; with_reducible rfl)
                rotate_left
                · simp only [Act.put, List.setIfInBounds_toArray, List.set_cons_zero, List.set_cons_succ, i64_w, i32_w]
                  rfl
                refine pure_ (i := 13) (N := some 51) (v := ?_) (a' := ?_) #[true, true, true, true, true, true, true, true, true, true, true, true, true, true, false, false, false, false, false, false, false, false] rfl rfl (any_of HT_.out (by kernel_rfl)) (fun _ _ _ h => h) (Or.inl ⟨by rfl, ?_⟩) ?_ ?_
                rotate_left
                · intro w'
                  first | (refine pl_zeroRun ?_ pbuilt69; rfl) | (refine pl_neqRunX ?_ Try.underlying69 Try.underlying24 (by kernel_rfl) pgd69 PZn; exact ⟨_, _, _, rfl, rfl, rfl⟩) | (refine pl_eqlRunX ?_ Try.underlying69 Try.underlying24 (by kernel_rfl) pgd69 PZe; exact ⟨_, _, _, rfl, rfl, rfl⟩) | (go_simp; with_reducible rfl)
                rotate_left
                · simp only [Act.put, List.setIfInBounds_toArray, List.set_cons_zero, List.set_cons_succ, i64_w, i32_w]
                  rfl
                refine pure_ (i := 14) (N := some 52) (v := ?_) (a' := ?_) #[true, true, true, true, true, true, true, true, true, true, true, true, true, true, true, false, false, false, false, false, false, false] rfl rfl (any_of HT_.out (by kernel_rfl)) (fun _ _ _ h => h) (Or.inl ⟨by rfl, ?_⟩) ?_ ?_
                rotate_left
                · intro w'
                  first | (refine pl_zeroRun ?_ pbuilt69; rfl) | (refine pl_neqRunX ?_ Try.underlying69 Try.underlying24 (by kernel_rfl) pgd69 PZn; exact ⟨_, _, _, rfl, rfl, rfl⟩) | (refine pl_eqlRunX ?_ Try.underlying69 Try.underlying24 (by kernel_rfl) pgd69 PZe; exact ⟨_, _, _, rfl, rfl, rfl⟩) | (go_simp; with_reducible rfl)
                rotate_left
                · simp only [Act.put, List.setIfInBounds_toArray, List.set_cons_zero, List.set_cons_succ, i64_w, i32_w]
                  rfl
                refine pure_ (i := 15) (N := some 53) (v := ?_) (a' := ?_) #[true, true, true, true, true, true, true, true, true, true, true, true, true, true, true, true, false, false, false, false, false, false] rfl rfl (any_of HT_.out (by kernel_rfl)) (fun _ _ _ h => h) (Or.inl ⟨by rfl, ?_⟩) ?_ ?_
                rotate_left
                · intro w'
                  first | (refine pl_zeroRun ?_ pbuilt69; rfl) | (refine pl_neqRunX ?_ Try.underlying69 Try.underlying24 (by kernel_rfl) pgd69 PZn; exact ⟨_, _, _, rfl, rfl, rfl⟩) | (refine pl_eqlRunX ?_ Try.underlying69 Try.underlying24 (by kernel_rfl) pgd69 PZe; exact ⟨_, _, _, rfl, rfl, rfl⟩) | (go_simp; with_reducible rfl)
                rotate_left
                · simp only [Act.put, List.setIfInBounds_toArray, List.set_cons_zero, List.set_cons_succ, i64_w, i32_w]
                  rfl
                refine pure_ (i := 16) (N := some 54) (v := ?_) (a' := ?_) #[true, true, true, true, true, true, true, true, true, true, true, true, true, true, true, true, true, false, false, false, false, false] rfl rfl (any_of HT_.out (by kernel_rfl)) (fun _ _ _ h => h) (Or.inl ⟨by rfl, ?_⟩) ?_ ?_
                rotate_left
                · intro w'
                  first | (refine pl_zeroRun ?_ pbuilt69; rfl) | (refine pl_neqRunX ?_ Try.underlying69 Try.underlying24 (by kernel_rfl) pgd69 PZn; exact ⟨_, _, _, rfl, rfl, rfl⟩) | (refine pl_eqlRunX ?_ Try.underlying69 Try.underlying24 (by kernel_rfl) pgd69 PZe; exact ⟨_, _, _, rfl, rfl, rfl⟩) | (go_simp; with_reducible rfl)
                rotate_left
                · simp only [Act.put, List.setIfInBounds_toArray, List.set_cons_zero, List.set_cons_succ, i64_w, i32_w]
                  rfl
                refine pure_ (i := 18) (N := some 56) (v := ?_) (a' := ?_) #[true, true, true, true, true, true, true, true, true, true, true, true, true, true, true, true, true, false, true, false, false, false] rfl rfl (any_of HT_.out (by kernel_rfl)) (fun _ _ _ h => h) (Or.inl ⟨by rfl, ?_⟩) ?_ ?_
                rotate_left
                · intro w'
                  first | (refine pl_zeroRun ?_ pbuilt69; rfl) | (refine pl_neqRunX ?_ Try.underlying69 Try.underlying24 (by kernel_rfl) pgd69 PZn; exact ⟨_, _, _, rfl, rfl, rfl⟩) | (refine pl_eqlRunX ?_ Try.underlying69 Try.underlying24 (by kernel_rfl) pgd69 PZe; exact ⟨_, _, _, rfl, rfl, rfl⟩) | (go_simp; with_reducible rfl)
                rotate_left
                · simp only [Act.put, List.setIfInBounds_toArray, List.set_cons_zero, List.set_cons_succ, i64_w, i32_w]
                  rfl
                refine take_ (i := 17) (N := some 55) (v := ?_) (a' := ?_) #[true, true, true, true, true, true, true, true, true, true, true, true, true, true, true, true, true, true, true, false, false, false] rfl rfl (take_ofW HT_.out HW_.out (by kernel_rfl)) (fun _ _ _ h => h) (Or.inl ⟨by rfl, ?_⟩) hHeld ?_ ?_
                rotate_left
                · rintro w' ⟨s0, s1⟩
                  first | (refine pl_loadRunX ?_ s0 Try.underlying69 (info_pl pinfo69); exact ⟨_, rfl, rfl⟩) | (refine pl_loadRunX ?_ s1 Try.underlying69 (info_pl pinfo69); exact ⟨_, rfl, rfl⟩) | (go_simp; with_reducible rfl)
                rotate_left
                · simp only [Act.put, List.setIfInBounds_toArray, List.set_cons_zero, List.set_cons_succ, i64_w, i32_w]
                  rfl
                refine pure_ (i := 19) (N := some 57) (v := ?_) (a' := ?_) #[true, true, true, true, true, true, true, true, true, true, true, true, true, true, true, true, true, true, true, true, false, false] rfl rfl (any_of HT_.out (by kernel_rfl)) (fun _ _ _ h => h) (Or.inl ⟨by rfl, ?_⟩) ?_ ?_
                rotate_left
                · intro w'
                  first | (refine pl_zeroRun ?_ pbuilt69; rfl) | (refine pl_neqRunX ?_ Try.underlying69 Try.underlying24 (by kernel_rfl) pgd69 PZn; exact ⟨_, _, _, rfl, rfl, rfl⟩) | (refine pl_eqlRunX ?_ Try.underlying69 Try.underlying24 (by kernel_rfl) pgd69 PZe; exact ⟨_, _, _, rfl, rfl, rfl⟩) | (go_simp; with_reducible rfl)
                rotate_left
                · simp only [Act.put, List.setIfInBounds_toArray, List.set_cons_zero, List.set_cons_succ, i64_w, i32_w]
                  rfl
                refine pure_ (i := 20) (N := some 58) (v := ?_) (a' := ?_) #[true, true, true, true, true, true, true, true, true, true, true, true, true, true, true, true, true, true, true, true, true, false] rfl rfl (any_of HT_.out (by kernel_rfl)) (fun _ _ _ h => h) (Or.inl ⟨by rfl, ?_⟩) ?_ ?_
                rotate_left
                · intro w'
                  first | (refine pl_zeroRun ?_ pbuilt69; rfl) | (refine pl_neqRunX ?_ Try.underlying69 Try.underlying24 (by kernel_rfl) pgd69 PZn; exact ⟨_, _, _, rfl, rfl, rfl⟩) | (refine pl_eqlRunX ?_ Try.underlying69 Try.underlying24 (by kernel_rfl) pgd69 PZe; exact ⟨_, _, _, rfl, rfl, rfl⟩) | (go_simp; with_reducible rfl)
                rotate_left
                · simp only [Act.put, List.setIfInBounds_toArray, List.set_cons_zero, List.set_cons_succ, i64_w, i32_w]
                  rfl
                refine pure_ (i := 21) (N := some 15) (v := ?_) (a' := ?_) #[true, true, true, true, true, true, true, true, true, true, true, true, true, true, true, true, true, true, true, true, true, true] rfl rfl (any_of HT_.out (by kernel_rfl)) (fun _ _ _ h => h) (Or.inl ⟨by rfl, ?_⟩) ?_ ?_
                rotate_left
                · intro w'
                  first | (refine pl_zeroRun ?_ pbuilt69; rfl) | (refine pl_neqRunX ?_ Try.underlying69 Try.underlying24 (by kernel_rfl) pgd69 PZn; exact ⟨_, _, _, rfl, rfl, rfl⟩) | (refine pl_eqlRunX ?_ Try.underlying69 Try.underlying24 (by kernel_rfl) pgd69 PZe; exact ⟨_, _, _, rfl, rfl, rfl⟩) | (go_simp; with_reducible rfl)
                rotate_left
                · simp only [Act.put, List.setIfInBounds_toArray, List.set_cons_zero, List.set_cons_succ, i64_w, i32_w]
                  rfl
                refine done_ (done_of HT_.out (by kernel_rfl)) ?_
                try go_wp2
                go_meet
                case rel => exact ⟨_, (false), (a1), (wrap64 ((l4.length : Int) - 3)), (a2), (a3), (by first | rfl | (simp; done) | (simp [*]; done)), H', ⟨by first | omega | exact Nat.le_refl _⟩, ⟨by (with_reducible repeat (first | refine blk_drewN ?_ _ | refine blk_drew ?_ | refine blk_alloc ?_ _)); exact BK128.out⟩, ⟨by repeat (first | (with_reducible first | exact HB.out | apply below_alloc | apply pw_below_drewN | apply below_drew1 | refine below_set ?_ GE128.out) | exact HB.out)⟩⟩
            · rw [if_neg c18] at H
              exact absurd H (by simp)
          · rw [if_neg c17] at H
            exact absurd H (by simp)
        · replace c15 := Bool.eq_false_iff.mpr c15
          subst c15
          have H1 : (spec_CheckReach.j0 k l4 (wrap64 ((l4.length : Int) - 3)) false l0 a1 (wrap64 ((l4.length : Int) - 3)) a2 a3) = some (r1, r2) := by rw [if_neg (show ¬ (false = true) by decide)] at H; exact H
          clear H
          have H := H1
          clear H1
          have H' := Aside0.mk H
          clear H
          try go_wp2
          have n0_ := Aside0.mk (blk_drew BK128.out)
          have n1_ := Aside0.mk (below_drew1 HB.out)
          clear BK128
          clear HB
          have BK128 := n0_
          have HB := n1_
          clear n0_ n1_
          have p129 : 0 ≤ (0 : Int) := (by omega)
          have q129 : 0 < (l4.length : Int) := of_decide_eq_true (by first | (with_reducible assumption) | assumption)
          obtain ⟨ad129, e129, hx129_0⟩ := at_T69 HR4.out 0 p129 q129
          have hw129_0 := hx129_0
          (try rw [show ((0 : Int)).toNat = 0 from rfl] at hw129_0)
          (try rw [show 0 * 64 = 0 from rfl] at hw129_0)
          (try rw [Addr.add_zero'] at hw129_0)
          cases e129
          have qi129 : (0 < l4.length) = True := eq_true (by omega)
          (try rw [show ((0 : Int)).toNat = 0 from rfl] at hx129_0)
          (try rw [show 0 * 64 = 0 from rfl] at hx129_0)
          (try rw [Addr.add_zero'] at hx129_0)
          replace hx129_0 := plAt.below (w := w) HB.out hx129_0 hx129_0.lt
          replace p129 := eq_true p129
          replace q129 := eq_true q129
          refine start_ (n := 22) (S := fun w' => plAt w' ad129 ((rd_T69 l4 0).f0)) (ds := []) #[false, false, false, false, false, false, false, false, false, false, false, false, false, false, false, false, false, false, false, false, false, false] (by kernel_rfl) rfl rfl ((by first | exact (plAt.below (w := w) HB.out hw129_0 hw129_0.lt) | exact (plAt.below (w := w) HB.out hv129_0 hv129_0.lt) | exact hx129_0)) (fun hHeld => ?_); refine with_tabW spec_CheckReach.tab6 spec_CheckReach.bits6 (fun HT_ HW_ => ?_)
          generalize w10.drew = w24 at BK128 HB hx129_0 hHeld ⊢
          refine pure_ (i := 0) (N := some 38) (v := ?_) (a' := ?_) #[true, false, false, false, false, false, false, false, false, false, false, false, false, false, false, false, false, false, false, false, false, false] rfl rfl (any_of HT_.out (by kernel_rfl)) (fun _ _ _ h => h) (Or.inl ⟨by rfl, ?_⟩) ?_ ?_
          rotate_left
          · intro w'
            first | (refine pl_zeroRun ?_ pbuilt69; rfl) | (refine pl_neqRunX ?_ Try.underlying69 Try.underlying24 (by kernel_rfl) pgd69 PZn; exact ⟨_, _, _, rfl, rfl, rfl⟩) | (refine pl_eqlRunX ?_ Try.underlying69 Try.underlying24 (by kernel_rfl) pgd69 PZe; exact ⟨_, _, _, rfl, rfl, rfl⟩) | (go_simp; with_reducible rfl)
          rotate_left
          · simp only [Act.put, List.setIfInBounds_toArray, List.set_cons_zero, List.set_cons_succ, i64_w, i32_w]
            rfl
          refine pure_ (i := 1) (N := some 39) (v := ?_) (a' := ?_) #[true, true, false, false, false, false, false, false, false, false, false, false, false, false, false, false, false, false, false, false, false, false] rfl rfl (any_of HT_.out (by kernel_rfl)) (fun _ _ _ h => h) (Or.inl ⟨by rfl, ?_⟩) ?_ ?_
          rotate_left
          · intro w'
            first | (refine pl_zeroRun ?_ pbuilt69; rfl) | (refine pl_neqRunX ?_ Try.underlying69 Try.underlying24 (by kernel_rfl) pgd69 PZn; exact ⟨_, _, _, rfl, rfl, rfl⟩) | (refine pl_eqlRunX ?_ Try.underlying69 Try.underlying24 (by kernel_rfl) pgd69 PZe; exact ⟨_, _, _, rfl, rfl, rfl⟩) | (go_simp; with_reducible rfl)
          rotate_left
          · simp only [Act.put, List.setIfInBounds_toArray, List.set_cons_zero, List.set_cons_succ, i64_w, i32_w]
            rfl
          refine pure_ (i := 3) (N := some 41) (v := ?_) (a' := ?_) #[true, true, false, true, false, false, false, false, false, false, false, false, false, false, false, false, false, false, false, false, false, false] rfl rfl (any_of HT_.out (by kernel_rfl)) (fun _ _ _ h => h) (Or.inl ⟨by rfl, ?_⟩) ?_ ?_
          rotate_left
          · intro w'
            first | (refine pl_zeroRun ?_ pbuilt69; rfl) | (refine pl_neqRunX ?_ Try.underlying69 Try.underlying24 (by kernel_rfl) pgd69 PZn; exact ⟨_, _, _, rfl, rfl, rfl⟩) | (refine pl_eqlRunX ?_ Try.underlying69 Try.underlying24 (by kernel_rfl) pgd69 PZe; exact ⟨_, _, _, rfl, rfl, rfl⟩) | (go_simp; with_reducible rfl)
          rotate_left
          · simp only [Act.put, List.setIfInBounds_toArray, List.set_cons_zero, List.set_cons_succ, i64_w, i32_w]
            rfl
          refine pure_ (i := 4) (N := some 42) (v := ?_) (a' := ?_) #[true, true, false, true, true, false, false, false, false, false, false, false, false, false, false, false, false, false, false, false, false, false] rfl rfl (any_of HT_.out (by kernel_rfl)) (fun _ _ _ h => h) (Or.inl ⟨by rfl, ?_⟩) ?_ ?_
          rotate_left
          · intro w'
            first | (refine pl_zeroRun ?_ pbuilt69; rfl) | (refine pl_neqRunX ?_ Try.underlying69 Try.underlying24 (by kernel_rfl) pgd69 PZn; exact ⟨_, _, _, rfl, rfl, rfl⟩) | (refine pl_eqlRunX ?_ Try.underlying69 Try.underlying24 (by kernel_rfl) pgd69 PZe; exact ⟨_, _, _, rfl, rfl, rfl⟩) | (go_simp; with_reducible rfl)
          rotate_left
          · simp only [Act.put, List.setIfInBounds_toArray, List.set_cons_zero, List.set_cons_succ, i64_w, i32_w]
            rfl
          refine pure_ (i := 5) (N := some 43) (v := ?_) (a' := ?_) #[true, true, false, true, true, true, false, false, false, false, false, false, false, false, false, false, false, false, false, false, false, false] rfl rfl (any_of HT_.out (by kernel_rfl)) (fun _ _ _ h => h) (Or.inl ⟨by rfl, ?_⟩) ?_ ?_
          rotate_left
          · intro w'
            first | (refine pl_zeroRun ?_ pbuilt69; rfl) | (refine pl_neqRunX ?_ Try.underlying69 Try.underlying24 (by kernel_rfl) pgd69 PZn; exact ⟨_, _, _, rfl, rfl, rfl⟩) | (refine pl_eqlRunX ?_ Try.underlying69 Try.underlying24 (by kernel_rfl) pgd69 PZe; exact ⟨_, _, _, rfl, rfl, rfl⟩) | (go_simp; with_reducible rfl)
          rotate_left
          · simp only [Act.put, List.setIfInBounds_toArray, List.set_cons_zero, List.set_cons_succ, i64_w, i32_w]
            rfl
          refine pure_ (i := 7) (N := some 45) (v := ?_) (a' := ?_) #[true, true, false, true, true, true, false, true, false, false, false, false, false, false, false, false, false, false, false, false, false, false] rfl rfl (any_of HT_.out (by kernel_rfl)) (fun _ _ _ h => h) (Or.inl ⟨by rfl, ?_⟩) ?_ ?_
          rotate_left
          · intro w'
            first | (refine pl_zeroRun ?_ pbuilt69; rfl) | (refine pl_neqRunX ?_ Try.underlying69 Try.underlying24 (by kernel_rfl) pgd69 PZn; exact ⟨_, _, _, rfl, rfl, rfl⟩) | (refine pl_eqlRunX ?_ Try.underlying69 Try.underlying24 (by kernel_rfl) pgd69 PZe; exact ⟨_, _, _, rfl, rfl, rfl⟩) | (go_simp; with_reducible rfl)
          rotate_left
          · simp only [Act.put, List.setIfInBounds_toArray, List.set_cons_zero, List.set_cons_succ, i64_w, i32_w]
            rfl
          refine pure_ (i := 8) (N := some 46) (v := ?_) (a' := ?_) #[true, true, false, true, true, true, false, true, true, false, false, false, false, false, false, false, false, false, false, false, false, false] rfl rfl (any_of HT_.out (by kernel_rfl)) (fun _ _ _ h => h) (Or.inl ⟨by rfl, ?_⟩) ?_ ?_
          rotate_left
          · intro w'
            first | (refine pl_zeroRun ?_ pbuilt69; rfl) | (refine pl_neqRunX ?_ Try.underlying69 Try.underlying24 (by kernel_rfl) pgd69 PZn; exact ⟨_, _, _, rfl, rfl, rfl⟩) | (refine pl_eqlRunX ?_ Try.underlying69 Try.underlying24 (by kernel_rfl) pgd69 PZe; exact ⟨_, _, _, rfl, rfl, rfl⟩) | (go_simp; with_reducible rfl)
          rotate_left
          · simp only [Act.put, List.setIfInBounds_toArray, List.set_cons_zero, List.set_cons_succ, i64_w, i32_w]
            rfl
          refine pure_ (i := 9) (N := some 47) (v := ?_) (a' := ?_) #[true, true, false, true, true, true, false, true, true, true, false, false, false, false, false, false, false, false, false, false, false, false] rfl rfl (any_of HT_.out (by kernel_rfl)) (fun _ _ _ h => h) (Or.inl ⟨by rfl, ?_⟩) ?_ ?_
          rotate_left
          · intro w'
            first | (refine pl_zeroRun ?_ pbuilt69; rfl) | (refine pl_neqRunX ?_ Try.underlying69 Try.underlying24 (by kernel_rfl) pgd69 PZn; exact ⟨_, _, _, rfl, rfl, rfl⟩) | (refine pl_eqlRunX ?_ Try.underlying69 Try.underlying24 (by kernel_rfl) pgd69 PZe; exact ⟨_, _, _, rfl, rfl, rfl⟩) | (go_simp; with_reducible rfl)
          rotate_left
          · simp only [Act.put, List.setIfInBounds_toArray, List.set_cons_zero, List.set_cons_succ, i64_w, i32_w]
            rfl
          refine take_ (i := 2) (N := some 40) (v := ?_) (a' := ?_) #[true, true, true, true, true, true, false, true, true, true, false, false, false, false, false, false, false, false, false, false, false, false] rfl rfl (take_ofW HT_.out HW_.out (by kernel_rfl)) (fun _ _ _ h => h) (Or.inl ⟨by rfl, ?_⟩) hHeld ?_ ?_
          rotate_left
          · intro w' s0
            first | (refine pl_loadRunX ?_ s0 Try.underlying69 (info_pl pinfo69); exact ⟨_, rfl, rfl⟩) | (go_simp; with_reducible rfl)
          rotate_left
          · simp only [Act.put, List.setIfInBounds_toArray, List.set_cons_zero, List.set_cons_succ, i64_w, i32_w]
            rfl
          refine one_ (i := 6) (N := some 44) #[true, true, true, true, true, true, true, true, true, true, false, false, false, false, false, false, false, false, false, false, false, false] rfl rfl (one_of HT_.out (by kernel_rfl)) (by decide) (fun K hK => ?_)
          refine goes_ Try.func33 (by kernel_rfl) rfl #[.pointer (some ⟨gb128, 0, none⟩), .int .i64 (wrap64 (a1 - 2))] (by rfl) rfl rfl (by (try simp only [List.map_toArray, List.map_cons, List.map_nil]); first | done | rfl | (simp only [List.length_drop, List.length_take]; rfl)) ?_
          with_reducible refine (spec_l05Stretch_at.calls A0 c0 l0 a1 (wrap64 ((l4.length : Int) - 3)) a2 a3 (wrap64 (a1 - 2)) t130 _ ?side1 ?side2 ?side3 ?side4 ?side5 ?side6 ?side7 A12.out).mono ?_
          (case side1 => repeat (first | exact (Kd.C_below HR0.out HB.out) | (with_reducible refine Kd.C_alloc ?_ _) | (with_reducible refine Kd.C_drewN ?_ _) | (with_reducible refine Kd.C_drew ?_)))
          (case side2 => exact HC0.out)
          (case side3 => exact (blk_cell (g := gb128) (t := 67) (cs := #[.slice A0 l0.length c0, .int .i64 a1, .int .i64 (wrap64 ((l4.length : Int) - 3)), .int .i64 a2, .int .i64 a3]) (by (with_reducible repeat (first | refine blk_drewN ?_ _ | refine blk_drew ?_ | refine blk_alloc ?_ _)); exact BK128.out) 0).trans rfl)
          (case side4 => exact (blk_cell (g := gb128) (t := 67) (cs := #[.slice A0 l0.length c0, .int .i64 a1, .int .i64 (wrap64 ((l4.length : Int) - 3)), .int .i64 a2, .int .i64 a3]) (by (with_reducible repeat (first | refine blk_drewN ?_ _ | refine blk_drew ?_ | refine blk_alloc ?_ _)); exact BK128.out) 1).trans rfl)
          (case side5 => exact (blk_cell (g := gb128) (t := 67) (cs := #[.slice A0 l0.length c0, .int .i64 a1, .int .i64 (wrap64 ((l4.length : Int) - 3)), .int .i64 a2, .int .i64 a3]) (by (with_reducible repeat (first | refine blk_drewN ?_ _ | refine blk_drew ?_ | refine blk_alloc ?_ _)); exact BK128.out) 2).trans rfl)
          (case side6 => exact (blk_cell (g := gb128) (t := 67) (cs := #[.slice A0 l0.length c0, .int .i64 a1, .int .i64 (wrap64 ((l4.length : Int) - 3)), .int .i64 a2, .int .i64 a3]) (by (with_reducible repeat (first | refine blk_drewN ?_ _ | refine blk_drew ?_ | refine blk_alloc ?_ _)); exact BK128.out) 3).trans rfl)
          (case side7 => exact (blk_cell (g := gb128) (t := 67) (cs := #[.slice A0 l0.length c0, .int .i64 a1, .int .i64 (wrap64 ((l4.length : Int) - 3)), .int .i64 a2, .int .i64 a3]) (by (with_reducible repeat (first | refine blk_drewN ?_ _ | refine blk_drew ?_ | refine blk_alloc ?_ _)); exact BK128.out) 4).trans rfl)
          rintro e w' ⟨rfl, ⟨nd, rfl⟩⟩
          refine ⟨_, rfl, ?_⟩
          refine hK.out _ _ ((by first | exact (plAt.below (w := w) HB.out hw129_0 hw129_0.lt) | exact (plAt.below (w := w) HB.out hv129_0 hv129_0.lt) | exact hx129_0)) (fun hHeld => ?_)
          clear hK K
          refine norm_ (a' := ?_) ?_ ?_
          rotate_left
          · show Act.put _ (some 44) _ = _
            simp only [Act.put, List.setIfInBounds_toArray, List.set_cons_zero, List.set_cons_succ, i64_w, i32_w]
            rfl
          refine one_ (i := 10) (N := some 48) #[true, true, true, true, true, true, true, true, true, true, true, false, false, false, false, false, false, false, false, false, false, false] rfl rfl (one_of HT_.out (by kernel_rfl)) (by decide) (fun K hK => ?_)
          refine goes_ Try.func33 (by kernel_rfl) rfl #[.pointer (some ⟨gb128, 0, none⟩), .int .i64 (wrap64 (a1 - 1))] (by rfl) rfl rfl (by (try simp only [List.map_toArray, List.map_cons, List.map_nil]); first | done | rfl | (simp only [List.length_drop, List.length_take]; rfl)) ?_
          with_reducible refine (spec_l05Stretch_at.calls A0 c0 l0 a1 (wrap64 ((l4.length : Int) - 3)) a2 a3 (wrap64 (a1 - 1)) t131 _ ?side1 ?side2 ?side3 ?side4 ?side5 ?side6 ?side7 A13.out).mono ?_
          (case side1 => repeat (first | exact (Kd.C_below HR0.out (by repeat (first | (with_reducible first | exact HB.out | apply below_alloc | apply pw_below_drewN | apply below_drew1 | refine below_set ?_ GE128.out) | exact HB.out))) | (with_reducible refine Kd.C_alloc ?_ _) | (with_reducible refine Kd.C_drewN ?_ _) | (with_reducible refine Kd.C_drew ?_)))
          (case side2 => exact HC0.out)
          (case side3 => exact (blk_cell (g := gb128) (t := 67) (cs := #[.slice A0 l0.length c0, .int .i64 a1, .int .i64 (wrap64 ((l4.length : Int) - 3)), .int .i64 a2, .int .i64 a3]) (by (with_reducible repeat (first | refine blk_drewN ?_ _ | refine blk_drew ?_ | refine blk_alloc ?_ _)); exact BK128.out) 0).trans rfl)
          (case side4 => exact (blk_cell (g := gb128) (t := 67) (cs := #[.slice A0 l0.length c0, .int .i64 a1, .int .i64 (wrap64 ((l4.length : Int) - 3)), .int .i64 a2, .int .i64 a3]) (by (with_reducible repeat (first | refine blk_drewN ?_ _ | refine blk_drew ?_ | refine blk_alloc ?_ _)); exact BK128.out) 1).trans rfl)
          (case side5 => exact (blk_cell (g := gb128) (t := 67) (cs := #[.slice A0 l0.length c0, .int .i64 a1, .int .i64 (wrap64 ((l4.length : Int) - 3)), .int .i64 a2, .int .i64 a3]) (by (with_reducible repeat (first | refine blk_drewN ?_ _ | refine blk_drew ?_ | refine blk_alloc ?_ _)); exact BK128.out) 2).trans rfl)
          (case side6 => exact (blk_cell (g := gb128) (t := 67) (cs := #[.slice A0 l0.length c0, .int .i64 a1, .int .i64 (wrap64 ((l4.length : Int) - 3)), .int .i64 a2, .int .i64 a3]) (by (with_reducible repeat (first | refine blk_drewN ?_ _ | refine blk_drew ?_ | refine blk_alloc ?_ _)); exact BK128.out) 3).trans rfl)
          (case side7 => exact (blk_cell (g := gb128) (t := 67) (cs := #[.slice A0 l0.length c0, .int .i64 a1, .int .i64 (wrap64 ((l4.length : Int) - 3)), .int .i64 a2, .int .i64 a3]) (by (with_reducible repeat (first | refine blk_drewN ?_ _ | refine blk_drew ?_ | refine blk_alloc ?_ _)); exact BK128.out) 4).trans rfl)
          rintro e w' ⟨rfl, ⟨nd, rfl⟩⟩
          refine ⟨_, rfl, ?_⟩
          refine hK.out _ _ ((by first | exact (plAt.below (w := w) HB.out hw129_0 hw129_0.lt) | exact (plAt.below (w := w) HB.out hv129_0 hv129_0.lt) | exact hx129_0)) (fun hHeld => ?_)
          clear hK K
          refine norm_ (a' := ?_) ?_ ?_
          rotate_left
          · show Act.put _ (some 48) _ = _
            simp only [Act.put, List.setIfInBounds_toArray, List.set_cons_zero, List.set_cons_succ, i64_w, i32_w]
            rfl
          refine one_ (i := 11) (N := some 49) #[true, true, true, true, true, true, true, true, true, true, true, true, false, false, false, false, false, false, false, false, false, false] rfl rfl (one_of HT_.out (by kernel_rfl)) (by decide) (fun K hK => ?_)
          refine goes_ Try.func32 (by kernel_rfl) rfl #[.agg (plA ((rd_T69 l4 0).f0)), .int .i64 t130, .int .i64 t131] (by rfl) rfl rfl (by (try simp only [List.map_toArray, List.map_cons, List.map_nil]); first | done | rfl | (simp only [List.length_drop, List.length_take]; rfl)) ?_
          with_reducible refine (spec_HasPair.calls ((rd_T69 l4 0).f0) t130 t131 false _ A14.out).mono ?_
          rintro e w25 ⟨rfl, hb⟩
          refine ⟨_, rfl, ?_⟩
          have n0_ := Aside0.mk (blk_below (g := gb128) (o := .cells #[.slice A0 l0.length c0, .int .i64 a1, .int .i64 (wrap64 ((l4.length : Int) - 3)), .int .i64 a2, .int .i64 a3] 67 (0, 0)) (by (with_reducible repeat (first | refine blk_drewN ?_ _ | refine blk_drew ?_ | refine blk_alloc ?_ _)); exact BK128.out) hb)
          have n1_ := Aside0.mk (below_step (by repeat (first | (with_reducible first | exact HB.out | apply below_alloc | apply pw_below_drewN | apply below_drew1 | refine below_set ?_ GE128.out) | exact HB.out)) hb)
          clear BK128
          clear HB
          have BK128 := n0_
          have HB := n1_
          clear n0_ n1_
          (try clear hb)
          (try clear hb2)
          (try clear hk)
          (try clear hi)
          refine hK.out _ _ ((by first | exact (plAt.below (w := w) HB.out hw129_0 hw129_0.lt) | exact (plAt.below (w := w) HB.out hv129_0 hv129_0.lt) | exact hx129_0)) (fun hHeld => ?_)
          clear hK K
          refine norm_ (a' := ?_) ?_ ?_
          rotate_left
          · show Act.put _ (some 49) _ = _
            simp only [Act.put, List.setIfInBounds_toArray, List.set_cons_zero, List.set_cons_succ, i64_w, i32_w]
            rfl
          refine pure_ (i := 12) (N := some 50) (v := ?_) (a' := ?_) #[true, true, true, true, true, true, true, true, true, true, true, true, true, false, false, false, false, false, false, false, false, false] rfl rfl (any_of HT_.out (by kernel_rfl)) (fun _ _ _ h => h) (Or.inl ⟨by rfl, ?_⟩) ?_ ?_
          rotate_left
          · intro w'
            first | (refine pl_zeroRun ?_ pbuilt69; rfl) | (refine pl_neqRunX ?_ Try.underlying69 Try.underlying24 (by kernel_rfl) pgd69 PZn; exact ⟨_, _, _, rfl, rfl, rfl⟩) | (refine pl_eqlRunX ?_ Try.underlying69 Try.underlying24 (by kernel_rfl) pgd69 PZe; exact ⟨_, _, _, rfl, rfl, rfl⟩) | (go_simp; with_reducible rfl)
          rotate_left
          · simp only [Act.put, List.setIfInBounds_toArray, List.set_cons_zero, List.set_cons_succ, i64_w, i32_w]
            rfl
          refine pure_ (i := 13) (N := some 51) (v := undef) (a' := ?_) #[true, true, true, true, true, true, true, true, true, true, true, true, true, true, false, false, false, false, false, false, false, false] rfl rfl (any_of HT_.out (by kernel_rfl)) (fun _ _ _ h => h) (Or.inr ⟨by rfl, rfl⟩) ?_ ?_
          rotate_left
          · simp only [Act.put, List.setIfInBounds_toArray, List.set_cons_zero, List.set_cons_succ, i64_w, i32_w]
            rfl
          refine pure_ (i := 14) (N := some 52) (v := undef) (a' := ?_) #[true, true, true, true, true, true, true, true, true, true, true, true, true, true, true, false, false, false, false, false, false, false] rfl rfl (any_of HT_.out (by kernel_rfl)) (fun _ _ _ h => h) (Or.inr ⟨by rfl, rfl⟩) ?_ ?_
          rotate_left
          · simp only [Act.put, List.setIfInBounds_toArray, List.set_cons_zero, List.set_cons_succ, i64_w, i32_w]
            rfl
          refine pure_ (i := 15) (N := some 53) (v := undef) (a' := ?_) #[true, true, true, true, true, true, true, true, true, true, true, true, true, true, true, true, false, false, false, false, false, false] rfl rfl (any_of HT_.out (by kernel_rfl)) (fun _ _ _ h => h) (Or.inr ⟨by rfl, rfl⟩) ?_ ?_
          rotate_left
          · simp only [Act.put, List.setIfInBounds_toArray, List.set_cons_zero, List.set_cons_succ, i64_w, i32_w]
            rfl
          refine pure_ (i := 16) (N := some 54) (v := undef) (a' := ?_) #[true, true, true, true, true, true, true, true, true, true, true, true, true, true, true, true, true, false, false, false, false, false] rfl rfl (any_of HT_.out (by kernel_rfl)) (fun _ _ _ h => h) (Or.inr ⟨by rfl, rfl⟩) ?_ ?_
          rotate_left
          · simp only [Act.put, List.setIfInBounds_toArray, List.set_cons_zero, List.set_cons_succ, i64_w, i32_w]
            rfl
          refine pure_ (i := 17) (N := some 55) (v := undef) (a' := ?_) #[true, true, true, true, true, true, true, true, true, true, true, true, true, true, true, true, true, true, false, false, false, false] rfl rfl (any_of HT_.out (by kernel_rfl)) (fun _ _ _ h => h) (Or.inr ⟨by rfl, rfl⟩) ?_ ?_
          rotate_left
          · simp only [Act.put, List.setIfInBounds_toArray, List.set_cons_zero, List.set_cons_succ, i64_w, i32_w]
            rfl
          refine pure_ (i := 18) (N := some 56) (v := undef) (a' := ?_) #[true, true, true, true, true, true, true, true, true, true, true, true, true, true, true, true, true, true, true, false, false, false] rfl rfl (any_of HT_.out (by kernel_rfl)) (fun _ _ _ h => h) (Or.inr ⟨by rfl, rfl⟩) ?_ ?_
          rotate_left
          · simp only [Act.put, List.setIfInBounds_toArray, List.set_cons_zero, List.set_cons_succ, i64_w, i32_w]
            rfl
          refine pure_ (i := 19) (N := some 57) (v := undef) (a' := ?_) #[true, true, true, true, true, true, true, true, true, true, true, true, true, true, true, true, true, true, true, true, false, false] rfl rfl (any_of HT_.out (by kernel_rfl)) (fun _ _ _ h => h) (Or.inr ⟨by rfl, rfl⟩) ?_ ?_
          rotate_left
          · simp only [Act.put, List.setIfInBounds_toArray, List.set_cons_zero, List.set_cons_succ, i64_w, i32_w]
            rfl
          refine pure_ (i := 20) (N := some 58) (v := ?_) (a' := ?_) #[true, true, true, true, true, true, true, true, true, true, true, true, true, true, true, true, true, true, true, true, true, false] rfl rfl (any_of HT_.out (by kernel_rfl)) (fun _ _ _ h => h) (Or.inl ⟨by rfl, ?_⟩) ?_ ?_
          rotate_left
          · intro w'
            first | (refine pl_zeroRun ?_ pbuilt69; rfl) | (refine pl_neqRunX ?_ Try.underlying69 Try.underlying24 (by kernel_rfl) pgd69 PZn; exact ⟨_, _, _, rfl, rfl, rfl⟩) | (refine pl_eqlRunX ?_ Try.underlying69 Try.underlying24 (by kernel_rfl) pgd69 PZe; exact ⟨_, _, _, rfl, rfl, rfl⟩) | (go_simp; with_reducible rfl)
          rotate_left
          · simp only [Act.put, List.setIfInBounds_toArray, List.set_cons_zero, List.set_cons_succ, i64_w, i32_w]
            rfl
          refine pure_ (i := 21) (N := some 15) (v := ?_) (a' := ?_) #[true, true, true, true, true, true, true, true, true, true, true, true, true, true, true, true, true, true, true, true, true, true] rfl rfl (any_of HT_.out (by kernel_rfl)) (fun _ _ _ h => h) (Or.inl ⟨by rfl, ?_⟩) ?_ ?_
          rotate_left
          · intro w'
            first | (refine pl_zeroRun ?_ pbuilt69; rfl) | (refine pl_neqRunX ?_ Try.underlying69 Try.underlying24 (by kernel_rfl) pgd69 PZn; exact ⟨_, _, _, rfl, rfl, rfl⟩) | (refine pl_eqlRunX ?_ Try.underlying69 Try.underlying24 (by kernel_rfl) pgd69 PZe; exact ⟨_, _, _, rfl, rfl, rfl⟩) | (go_simp; with_reducible rfl)
          rotate_left
          · simp only [Act.put, List.setIfInBounds_toArray, List.set_cons_zero, List.set_cons_succ, i64_w, i32_w]
            rfl
          refine done_ (done_of HT_.out (by kernel_rfl)) ?_
          try go_wp2
          go_meet
          case rel => exact ⟨_, (false), (a1), (wrap64 ((l4.length : Int) - 3)), (a2), (a3), (by first | rfl | (simp; done) | (simp [*]; done)), H', ⟨by first | omega | exact Nat.le_refl _⟩, ⟨by (with_reducible repeat (first | refine blk_drewN ?_ _ | refine blk_drew ?_ | refine blk_alloc ?_ _)); exact BK128.out⟩, ⟨by repeat (first | (with_reducible first | exact HB.out | apply below_alloc | apply pw_below_drewN | apply below_drew1 | refine below_set ?_ GE128.out) | exact HB.out)⟩⟩
      · rw [if_neg c11] at H
        exact absurd H (by simp)
    case rest =>
      clear HC8
      try clear c1
      try clear p1
      try clear q1
      try clear hx1
      try clear qi1
      try clear p2
      try clear c3
      try clear p6
      try clear c11
      try clear p12
      try clear q12
      try clear hx12
      try clear qi12
      try clear p13
      try clear q13
      try clear hx13
      try clear c15
      try clear c17
      try clear c18
      try clear c19
      try clear c19b0
      try clear c19b1
      try clear hx129_0
      try clear hx133_0
      try clear p129
      try clear p133
      try clear q129
      try clear q133
      obtain ⟨kq, x15_7, x129001_7, x129002_7, x129003_7, x129004_7, rfl, HA, HJ7, BK128, HB⟩ := hcut
      cases kq with
      | zero => exact absurd HA.out (by simp [spec_CheckReach.j0])
      | succ kj7 =>
        have H := HA.out
        clear HA
        simp only [spec_CheckReach.j0] at H
        have H' := Aside0.mk H
        clear H
        go_wp2
        go_loopg [15, 16] kj7 (fun kq v15 v16 w' => ∃ (x15_2 : Bool) (x16_2 : Int) (x129001_2 : Int) (x129002_2 : Int) (x129003_2 : Int) (x129004_2 : Int), v15 = .bool x15_2 ∧ v16 = .int .i64 x16_2 ∧ Aside0 (spec_CheckReach.l0 kq l4 (wrap64 ((l4.length : Int) - 3)) x15_2 x16_2 l0 x129001_2 x129002_2 x129003_2 x129004_2 = some (r1, r2)) ∧ Aside0 (kq ≤ kj7) ∧ Aside0 (w'.heap[gb128]? = some (.cells #[(.slice A0 l0.length c0), .int .i64 x129001_2, .int .i64 x129002_2, .int .i64 x129003_2, .int .i64 x129004_2] 67 (0, 0))) ∧ Aside0 (Below w.heap.size w w'))
        case atStart => exact ⟨(x15_7), (1), (x129001_7), (x129002_7), (x129003_7), (x129004_7), (by first | rfl | (simp; done) | (simp [*]; done)), (by first | rfl | (simp; done) | (simp [*]; done)), H', ⟨Nat.le_refl _⟩, ⟨by (with_reducible repeat (first | refine blk_drewN ?_ _ | refine blk_drew ?_ | refine blk_alloc ?_ _)); exact BK128.out⟩, ⟨by repeat (first | (with_reducible first | exact HB.out | apply below_alloc | apply pw_below_drewN | apply below_drew1 | refine below_set ?_ GE128.out) | exact HB.out)⟩⟩
        case round =>
          clear H'
          try clear c1
          try clear p1
          try clear q1
          try clear hx1
          try clear qi1
          try clear p2
          try clear c3
          try clear p6
          try clear c11
          try clear p12
          try clear q12
          try clear hx12
          try clear qi12
          try clear p13
          try clear q13
          try clear hx13
          try clear c15
          try clear c17
          try clear c18
          try clear c19
          try clear c19b0
          try clear c19b1
          try clear hx129_0
          try clear hx133_0
          try clear p1
          try clear p12
          try clear p129
          try clear p13
          try clear p133
          try clear p2
          try clear p6
          try clear q1
          try clear q12
          try clear q129
          try clear q13
          try clear q133
          obtain ⟨x15_2, x16_2, x129001_2, x129002_2, x129003_2, x129004_2, rfl, rfl, HA, HK2, BK128, HB⟩ := hrel
          cases gk with
          | zero => exact absurd HA.out (by simp [spec_CheckReach.l0])
          | succ k2 =>
            have H := HA.out
            clear HA
            simp only [spec_CheckReach.l0] at H
            have HC26 := Aside0.mk H
            clear H
            go_upto_region 8 with (fail)
            go_cut [65] (fun v65 wc => ∃ (kq : Nat) (x65_25 : Bool), v65 = .bool x65_25 ∧ Aside0 (spec_CheckReach.j2 kq l4 (wrap64 ((l4.length : Int) - 3)) x15_2 x16_2 x65_25 l0 x129001_2 x129002_2 x129003_2 x129004_2 = some (r1, r2)) ∧ Aside0 (kq ≤ k2) ∧ Aside0 (wc.heap[gb128]? = some (.cells #[(.slice A0 l0.length c0), .int .i64 x129001_2, .int .i64 x129002_2, .int .i64 x129003_2, .int .i64 x129004_2] 67 (0, 0))) ∧ Aside0 (Below w.heap.size w wc))
            case first =>
              have H := HC26.out
              clear HC26
              by_cases c27 : x16_2 ≤ (wrap64 ((wrap64 ((l4.length : Int) - 3)) + 2))
              · rw [if_pos c27] at H
                have c27b0 : decide (x16_2 ≤ (wrap64 ((wrap64 ((l4.length : Int) - 3)) + 2))) = true := decide_eq_true c27
                clear c27
                (first | rw [c27b0] | (simp only [i64_w, i32_w]; rw [c27b0]) | skip)
                have H' := Aside0.mk H
                clear H
                go_wp2
                go_meet
                case rel => exact ⟨_, (x15_2), (by first | rfl | (simp; done) | (simp [*]; done)), H', ⟨by have := HJ7.out; have := HK2.out; first | omega | exact Nat.le_refl _⟩, ⟨by (with_reducible repeat (first | refine blk_drewN ?_ _ | refine blk_drew ?_ | refine blk_alloc ?_ _)); exact BK128.out⟩, ⟨by repeat (first | (with_reducible first | exact HB.out | apply below_alloc | apply pw_below_drewN | apply below_drew1 | refine below_set ?_ GE128.out) | exact HB.out)⟩⟩
              · rw [if_neg c27] at H
                have c27b0 : decide (x16_2 ≤ (wrap64 ((wrap64 ((l4.length : Int) - 3)) + 2))) = false := decide_eq_false c27
                clear c27
                (first | rw [c27b0] | (simp only [i64_w, i32_w]; rw [c27b0]) | skip)
                have H' := Aside0.mk H
                clear H
                go_wp2
                go_meet
                case rel => exact ⟨_, (false), (by first | rfl | (simp; done) | (simp [*]; done)), H', ⟨by have := HJ7.out; have := HK2.out; first | omega | exact Nat.le_refl _⟩, ⟨by (with_reducible repeat (first | refine blk_drewN ?_ _ | refine blk_drew ?_ | refine blk_alloc ?_ _)); exact BK128.out⟩, ⟨by repeat (first | (with_reducible first | exact HB.out | apply below_alloc | apply pw_below_drewN | apply below_drew1 | refine below_set ?_ GE128.out) | exact HB.out)⟩⟩
            case rest =>
              clear HC26
              try clear c1
              try clear p1
              try clear q1
              try clear hx1
              try clear qi1
              try clear c2
              try clear p2
              try clear c3
              try clear p6
              try clear c11
              try clear p12
              try clear q12
              try clear hx12
              try clear qi12
              try clear p13
              try clear q13
              try clear hx13
              try clear c15
              try clear c17
              try clear c18
              try clear c19
              try clear c19b0
              try clear c19b1
              try clear c27
              try clear c27b0
              try clear hx129_0
              try clear hx133_0
              try clear p1
              try clear p12
              try clear p129
              try clear p13
              try clear p133
              try clear p2
              try clear p6
              try clear q1
              try clear q12
              try clear q129
              try clear q13
              try clear q133
              obtain ⟨kq, x65_25, rfl, HA, HJ25, BK128, HB⟩ := hcut
              cases kq with
              | zero => exact absurd HA.out (by simp [spec_CheckReach.j2])
              | succ kj25 =>
                have H := HA.out
                clear HA
                simp only [spec_CheckReach.j2] at H
                by_cases c28 : x65_25 = true
                · subst c28
                  have H1 : (spec_CheckReach.l1 kj25 l4 (wrap64 ((l4.length : Int) - 3)) x15_2 x16_2 0 l0 x129001_2 x129002_2 x129003_2 x129004_2) = some (r1, r2) := by rw [if_pos rfl] at H; exact H
                  clear H
                  have H := H1
                  clear H1
                  have H' := Aside0.mk H
                  clear H
                  go_wp2
                  go_loopg [15, 17] kj25 (fun kq v15 v17 w' => ∃ (x15_4 : Bool) (x17_4 : Int) (x129001_4 : Int) (x129002_4 : Int) (x129003_4 : Int) (x129004_4 : Int), v15 = .bool x15_4 ∧ v17 = .int .i64 x17_4 ∧ Aside0 (spec_CheckReach.l1 kq l4 (wrap64 ((l4.length : Int) - 3)) x15_4 x16_2 x17_4 l0 x129001_4 x129002_4 x129003_4 x129004_4 = some (r1, r2)) ∧ Aside0 (kq ≤ kj25) ∧ Aside0 (w'.heap[gb128]? = some (.cells #[(.slice A0 l0.length c0), .int .i64 x129001_4, .int .i64 x129002_4, .int .i64 x129003_4, .int .i64 x129004_4] 67 (0, 0))) ∧ Aside0 (Below w.heap.size w w'))
                  case atStart => exact ⟨(x15_2), (0), (x129001_2), (x129002_2), (x129003_2), (x129004_2), (by first | rfl | (simp; done) | (simp [*]; done)), (by first | rfl | (simp; done) | (simp [*]; done)), H', ⟨Nat.le_refl _⟩, ⟨by (with_reducible repeat (first | refine blk_drewN ?_ _ | refine blk_drew ?_ | refine blk_alloc ?_ _)); exact BK128.out⟩, ⟨by repeat (first | (with_reducible first | exact HB.out | apply below_alloc | apply pw_below_drewN | apply below_drew1 | refine below_set ?_ GE128.out) | exact HB.out)⟩⟩
                  case round =>
                    clear H'
                    try clear c1
                    try clear p1
                    try clear q1
                    try clear hx1
                    try clear qi1
                    try clear c2
                    try clear p2
                    try clear c3
                    try clear p6
                    try clear c11
                    try clear p12
                    try clear q12
                    try clear hx12
                    try clear qi12
                    try clear p13
                    try clear q13
                    try clear hx13
                    try clear c15
                    try clear c17
                    try clear c18
                    try clear c19
                    try clear c19b0
                    try clear c19b1
                    try clear c27
                    try clear c27b0
                    try clear c28
                    try clear hx129_0
                    try clear hx133_0
                    try clear p1
                    try clear p12
                    try clear p129
                    try clear p13
                    try clear p133
                    try clear p2
                    try clear p6
                    try clear q1
                    try clear q12
                    try clear q129
                    try clear q13
                    try clear q133
                    obtain ⟨x15_4, x17_4, x129001_4, x129002_4, x129003_4, x129004_4, rfl, rfl, HA, HK4, BK128, HB⟩ := hrel
                    cases gk with
                    | zero => exact absurd HA.out (by simp [spec_CheckReach.l1])
                    | succ k4 =>
                      have H := HA.out
                      clear HA
                      simp only [spec_CheckReach.l1] at H
                      by_cases c29 : x17_4 < 64
                      · rw [if_pos c29] at H
                        have c29b0 : decide (x17_4 < 64) = true := decide_eq_true c29
                        clear c29
                        have H' := Aside0.mk H
                        clear H
                        go_wp2
                        go_loopg [15, 18] k4 (fun kq v15 v18 w' => ∃ (x15_5 : Bool) (x18_5 : Int) (x129001_5 : Int) (x129002_5 : Int) (x129003_5 : Int) (x129004_5 : Int), v15 = .bool x15_5 ∧ v18 = .int .i64 x18_5 ∧ Aside0 (spec_CheckReach.l2 kq l4 (wrap64 ((l4.length : Int) - 3)) x15_5 x16_2 x17_4 x18_5 l0 x129001_5 x129002_5 x129003_5 x129004_5 = some (r1, r2)) ∧ Aside0 (kq ≤ k4) ∧ Aside0 (w'.heap[gb128]? = some (.cells #[(.slice A0 l0.length c0), .int .i64 x129001_5, .int .i64 x129002_5, .int .i64 x129003_5, .int .i64 x129004_5] 67 (0, 0))) ∧ Aside0 (Below w.heap.size w w'))
                        case atStart => exact ⟨(x15_4), (0), (x129001_4), (x129002_4), (x129003_4), (x129004_4), (by first | rfl | (simp; done) | (simp [*]; done)), (by first | rfl | (simp; done) | (simp [*]; done)), H', ⟨Nat.le_refl _⟩, ⟨by (with_reducible repeat (first | refine blk_drewN ?_ _ | refine blk_drew ?_ | refine blk_alloc ?_ _)); exact BK128.out⟩, ⟨by repeat (first | (with_reducible first | exact HB.out | apply below_alloc | apply pw_below_drewN | apply below_drew1 | refine below_set ?_ GE128.out) | exact HB.out)⟩⟩
                        case round =>
                          clear H'
                          try clear c1
                          try clear p1
                          try clear q1
                          try clear hx1
                          try clear qi1
                          try clear c2
                          try clear p2
                          try clear c3
                          try clear p6
                          try clear c11
                          try clear p12
                          try clear q12
                          try clear hx12
                          try clear qi12
                          try clear p13
                          try clear q13
                          try clear hx13
                          try clear c15
                          try clear c17
                          try clear c18
                          try clear c19
                          try clear c19b0
                          try clear c19b1
                          try clear c27
                          try clear c27b0
                          try clear c28
                          try clear c29
                          try clear c29b0
                          try clear hx129_0
                          try clear hx133_0
                          try clear p1
                          try clear p12
                          try clear p129
                          try clear p13
                          try clear p133
                          try clear p2
                          try clear p6
                          try clear q1
                          try clear q12
                          try clear q129
                          try clear q13
                          try clear q133
                          obtain ⟨x15_5, x18_5, x129001_5, x129002_5, x129003_5, x129004_5, rfl, rfl, HA, HK5, BK128, HB⟩ := hrel
                          cases gk with
                          | zero => exact absurd HA.out (by simp [spec_CheckReach.l2])
                          | succ k5 =>
                            have H := HA.out
                            clear HA
                            simp only [spec_CheckReach.l2] at H
                            by_cases c30 : x18_5 < 64
                            · rw [if_pos c30] at H
                              have c30b0 : decide (x18_5 < 64) = true := decide_eq_true c30
                              clear c30
                              obtain ⟨ji31, hji31⟩ : ∃ j_ : Int, (wrap64 (x16_2 - 1)) = j_ := ⟨_, rfl⟩
                              replace H : (if 0 ≤ (ji31) then (if (ji31) < (l4.length : Int) then ((plate_get.f ((rd_T69 l4 (ji31)).f0) x17_4).bind fun t135 => (if 0 ≤ (IntKind.u64.wrap (x18_5)) then (if (Go.bits .and .u64 (shr .u64 t135 (IntKind.u64.wrap (x18_5))) 1) = 1 then (if x15_5 = true then ((spec_l05Stretch_may.f l0 x129001_5 x129002_5 x129003_5 x129004_5 x17_4 x18_5 x16_2).bind fun t136 => (if 0 ≤ x16_2 then (if x16_2 < (l4.length : Int) then ((plate_get.f ((rd_T69 l4 x16_2).f0) x18_5).bind fun t138 => (spec_CheckReach.l2 k5 l4 (wrap64 ((l4.length : Int) - 3)) ((Go.bits .andNot .u64 t136 t138) == 0) x16_2 x17_4 (wrap64 (x18_5 + 1)) l0 x129001_5 x129002_5 x129003_5 x129004_5)) else (none)) else (none))) else (spec_CheckReach.l2 k5 l4 (wrap64 ((l4.length : Int) - 3)) false x16_2 x17_4 (wrap64 (x18_5 + 1)) l0 x129001_5 x129002_5 x129003_5 x129004_5)) else (spec_CheckReach.l2 k5 l4 (wrap64 ((l4.length : Int) - 3)) x15_5 x16_2 x17_4 (wrap64 (x18_5 + 1)) l0 x129001_5 x129002_5 x129003_5 x129004_5)) else (none))) else (none)) else (none)) = some (r1, r2) := by first | (rw [hji31] at H; exact H) | (simp only [hji31] at H ⊢; exact H)
                              have hji31w : (IntKind.i64.wrap (x16_2 - 1)) = ji31 := (i64_w _).trans hji31
                              by_cases c32 : 0 ≤ (ji31)
                              · rw [if_pos c32] at H
                                have c32b0 : decide (0 ≤ (ji31)) = true := decide_eq_true c32
                                clear c32
                                by_cases c33 : (ji31) < (l4.length : Int)
                                · rw [if_pos c33] at H
                                  have c33b0 : decide ((ji31) < (l4.length : Int)) = true := decide_eq_true c33
                                  clear c33
                                  replace H := Option.bind_eq_some_iff.mp H
                                  obtain ⟨t135, A340, H⟩ := H
                                  replace H : (if 0 ≤ (IntKind.u64.wrap (x18_5)) then (if (Go.bits .and .u64 (shr .u64 t135 (IntKind.u64.wrap (x18_5))) 1) = 1 then (if x15_5 = true then ((spec_l05Stretch_may.f l0 x129001_5 x129002_5 x129003_5 x129004_5 x17_4 x18_5 x16_2).bind fun t136 => (if 0 ≤ x16_2 then (if x16_2 < (l4.length : Int) then ((plate_get.f ((rd_T69 l4 x16_2).f0) x18_5).bind fun t138 => (spec_CheckReach.l2 k5 l4 (wrap64 ((l4.length : Int) - 3)) ((Go.bits .andNot .u64 t136 t138) == 0) x16_2 x17_4 (wrap64 (x18_5 + 1)) l0 x129001_5 x129002_5 x129003_5 x129004_5)) else (none)) else (none))) else (spec_CheckReach.l2 k5 l4 (wrap64 ((l4.length : Int) - 3)) false x16_2 x17_4 (wrap64 (x18_5 + 1)) l0 x129001_5 x129002_5 x129003_5 x129004_5)) else (spec_CheckReach.l2 k5 l4 (wrap64 ((l4.length : Int) - 3)) x15_5 x16_2 x17_4 (wrap64 (x18_5 + 1)) l0 x129001_5 x129002_5 x129003_5 x129004_5)) else (none)) = some (r1, r2) := H
                                  have A34 := Aside0.mk A340
                                  clear A340
                                  obtain ⟨ji35, hji35⟩ : ∃ j_ : Int, (IntKind.u64.wrap (x18_5)) = j_ := ⟨_, rfl⟩
                                  replace H : (if 0 ≤ (ji35) then (if (Go.bits .and .u64 (shr .u64 t135 (ji35)) 1) = 1 then (if x15_5 = true then ((spec_l05Stretch_may.f l0 x129001_5 x129002_5 x129003_5 x129004_5 x17_4 x18_5 x16_2).bind fun t136 => (if 0 ≤ x16_2 then (if x16_2 < (l4.length : Int) then ((plate_get.f ((rd_T69 l4 x16_2).f0) x18_5).bind fun t138 => (spec_CheckReach.l2 k5 l4 (wrap64 ((l4.length : Int) - 3)) ((Go.bits .andNot .u64 t136 t138) == 0) x16_2 x17_4 (wrap64 (x18_5 + 1)) l0 x129001_5 x129002_5 x129003_5 x129004_5)) else (none)) else (none))) else (spec_CheckReach.l2 k5 l4 (wrap64 ((l4.length : Int) - 3)) false x16_2 x17_4 (wrap64 (x18_5 + 1)) l0 x129001_5 x129002_5 x129003_5 x129004_5)) else (spec_CheckReach.l2 k5 l4 (wrap64 ((l4.length : Int) - 3)) x15_5 x16_2 x17_4 (wrap64 (x18_5 + 1)) l0 x129001_5 x129002_5 x129003_5 x129004_5)) else (none)) = some (r1, r2) := by first | (rw [hji35] at H; exact H) | (simp only [hji35] at H ⊢; exact H)
                                  (try rw [hji35] at A34)
                                  by_cases c36 : 0 ≤ (ji35)
                                  · rw [if_pos c36] at H
                                    have c36b0 := eq_true c36
                                    have c36b1 : decide (0 ≤ (ji35)) = true := decide_eq_true c36
                                    clear c36
                                    obtain ⟨ji37, hji37⟩ : ∃ j_ : Int, (shr .u64 t135 (ji35)) = j_ := ⟨_, rfl⟩
                                    replace H : (if (Go.bits .and .u64 (ji37) 1) = 1 then (if x15_5 = true then ((spec_l05Stretch_may.f l0 x129001_5 x129002_5 x129003_5 x129004_5 x17_4 x18_5 x16_2).bind fun t136 => (if 0 ≤ x16_2 then (if x16_2 < (l4.length : Int) then ((plate_get.f ((rd_T69 l4 x16_2).f0) x18_5).bind fun t138 => (spec_CheckReach.l2 k5 l4 (wrap64 ((l4.length : Int) - 3)) ((Go.bits .andNot .u64 t136 t138) == 0) x16_2 x17_4 (wrap64 (x18_5 + 1)) l0 x129001_5 x129002_5 x129003_5 x129004_5)) else (none)) else (none))) else (spec_CheckReach.l2 k5 l4 (wrap64 ((l4.length : Int) - 3)) false x16_2 x17_4 (wrap64 (x18_5 + 1)) l0 x129001_5 x129002_5 x129003_5 x129004_5)) else (spec_CheckReach.l2 k5 l4 (wrap64 ((l4.length : Int) - 3)) x15_5 x16_2 x17_4 (wrap64 (x18_5 + 1)) l0 x129001_5 x129002_5 x129003_5 x129004_5)) = some (r1, r2) := by first | (rw [hji37] at H; exact H) | (simp only [hji37] at H ⊢; exact H)
                                    (try rw [hji37] at A34)
                                    have hji37_ : (t135 / 2 ^ min (ji35).toNat 64) = ji37 := hji37
                                    have hji37z : (ji35) ≤ 64 → (t135 / 2 ^ (ji35).toNat) = ji37 := shr_small hji37
                                    by_cases c38 : (Go.bits .and .u64 (ji37) 1) = 1
                                    · rw [if_pos c38] at H
                                      have c38b0 : ((Go.bits .and .u64 (ji37) 1) == 1) = true := beq_iff_eq.mpr c38
                                      have c38b1 : ((Go.bits .and .u64 (ji37) 1) != 1) = false := bne_eq_false_iff_eq.mpr c38
                                      clear c38
                                      by_cases c39 : x15_5 = true
                                      · subst c39
                                        have H1 : ((spec_l05Stretch_may.f l0 x129001_5 x129002_5 x129003_5 x129004_5 x17_4 x18_5 x16_2).bind fun t136 => (if 0 ≤ x16_2 then (if x16_2 < (l4.length : Int) then ((plate_get.f ((rd_T69 l4 x16_2).f0) x18_5).bind fun t138 => (spec_CheckReach.l2 k5 l4 (wrap64 ((l4.length : Int) - 3)) ((Go.bits .andNot .u64 t136 t138) == 0) x16_2 x17_4 (wrap64 (x18_5 + 1)) l0 x129001_5 x129002_5 x129003_5 x129004_5)) else (none)) else (none))) = some (r1, r2) := by rw [if_pos rfl] at H; exact H
                                        clear H
                                        have H := H1
                                        clear H1
                                        replace H := Option.bind_eq_some_iff.mp H
                                        obtain ⟨t136, A400, H⟩ := H
                                        replace H : (if 0 ≤ x16_2 then (if x16_2 < (l4.length : Int) then ((plate_get.f ((rd_T69 l4 x16_2).f0) x18_5).bind fun t138 => (spec_CheckReach.l2 k5 l4 (wrap64 ((l4.length : Int) - 3)) ((Go.bits .andNot .u64 t136 t138) == 0) x16_2 x17_4 (wrap64 (x18_5 + 1)) l0 x129001_5 x129002_5 x129003_5 x129004_5)) else (none)) else (none)) = some (r1, r2) := H
                                        have A40 := Aside0.mk A400
                                        clear A400
                                        by_cases c41 : 0 ≤ x16_2
                                        · rw [if_pos c41] at H
                                          have c41b0 : decide (0 ≤ x16_2) = true := decide_eq_true c41
                                          clear c41
                                          by_cases c42 : x16_2 < (l4.length : Int)
                                          · rw [if_pos c42] at H
                                            have c42b0 : decide (x16_2 < (l4.length : Int)) = true := decide_eq_true c42
                                            clear c42
                                            replace H := Option.bind_eq_some_iff.mp H
                                            obtain ⟨t138, A430, H⟩ := H
                                            replace H : (spec_CheckReach.l2 k5 l4 (wrap64 ((l4.length : Int) - 3)) ((Go.bits .andNot .u64 t136 t138) == 0) x16_2 x17_4 (wrap64 (x18_5 + 1)) l0 x129001_5 x129002_5 x129003_5 x129004_5) = some (r1, r2) := H
                                            have A43 := Aside0.mk A430
                                            clear A430
                                            have H' := Aside0.mk H
                                            clear H
                                            have p134 : 0 ≤ ((ji31) : Int) := of_decide_eq_true (by first | (with_reducible assumption) | assumption)
                                            have q134 : (ji31) < (l4.length : Int) := of_decide_eq_true (by first | (with_reducible assumption) | assumption)
                                            obtain ⟨ad134, e134, hx134_0⟩ := at_T69 HR4.out (ji31) p134 q134
                                            cases e134
                                            replace hx134_0 := plAt.below (w := w) HB.out hx134_0 hx134_0.lt
                                            replace p134 := eq_true p134
                                            replace q134 := eq_true q134
                                            obtain ⟨pg0_, pg1_, pge_⟩ := plate_get_eq A34.out
                                            have hpg_ := plAt.celladd hx134_0 x17_4 pg0_ pg1_
                                            rw [pge_] at hpg_
                                            replace pg0_ := eq_true pg0_
                                            replace pg1_ := eq_true pg1_
                                            try go_wp2
                                            clear hpg_ pg0_ pg1_ pge_
                                            have n0_ := Aside0.mk (blk_drew BK128.out)
                                            have n1_ := Aside0.mk (below_drew1 HB.out)
                                            clear BK128
                                            clear HB
                                            have BK128 := n0_
                                            have HB := n1_
                                            clear n0_ n1_
                                            have p137 : 0 ≤ (x16_2 : Int) := of_decide_eq_true (by first | (with_reducible assumption) | assumption)
                                            have q137 : x16_2 < (l4.length : Int) := of_decide_eq_true (by first | (with_reducible assumption) | assumption)
                                            obtain ⟨ad137, e137, hx137_0⟩ := at_T69 HR4.out x16_2 p137 q137
                                            have hw137_0 := hx137_0
                                            obtain rfl : ad134 = ad137 := (by injection e137)
                                            replace hx137_0 := plAt.below (w := w) HB.out hx137_0 hx137_0.lt
                                            replace p137 := eq_true p137
                                            replace q137 := eq_true q137
                                            obtain ⟨pg0_, pg1_, pge_⟩ := plate_get_eq A43.out
                                            have PG0 := Aside0.mk pg0_
                                            have PG1 := Aside0.mk pg1_
                                            replace pg0_ := eq_true pg0_
                                            replace pg1_ := eq_true pg1_
                                            refine start_ (n := 17) (S := fun w' => plAt w' (ad134.add ((x16_2).toNat * 64)) ((rd_T69 l4 x16_2).f0)) (ds := []) #[false, false, false, false, false, false, false, false, false, false, false, false, false, false, false, false, false] (by kernel_rfl) rfl rfl ((by first | exact (plAt.below (w := w) HB.out hw137_0 hw137_0.lt) | exact (plAt.below (w := w) HB.out hv137_0 hv137_0.lt) | exact hx137_0)) (fun hHeld => ?_); refine with_tabW spec_CheckReach.tab17 spec_CheckReach.bits17 (fun HT_ HW_ => ?_)
                                            generalize wr.drew = w45 at BK128 HB hx137_0 hHeld ⊢
                                            refine pure_ (i := 0) (N := some 88) (v := ?_) (a' := ?_) #[true, false, false, false, false, false, false, false, false, false, false, false, false, false, false, false, false] rfl rfl (any_of HT_.out (by kernel_rfl)) (fun _ _ _ h => h) (Or.inl ⟨by rfl, ?_⟩) ?_ ?_
                                            rotate_left
                                            · intro w'
                                              first | (refine pl_zeroRun ?_ pbuilt69; rfl) | (refine pl_neqRunX ?_ Try.underlying69 Try.underlying24 (by kernel_rfl) pgd69 PZn; exact ⟨_, _, _, rfl, rfl, rfl⟩) | (refine pl_eqlRunX ?_ Try.underlying69 Try.underlying24 (by kernel_rfl) pgd69 PZe; exact ⟨_, _, _, rfl, rfl, rfl⟩) | (go_simp; with_reducible rfl)
                                            rotate_left
                                            · simp only [Act.put, List.setIfInBounds_toArray, List.set_cons_zero, List.set_cons_succ, i64_w, i32_w]
                                              rfl
                                            refine pure_ (i := 1) (N := some 89) (v := ?_) (a' := ?_) #[true, true, false, false, false, false, false, false, false, false, false, false, false, false, false, false, false] rfl rfl (any_of HT_.out (by kernel_rfl)) (fun _ _ _ h => h) (Or.inl ⟨by rfl, ?_⟩) ?_ ?_
                                            rotate_left
                                            · intro w'
                                              first | (refine pl_zeroRun ?_ pbuilt69; rfl) | (refine pl_neqRunX ?_ Try.underlying69 Try.underlying24 (by kernel_rfl) pgd69 PZn; exact ⟨_, _, _, rfl, rfl, rfl⟩) | (refine pl_eqlRunX ?_ Try.underlying69 Try.underlying24 (by kernel_rfl) pgd69 PZe; exact ⟨_, _, _, rfl, rfl, rfl⟩) | (go_simp; with_reducible rfl)
                                            rotate_left
                                            · simp only [Act.put, List.setIfInBounds_toArray, List.set_cons_zero, List.set_cons_succ, i64_w, i32_w]
                                              rfl
                                            refine pure_ (i := 2) (N := some 90) (v := ?_) (a' := ?_) #[true, true, true, false, false, false, false, false, false, false, false, false, false, false, false, false, false] rfl rfl (any_of HT_.out (by kernel_rfl)) (fun _ _ _ h => h) (Or.inl ⟨by rfl, ?_⟩) ?_ ?_
                                            rotate_left
                                            · intro w'
                                              first | (refine pl_zeroRun ?_ pbuilt69; rfl) | (refine pl_neqRunX ?_ Try.underlying69 Try.underlying24 (by kernel_rfl) pgd69 PZn; exact ⟨_, _, _, rfl, rfl, rfl⟩) | (refine pl_eqlRunX ?_ Try.underlying69 Try.underlying24 (by kernel_rfl) pgd69 PZe; exact ⟨_, _, _, rfl, rfl, rfl⟩) | (go_simp; with_reducible rfl)
                                            rotate_left
                                            · simp only [Act.put, List.setIfInBounds_toArray, List.set_cons_zero, List.set_cons_succ, i64_w, i32_w]
                                              rfl
                                            refine pure_ (i := 3) (N := some 91) (v := ?_) (a' := ?_) #[true, true, true, true, false, false, false, false, false, false, false, false, false, false, false, false, false] rfl rfl (any_of HT_.out (by kernel_rfl)) (fun _ _ _ h => h) (Or.inl ⟨by rfl, ?_⟩) ?_ ?_
                                            rotate_left
                                            · intro w'
                                              first | (refine pl_zeroRun ?_ pbuilt69; rfl) | (refine pl_neqRunX ?_ Try.underlying69 Try.underlying24 (by kernel_rfl) pgd69 PZn; exact ⟨_, _, _, rfl, rfl, rfl⟩) | (refine pl_eqlRunX ?_ Try.underlying69 Try.underlying24 (by kernel_rfl) pgd69 PZe; exact ⟨_, _, _, rfl, rfl, rfl⟩) | (go_simp; with_reducible rfl)
                                            rotate_left
                                            · simp only [Act.put, List.setIfInBounds_toArray, List.set_cons_zero, List.set_cons_succ, i64_w, i32_w]
                                              rfl
                                            refine pure_ (i := 4) (N := some 92) (v := ?_) (a' := ?_) #[true, true, true, true, true, false, false, false, false, false, false, false, false, false, false, false, false] rfl rfl (any_of HT_.out (by kernel_rfl)) (fun _ _ _ h => h) (Or.inl ⟨by rfl, ?_⟩) ?_ ?_
                                            rotate_left
                                            · intro w'
                                              first | (refine pl_zeroRun ?_ pbuilt69; rfl) | (refine pl_neqRunX ?_ Try.underlying69 Try.underlying24 (by kernel_rfl) pgd69 PZn; exact ⟨_, _, _, rfl, rfl, rfl⟩) | (refine pl_eqlRunX ?_ Try.underlying69 Try.underlying24 (by kernel_rfl) pgd69 PZe; exact ⟨_, _, _, rfl, rfl, rfl⟩) | (go_simp; with_reducible rfl)
                                            rotate_left
                                            · simp only [Act.put, List.setIfInBounds_toArray, List.set_cons_zero, List.set_cons_succ, i64_w, i32_w]
                                              rfl
                                            refine pure_ (i := 5) (N := some 93) (v := ?_) (a' := ?_) #[true, true, true, true, true, true, false, false, false, false, false, false, false, false, false, false, false] rfl rfl (any_of HT_.out (by kernel_rfl)) (fun _ _ _ h => h) (Or.inl ⟨by rfl, ?_⟩) ?_ ?_
                                            rotate_left
                                            · intro w'
                                              first | (refine pl_zeroRun ?_ pbuilt69; rfl) | (refine pl_neqRunX ?_ Try.underlying69 Try.underlying24 (by kernel_rfl) pgd69 PZn; exact ⟨_, _, _, rfl, rfl, rfl⟩) | (refine pl_eqlRunX ?_ Try.underlying69 Try.underlying24 (by kernel_rfl) pgd69 PZe; exact ⟨_, _, _, rfl, rfl, rfl⟩) | (go_simp; with_reducible rfl)
                                            rotate_left
                                            · simp only [Act.put, List.setIfInBounds_toArray, List.set_cons_zero, List.set_cons_succ, i64_w, i32_w]
                                              rfl
                                            refine pure_ (i := 7) (N := some 95) (v := ?_) (a' := ?_) #[true, true, true, true, true, true, false, true, false, false, false, false, false, false, false, false, false] rfl rfl (any_of HT_.out (by kernel_rfl)) (fun _ _ _ h => h) (Or.inl ⟨by rfl, ?_⟩) ?_ ?_
                                            rotate_left
                                            · intro w'
                                              first | (refine pl_zeroRun ?_ pbuilt69; rfl) | (refine pl_neqRunX ?_ Try.underlying69 Try.underlying24 (by kernel_rfl) pgd69 PZn; exact ⟨_, _, _, rfl, rfl, rfl⟩) | (refine pl_eqlRunX ?_ Try.underlying69 Try.underlying24 (by kernel_rfl) pgd69 PZe; exact ⟨_, _, _, rfl, rfl, rfl⟩) | (go_simp; with_reducible rfl)
                                            rotate_left
                                            · simp only [Act.put, List.setIfInBounds_toArray, List.set_cons_zero, List.set_cons_succ, i64_w, i32_w]
                                              rfl
                                            refine pure_ (i := 8) (N := some 96) (v := ?_) (a' := ?_) #[true, true, true, true, true, true, false, true, true, false, false, false, false, false, false, false, false] rfl rfl (any_of HT_.out (by kernel_rfl)) (fun _ _ _ h => h) (Or.inl ⟨by rfl, ?_⟩) ?_ ?_
                                            rotate_left
                                            · intro w'
                                              first | (refine pl_zeroRun ?_ pbuilt69; rfl) | (refine pl_neqRunX ?_ Try.underlying69 Try.underlying24 (by kernel_rfl) pgd69 PZn; exact ⟨_, _, _, rfl, rfl, rfl⟩) | (refine pl_eqlRunX ?_ Try.underlying69 Try.underlying24 (by kernel_rfl) pgd69 PZe; exact ⟨_, _, _, rfl, rfl, rfl⟩) | (go_simp; with_reducible rfl)
                                            rotate_left
                                            · simp only [Act.put, List.setIfInBounds_toArray, List.set_cons_zero, List.set_cons_succ, i64_w, i32_w]
                                              rfl
                                            refine pure_ (i := 9) (N := some 97) (v := ?_) (a' := ?_) #[true, true, true, true, true, true, false, true, true, true, false, false, false, false, false, false, false] rfl rfl (any_of HT_.out (by kernel_rfl)) (fun _ _ _ h => h) (Or.inl ⟨by rfl, ?_⟩) ?_ ?_
                                            rotate_left
                                            · intro w'
                                              first | (refine pl_zeroRun ?_ pbuilt69; rfl) | (refine pl_neqRunX ?_ Try.underlying69 Try.underlying24 (by kernel_rfl) pgd69 PZn; exact ⟨_, _, _, rfl, rfl, rfl⟩) | (refine pl_eqlRunX ?_ Try.underlying69 Try.underlying24 (by kernel_rfl) pgd69 PZe; exact ⟨_, _, _, rfl, rfl, rfl⟩) | (go_simp; with_reducible rfl)
                                            rotate_left
                                            · simp only [Act.put, List.setIfInBounds_toArray, List.set_cons_zero, List.set_cons_succ, i64_w, i32_w]
                                              rfl
                                            refine pure_ (i := 10) (N := some 98) (v := ?_) (a' := ?_) #[true, true, true, true, true, true, false, true, true, true, true, false, false, false, false, false, false] rfl rfl (any_of HT_.out (by kernel_rfl)) (fun _ _ _ h => h) (Or.inl ⟨by rfl, ?_⟩) ?_ ?_
                                            rotate_left
                                            · intro w'
                                              first | (refine pl_zeroRun ?_ pbuilt69; rfl) | (refine pl_neqRunX ?_ Try.underlying69 Try.underlying24 (by kernel_rfl) pgd69 PZn; exact ⟨_, _, _, rfl, rfl, rfl⟩) | (refine pl_eqlRunX ?_ Try.underlying69 Try.underlying24 (by kernel_rfl) pgd69 PZe; exact ⟨_, _, _, rfl, rfl, rfl⟩) | (go_simp; with_reducible rfl)
                                            rotate_left
                                            · simp only [Act.put, List.setIfInBounds_toArray, List.set_cons_zero, List.set_cons_succ, i64_w, i32_w]
                                              rfl
                                            refine pure_ (i := 11) (N := some 99) (v := ?_) (a' := ?_) #[true, true, true, true, true, true, false, true, true, true, true, true, false, false, false, false, false] rfl rfl (any_of HT_.out (by kernel_rfl)) (fun _ _ _ h => h) (Or.inl ⟨by rfl, ?_⟩) ?_ ?_
                                            rotate_left
                                            · intro w'
                                              first | (refine pl_zeroRun ?_ pbuilt69; rfl) | (refine pl_neqRunX ?_ Try.underlying69 Try.underlying24 (by kernel_rfl) pgd69 PZn; exact ⟨_, _, _, rfl, rfl, rfl⟩) | (refine pl_eqlRunX ?_ Try.underlying69 Try.underlying24 (by kernel_rfl) pgd69 PZe; exact ⟨_, _, _, rfl, rfl, rfl⟩) | (go_simp; with_reducible rfl)
                                            rotate_left
                                            · simp only [Act.put, List.setIfInBounds_toArray, List.set_cons_zero, List.set_cons_succ, i64_w, i32_w]
                                              rfl
                                            refine take_ (i := 12) (N := some 100) (v := ?_) (a' := ?_) #[true, true, true, true, true, true, false, true, true, true, true, true, true, false, false, false, false] rfl rfl (take_ofW HT_.out HW_.out (by kernel_rfl)) (fun _ _ _ h => h) (Or.inl ⟨by rfl, ?_⟩) hHeld ?_ ?_
                                            rotate_left
                                            · intro w' s0
                                              have hpg_ := plAt.celladd s0 x18_5 PG0.out PG1.out
                                              rw [pge_] at hpg_
                                              go_simp
                                              with_reducible rfl
                                            rotate_left
                                            · simp only [Act.put, List.setIfInBounds_toArray, List.set_cons_zero, List.set_cons_succ, i64_w, i32_w]
                                              rfl
                                            refine one_ (i := 6) (N := some 94) #[true, true, true, true, true, true, true, true, true, true, true, true, true, false, false, false, false] rfl rfl (one_of HT_.out (by kernel_rfl)) (by decide) (fun K hK => ?_)
                                            refine goes_ Try.func34 (by kernel_rfl) rfl #[.pointer (some ⟨gb128, 0, none⟩), .int .i64 x17_4, .int .i64 x18_5, .int .i64 x16_2] (by rfl) rfl rfl (by (try simp only [List.map_toArray, List.map_cons, List.map_nil]); first | done | rfl | (simp only [List.length_drop, List.length_take]; rfl)) ?_
                                            with_reducible refine (spec_l05Stretch_may.calls A0 c0 l0 x129001_5 x129002_5 x129003_5 x129004_5 x17_4 x18_5 x16_2 t136 _ ?side1 ?side2 ?side3 ?side4 ?side5 ?side6 ?side7 A40.out).mono ?_
                                            (case side1 => repeat (first | exact (Kd.C_below HR0.out HB.out) | (with_reducible refine Kd.C_alloc ?_ _) | (with_reducible refine Kd.C_drewN ?_ _) | (with_reducible refine Kd.C_drew ?_)))
                                            (case side2 => exact HC0.out)
                                            (case side3 => exact (blk_cell (g := gb128) (t := 67) (cs := #[.slice A0 l0.length c0, .int .i64 x129001_5, .int .i64 x129002_5, .int .i64 x129003_5, .int .i64 x129004_5]) (by (with_reducible repeat (first | refine blk_drewN ?_ _ | refine blk_drew ?_ | refine blk_alloc ?_ _)); exact BK128.out) 0).trans rfl)
                                            (case side4 => exact (blk_cell (g := gb128) (t := 67) (cs := #[.slice A0 l0.length c0, .int .i64 x129001_5, .int .i64 x129002_5, .int .i64 x129003_5, .int .i64 x129004_5]) (by (with_reducible repeat (first | refine blk_drewN ?_ _ | refine blk_drew ?_ | refine blk_alloc ?_ _)); exact BK128.out) 1).trans rfl)
                                            (case side5 => exact (blk_cell (g := gb128) (t := 67) (cs := #[.slice A0 l0.length c0, .int .i64 x129001_5, .int .i64 x129002_5, .int .i64 x129003_5, .int .i64 x129004_5]) (by (with_reducible repeat (first | refine blk_drewN ?_ _ | refine blk_drew ?_ | refine blk_alloc ?_ _)); exact BK128.out) 2).trans rfl)
                                            (case side6 => exact (blk_cell (g := gb128) (t := 67) (cs := #[.slice A0 l0.length c0, .int .i64 x129001_5, .int .i64 x129002_5, .int .i64 x129003_5, .int .i64 x129004_5]) (by (with_reducible repeat (first | refine blk_drewN ?_ _ | refine blk_drew ?_ | refine blk_alloc ?_ _)); exact BK128.out) 3).trans rfl)
                                            (case side7 => exact (blk_cell (g := gb128) (t := 67) (cs := #[.slice A0 l0.length c0, .int .i64 x129001_5, .int .i64 x129002_5, .int .i64 x129003_5, .int .i64 x129004_5]) (by (with_reducible repeat (first | refine blk_drewN ?_ _ | refine blk_drew ?_ | refine blk_alloc ?_ _)); exact BK128.out) 4).trans rfl)
                                            rintro e w' ⟨rfl, ⟨nd, rfl⟩⟩
                                            refine ⟨_, rfl, ?_⟩
                                            refine hK.out _ _ ((by first | exact (plAt.below (w := w) HB.out hw137_0 hw137_0.lt) | exact (plAt.below (w := w) HB.out hv137_0 hv137_0.lt) | exact hx137_0)) (fun hHeld => ?_)
                                            clear hK K
                                            refine norm_ (a' := ?_) ?_ ?_
                                            rotate_left
                                            · show Act.put _ (some 94) _ = _
                                              simp only [Act.put, List.setIfInBounds_toArray, List.set_cons_zero, List.set_cons_succ, i64_w, i32_w]
                                              rfl
                                            refine pure_ (i := 13) (N := some 101) (v := ?_) (a' := ?_) #[true, true, true, true, true, true, true, true, true, true, true, true, true, true, false, false, false] rfl rfl (any_of HT_.out (by kernel_rfl)) (fun _ _ _ h => h) (Or.inl ⟨by rfl, ?_⟩) ?_ ?_
                                            rotate_left
                                            · intro w'
                                              first | (refine pl_zeroRun ?_ pbuilt69; rfl) | (refine pl_neqRunX ?_ Try.underlying69 Try.underlying24 (by kernel_rfl) pgd69 PZn; exact ⟨_, _, _, rfl, rfl, rfl⟩) | (refine pl_eqlRunX ?_ Try.underlying69 Try.underlying24 (by kernel_rfl) pgd69 PZe; exact ⟨_, _, _, rfl, rfl, rfl⟩) | (go_simp; with_reducible rfl)
                                            rotate_left
                                            · simp only [Act.put, List.setIfInBounds_toArray, List.set_cons_zero, List.set_cons_succ, i64_w, i32_w]
                                              rfl
                                            refine pure_ (i := 14) (N := some 102) (v := ?_) (a' := ?_) #[true, true, true, true, true, true, true, true, true, true, true, true, true, true, true, false, false] rfl rfl (any_of HT_.out (by kernel_rfl)) (fun _ _ _ h => h) (Or.inl ⟨by rfl, ?_⟩) ?_ ?_
                                            rotate_left
                                            · intro w'
                                              first | (refine pl_zeroRun ?_ pbuilt69; rfl) | (refine pl_neqRunX ?_ Try.underlying69 Try.underlying24 (by kernel_rfl) pgd69 PZn; exact ⟨_, _, _, rfl, rfl, rfl⟩) | (refine pl_eqlRunX ?_ Try.underlying69 Try.underlying24 (by kernel_rfl) pgd69 PZe; exact ⟨_, _, _, rfl, rfl, rfl⟩) | (go_simp; with_reducible rfl)
                                            rotate_left
                                            · simp only [Act.put, List.setIfInBounds_toArray, List.set_cons_zero, List.set_cons_succ, i64_w, i32_w]
                                              rfl
                                            refine pure_ (i := 15) (N := some 103) (v := ?_) (a' := ?_) #[true, true, true, true, true, true, true, true, true, true, true, true, true, true, true, true, false] rfl rfl (any_of HT_.out (by kernel_rfl)) (fun _ _ _ h => h) (Or.inl ⟨by rfl, ?_⟩) ?_ ?_
                                            rotate_left
                                            · intro w'
                                              first | (refine pl_zeroRun ?_ pbuilt69; rfl) | (refine pl_neqRunX ?_ Try.underlying69 Try.underlying24 (by kernel_rfl) pgd69 PZn; exact ⟨_, _, _, rfl, rfl, rfl⟩) | (refine pl_eqlRunX ?_ Try.underlying69 Try.underlying24 (by kernel_rfl) pgd69 PZe; exact ⟨_, _, _, rfl, rfl, rfl⟩) | (go_simp; with_reducible rfl)
                                            rotate_left
                                            · simp only [Act.put, List.setIfInBounds_toArray, List.set_cons_zero, List.set_cons_succ, i64_w, i32_w]
                                              rfl
                                            refine pure_ (i := 16) (N := some 15) (v := ?_) (a' := ?_) #[true, true, true, true, true, true, true, true, true, true, true, true, true, true, true, true, true] rfl rfl (any_of HT_.out (by kernel_rfl)) (fun _ _ _ h => h) (Or.inl ⟨by rfl, ?_⟩) ?_ ?_
                                            rotate_left
                                            · intro w'
                                              first | (refine pl_zeroRun ?_ pbuilt69; rfl) | (refine pl_neqRunX ?_ Try.underlying69 Try.underlying24 (by kernel_rfl) pgd69 PZn; exact ⟨_, _, _, rfl, rfl, rfl⟩) | (refine pl_eqlRunX ?_ Try.underlying69 Try.underlying24 (by kernel_rfl) pgd69 PZe; exact ⟨_, _, _, rfl, rfl, rfl⟩) | (go_simp; with_reducible rfl)
                                            rotate_left
                                            · simp only [Act.put, List.setIfInBounds_toArray, List.set_cons_zero, List.set_cons_succ, i64_w, i32_w]
                                              rfl
                                            refine done_ (done_of HT_.out (by kernel_rfl)) ?_
                                            try go_wp2
                                            go_roundg k5
                                            case measure => have := HJ7.out; have := HK2.out; have := HJ25.out; have := HK4.out; have := HK5.out; omega
                                            case rel => exact ⟨(((Go.bits .andNot .u64 t136 t138) == 0)), (wrap64 (x18_5 + 1)), (x129001_5), (x129002_5), (x129003_5), (x129004_5), (by first | rfl | (simp; done) | (simp [*]; done)), (by first | rfl | (simp; done) | (simp [*]; done)), H', ⟨by have := HJ7.out; have := HK2.out; have := HJ25.out; have := HK4.out; have := HK5.out; omega⟩, ⟨by (with_reducible repeat (first | refine blk_drewN ?_ _ | refine blk_drew ?_ | refine blk_alloc ?_ _)); exact BK128.out⟩, ⟨by repeat (first | (with_reducible first | exact HB.out | apply below_alloc | apply pw_below_drewN | apply below_drew1 | refine below_set ?_ GE128.out) | exact HB.out)⟩⟩
                                          · rw [if_neg c42] at H
                                            exact absurd H (by simp)
                                        · rw [if_neg c41] at H
                                          exact absurd H (by simp)
                                      · replace c39 := Bool.eq_false_iff.mpr c39
                                        subst c39
                                        have H1 : (spec_CheckReach.l2 k5 l4 (wrap64 ((l4.length : Int) - 3)) false x16_2 x17_4 (wrap64 (x18_5 + 1)) l0 x129001_5 x129002_5 x129003_5 x129004_5) = some (r1, r2) := by rw [if_neg (show ¬ (false = true) by decide)] at H; exact H
                                        clear H
                                        have H := H1
                                        clear H1
                                        have H' := Aside0.mk H
                                        clear H
                                        have p134 : 0 ≤ ((ji31) : Int) := of_decide_eq_true (by first | (with_reducible assumption) | assumption)
                                        have q134 : (ji31) < (l4.length : Int) := of_decide_eq_true (by first | (with_reducible assumption) | assumption)
                                        obtain ⟨ad134, e134, hx134_0⟩ := at_T69 HR4.out (ji31) p134 q134
                                        cases e134
                                        replace hx134_0 := plAt.below (w := w) HB.out hx134_0 hx134_0.lt
                                        replace p134 := eq_true p134
                                        replace q134 := eq_true q134
                                        obtain ⟨pg0_, pg1_, pge_⟩ := plate_get_eq A34.out
                                        have hpg_ := plAt.celladd hx134_0 x17_4 pg0_ pg1_
                                        rw [pge_] at hpg_
                                        replace pg0_ := eq_true pg0_
                                        replace pg1_ := eq_true pg1_
                                        try go_wp2
                                        clear hpg_ pg0_ pg1_ pge_
                                        have n0_ := Aside0.mk (blk_drew BK128.out)
                                        have n1_ := Aside0.mk (below_drew1 HB.out)
                                        clear BK128
                                        clear HB
                                        have BK128 := n0_
                                        have HB := n1_
                                        clear n0_ n1_
                                        refine start_ (n := 17) (S := fun w' => True) (ds := []) #[false, false, false, false, false, false, false, false, false, false, false, false, false, false, false, false, false] (by kernel_rfl) rfl rfl trivial (fun hHeld => ?_); refine with_tabW spec_CheckReach.tab17 spec_CheckReach.bits17 (fun HT_ HW_ => ?_)
                                        generalize wr.drew = w49 at BK128 HB hHeld ⊢
                                        refine pure_ (i := 0) (N := some 88) (v := ?_) (a' := ?_) #[true, false, false, false, false, false, false, false, false, false, false, false, false, false, false, false, false] rfl rfl (any_of HT_.out (by kernel_rfl)) (fun _ _ _ h => h) (Or.inl ⟨by rfl, ?_⟩) ?_ ?_
                                        rotate_left
                                        · intro w'
                                          first | (refine pl_zeroRun ?_ pbuilt69; rfl) | (refine pl_neqRunX ?_ Try.underlying69 Try.underlying24 (by kernel_rfl) pgd69 PZn; exact ⟨_, _, _, rfl, rfl, rfl⟩) | (refine pl_eqlRunX ?_ Try.underlying69 Try.underlying24 (by kernel_rfl) pgd69 PZe; exact ⟨_, _, _, rfl, rfl, rfl⟩) | (go_simp; with_reducible rfl)
                                        rotate_left
                                        · simp only [Act.put, List.setIfInBounds_toArray, List.set_cons_zero, List.set_cons_succ, i64_w, i32_w]
                                          rfl
                                        refine pure_ (i := 1) (N := some 89) (v := ?_) (a' := ?_) #[true, true, false, false, false, false, false, false, false, false, false, false, false, false, false, false, false] rfl rfl (any_of HT_.out (by kernel_rfl)) (fun _ _ _ h => h) (Or.inl ⟨by rfl, ?_⟩) ?_ ?_
                                        rotate_left
                                        · intro w'
                                          first | (refine pl_zeroRun ?_ pbuilt69; rfl) | (refine pl_neqRunX ?_ Try.underlying69 Try.underlying24 (by kernel_rfl) pgd69 PZn; exact ⟨_, _, _, rfl, rfl, rfl⟩) | (refine pl_eqlRunX ?_ Try.underlying69 Try.underlying24 (by kernel_rfl) pgd69 PZe; exact ⟨_, _, _, rfl, rfl, rfl⟩) | (go_simp; with_reducible rfl)
                                        rotate_left
                                        · simp only [Act.put, List.setIfInBounds_toArray, List.set_cons_zero, List.set_cons_succ, i64_w, i32_w]
                                          rfl
                                        refine pure_ (i := 2) (N := some 90) (v := undef) (a' := ?_) #[true, true, true, false, false, false, false, false, false, false, false, false, false, false, false, false, false] rfl rfl (any_of HT_.out (by kernel_rfl)) (fun _ _ _ h => h) (Or.inr ⟨by rfl, rfl⟩) ?_ ?_
                                        rotate_left
                                        · simp only [Act.put, List.setIfInBounds_toArray, List.set_cons_zero, List.set_cons_succ, i64_w, i32_w]
                                          rfl
                                        refine pure_ (i := 3) (N := some 91) (v := undef) (a' := ?_) #[true, true, true, true, false, false, false, false, false, false, false, false, false, false, false, false, false] rfl rfl (any_of HT_.out (by kernel_rfl)) (fun _ _ _ h => h) (Or.inr ⟨by rfl, rfl⟩) ?_ ?_
                                        rotate_left
                                        · simp only [Act.put, List.setIfInBounds_toArray, List.set_cons_zero, List.set_cons_succ, i64_w, i32_w]
                                          rfl
                                        refine pure_ (i := 4) (N := some 92) (v := undef) (a' := ?_) #[true, true, true, true, true, false, false, false, false, false, false, false, false, false, false, false, false] rfl rfl (any_of HT_.out (by kernel_rfl)) (fun _ _ _ h => h) (Or.inr ⟨by rfl, rfl⟩) ?_ ?_
                                        rotate_left
                                        · simp only [Act.put, List.setIfInBounds_toArray, List.set_cons_zero, List.set_cons_succ, i64_w, i32_w]
                                          rfl
                                        refine pure_ (i := 5) (N := some 93) (v := undef) (a' := ?_) #[true, true, true, true, true, true, false, false, false, false, false, false, false, false, false, false, false] rfl rfl (any_of HT_.out (by kernel_rfl)) (fun _ _ _ h => h) (Or.inr ⟨by rfl, rfl⟩) ?_ ?_
                                        rotate_left
                                        · simp only [Act.put, List.setIfInBounds_toArray, List.set_cons_zero, List.set_cons_succ, i64_w, i32_w]
                                          rfl
                                        refine pure_ (i := 6) (N := some 94) (v := undef) (a' := ?_) #[true, true, true, true, true, true, true, false, false, false, false, false, false, false, false, false, false] rfl rfl (any_of HT_.out (by kernel_rfl)) (fun _ _ _ h => h) (Or.inr ⟨by rfl, rfl⟩) ?_ ?_
                                        rotate_left
                                        · simp only [Act.put, List.setIfInBounds_toArray, List.set_cons_zero, List.set_cons_succ, i64_w, i32_w]
                                          rfl
                                        refine pure_ (i := 7) (N := some 95) (v := undef) (a' := ?_) #[true, true, true, true, true, true, true, true, false, false, false, false, false, false, false, false, false] rfl rfl (any_of HT_.out (by kernel_rfl)) (fun _ _ _ h => h) (Or.inr ⟨by rfl, rfl⟩) ?_ ?_
                                        rotate_left
                                        · simp only [Act.put, List.setIfInBounds_toArray, List.set_cons_zero, List.set_cons_succ, i64_w, i32_w]
                                          rfl
                                        refine pure_ (i := 8) (N := some 96) (v := undef) (a' := ?_) #[true, true, true, true, true, true, true, true, true, false, false, false, false, false, false, false, false] rfl rfl (any_of HT_.out (by kernel_rfl)) (fun _ _ _ h => h) (Or.inr ⟨by rfl, rfl⟩) ?_ ?_
                                        rotate_left
                                        · simp only [Act.put, List.setIfInBounds_toArray, List.set_cons_zero, List.set_cons_succ, i64_w, i32_w]
                                          rfl
                                        refine pure_ (i := 9) (N := some 97) (v := undef) (a' := ?_) #[true, true, true, true, true, true, true, true, true, true, false, false, false, false, false, false, false] rfl rfl (any_of HT_.out (by kernel_rfl)) (fun _ _ _ h => h) (Or.inr ⟨by rfl, rfl⟩) ?_ ?_
                                        rotate_left
                                        · simp only [Act.put, List.setIfInBounds_toArray, List.set_cons_zero, List.set_cons_succ, i64_w, i32_w]
                                          rfl
                                        refine pure_ (i := 10) (N := some 98) (v := undef) (a' := ?_) #[true, true, true, true, true, true, true, true, true, true, true, false, false, false, false, false, false] rfl rfl (any_of HT_.out (by kernel_rfl)) (fun _ _ _ h => h) (Or.inr ⟨by rfl, rfl⟩) ?_ ?_
                                        rotate_left
                                        · simp only [Act.put, List.setIfInBounds_toArray, List.set_cons_zero, List.set_cons_succ, i64_w, i32_w]
                                          rfl
                                        refine pure_ (i := 11) (N := some 99) (v := undef) (a' := ?_) #[true, true, true, true, true, true, true, true, true, true, true, true, false, false, false, false, false] rfl rfl (any_of HT_.out (by kernel_rfl)) (fun _ _ _ h => h) (Or.inr ⟨by rfl, rfl⟩) ?_ ?_
                                        rotate_left
                                        · simp only [Act.put, List.setIfInBounds_toArray, List.set_cons_zero, List.set_cons_succ, i64_w, i32_w]
                                          rfl
                                        refine pure_ (i := 12) (N := some 100) (v := undef) (a' := ?_) #[true, true, true, true, true, true, true, true, true, true, true, true, true, false, false, false, false] rfl rfl (any_of HT_.out (by kernel_rfl)) (fun _ _ _ h => h) (Or.inr ⟨by rfl, rfl⟩) ?_ ?_
                                        rotate_left
                                        · simp only [Act.put, List.setIfInBounds_toArray, List.set_cons_zero, List.set_cons_succ, i64_w, i32_w]
                                          rfl
                                        refine pure_ (i := 13) (N := some 101) (v := undef) (a' := ?_) #[true, true, true, true, true, true, true, true, true, true, true, true, true, true, false, false, false] rfl rfl (any_of HT_.out (by kernel_rfl)) (fun _ _ _ h => h) (Or.inr ⟨by rfl, rfl⟩) ?_ ?_
                                        rotate_left
                                        · simp only [Act.put, List.setIfInBounds_toArray, List.set_cons_zero, List.set_cons_succ, i64_w, i32_w]
                                          rfl
                                        refine pure_ (i := 14) (N := some 102) (v := undef) (a' := ?_) #[true, true, true, true, true, true, true, true, true, true, true, true, true, true, true, false, false] rfl rfl (any_of HT_.out (by kernel_rfl)) (fun _ _ _ h => h) (Or.inr ⟨by rfl, rfl⟩) ?_ ?_
                                        rotate_left
                                        · simp only [Act.put, List.setIfInBounds_toArray, List.set_cons_zero, List.set_cons_succ, i64_w, i32_w]
                                          rfl
                                        refine pure_ (i := 15) (N := some 103) (v := ?_) (a' := ?_) #[true, true, true, true, true, true, true, true, true, true, true, true, true, true, true, true, false] rfl rfl (any_of HT_.out (by kernel_rfl)) (fun _ _ _ h => h) (Or.inl ⟨by rfl, ?_⟩) ?_ ?_
                                        rotate_left
                                        · intro w'
                                          first | (refine pl_zeroRun ?_ pbuilt69; rfl) | (refine pl_neqRunX ?_ Try.underlying69 Try.underlying24 (by kernel_rfl) pgd69 PZn; exact ⟨_, _, _, rfl, rfl, rfl⟩) | (refine pl_eqlRunX ?_ Try.underlying69 Try.underlying24 (by kernel_rfl) pgd69 PZe; exact ⟨_, _, _, rfl, rfl, rfl⟩) | (go_simp; with_reducible rfl)
                                        rotate_left
                                        · simp only [Act.put, List.setIfInBounds_toArray, List.set_cons_zero, List.set_cons_succ, i64_w, i32_w]
                                          rfl
                                        refine pure_ (i := 16) (N := some 15) (v := ?_) (a' := ?_) #[true, true, true, true, true, true, true, true, true, true, true, true, true, true, true, true, true] rfl rfl (any_of HT_.out (by kernel_rfl)) (fun _ _ _ h => h) (Or.inl ⟨by rfl, ?_⟩) ?_ ?_
                                        rotate_left
                                        · intro w'
                                          first | (refine pl_zeroRun ?_ pbuilt69; rfl) | (refine pl_neqRunX ?_ Try.underlying69 Try.underlying24 (by kernel_rfl) pgd69 PZn; exact ⟨_, _, _, rfl, rfl, rfl⟩) | (refine pl_eqlRunX ?_ Try.underlying69 Try.underlying24 (by kernel_rfl) pgd69 PZe; exact ⟨_, _, _, rfl, rfl, rfl⟩) | (go_simp; with_reducible rfl)
                                        rotate_left
                                        · simp only [Act.put, List.setIfInBounds_toArray, List.set_cons_zero, List.set_cons_succ, i64_w, i32_w]
                                          rfl
                                        refine done_ (done_of HT_.out (by kernel_rfl)) ?_
                                        try go_wp2
                                        go_roundg k5
                                        case measure => have := HJ7.out; have := HK2.out; have := HJ25.out; have := HK4.out; have := HK5.out; omega
                                        case rel => exact ⟨(false), (wrap64 (x18_5 + 1)), (x129001_5), (x129002_5), (x129003_5), (x129004_5), (by first | rfl | (simp; done) | (simp [*]; done)), (by first | rfl | (simp; done) | (simp [*]; done)), H', ⟨by have := HJ7.out; have := HK2.out; have := HJ25.out; have := HK4.out; have := HK5.out; omega⟩, ⟨by (with_reducible repeat (first | refine blk_drewN ?_ _ | refine blk_drew ?_ | refine blk_alloc ?_ _)); exact BK128.out⟩, ⟨by repeat (first | (with_reducible first | exact HB.out | apply below_alloc | apply pw_below_drewN | apply below_drew1 | refine below_set ?_ GE128.out) | exact HB.out)⟩⟩
                                    · rw [if_neg c38] at H
                                      have c38b0 : ((Go.bits .and .u64 (ji37) 1) == 1) = false := beq_eq_false_iff_ne.mpr c38
                                      have c38b1 : ((Go.bits .and .u64 (ji37) 1) != 1) = true := bne_iff_ne.mpr c38
                                      have H' := Aside0.mk H
                                      clear H
                                      have p134 : 0 ≤ ((ji31) : Int) := of_decide_eq_true (by first | (with_reducible assumption) | assumption)
                                      have q134 : (ji31) < (l4.length : Int) := of_decide_eq_true (by first | (with_reducible assumption) | assumption)
                                      obtain ⟨ad134, e134, hx134_0⟩ := at_T69 HR4.out (ji31) p134 q134
                                      cases e134
                                      replace hx134_0 := plAt.below (w := w) HB.out hx134_0 hx134_0.lt
                                      replace p134 := eq_true p134
                                      replace q134 := eq_true q134
                                      obtain ⟨pg0_, pg1_, pge_⟩ := plate_get_eq A34.out
                                      have hpg_ := plAt.celladd hx134_0 x17_4 pg0_ pg1_
                                      rw [pge_] at hpg_
                                      replace pg0_ := eq_true pg0_
                                      replace pg1_ := eq_true pg1_
                                      try go_wp2
                                      clear hpg_ pg0_ pg1_ pge_
                                      go_roundg k5
                                      case measure => have := HJ7.out; have := HK2.out; have := HJ25.out; have := HK4.out; have := HK5.out; omega
                                      case rel => exact ⟨(x15_5), (wrap64 (x18_5 + 1)), (x129001_5), (x129002_5), (x129003_5), (x129004_5), (by first | rfl | (simp; done) | (simp [*]; done)), (by first | rfl | (simp; done) | (simp [*]; done)), H', ⟨by have := HJ7.out; have := HK2.out; have := HJ25.out; have := HK4.out; have := HK5.out; omega⟩, ⟨by (with_reducible repeat (first | refine blk_drewN ?_ _ | refine blk_drew ?_ | refine blk_alloc ?_ _)); exact BK128.out⟩, ⟨by repeat (first | (with_reducible first | exact HB.out | apply below_alloc | apply pw_below_drewN | apply below_drew1 | refine below_set ?_ GE128.out) | exact HB.out)⟩⟩
                                  · rw [if_neg c36] at H
                                    exact absurd H (by simp)
                                · rw [if_neg c33] at H
                                  exact absurd H (by simp)
                              · rw [if_neg c32] at H
                                exact absurd H (by simp)
                            · rw [if_neg c30] at H
                              have c30b0 : decide (x18_5 < 64) = false := decide_eq_false c30
                              clear c30
                              have H' := Aside0.mk H
                              clear H
                              go_wp2
                              go_roundg k5
                              case measure => have := HJ7.out; have := HK2.out; have := HJ25.out; have := HK4.out; have := HK5.out; omega
                              case rel => exact ⟨(x15_5), (wrap64 (x17_4 + 1)), (x129001_5), (x129002_5), (x129003_5), (x129004_5), (by first | rfl | (simp; done) | (simp [*]; done)), (by first | rfl | (simp; done) | (simp [*]; done)), H', ⟨by have := HJ7.out; have := HK2.out; have := HJ25.out; have := HK4.out; have := HK5.out; omega⟩, ⟨by (with_reducible repeat (first | refine blk_drewN ?_ _ | refine blk_drew ?_ | refine blk_alloc ?_ _)); exact BK128.out⟩, ⟨by repeat (first | (with_reducible first | exact HB.out | apply below_alloc | apply pw_below_drewN | apply below_drew1 | refine below_set ?_ GE128.out) | exact HB.out)⟩⟩
                      · rw [if_neg c29] at H
                        have c29b0 : decide (x17_4 < 64) = false := decide_eq_false c29
                        clear c29
                        have H' := Aside0.mk H
                        clear H
                        go_wp2
                        go_roundg k4
                        case measure => have := HJ7.out; have := HK2.out; have := HJ25.out; have := HK4.out; omega
                        case rel => exact ⟨(x15_4), (wrap64 (x16_2 + 1)), (x129001_4), (x129002_4), (x129003_4), (x129004_4), (by first | rfl | (simp; done) | (simp [*]; done)), (by first | rfl | (simp; done) | (simp [*]; done)), H', ⟨by have := HJ7.out; have := HK2.out; have := HJ25.out; have := HK4.out; omega⟩, ⟨by (with_reducible repeat (first | refine blk_drewN ?_ _ | refine blk_drew ?_ | refine blk_alloc ?_ _)); exact BK128.out⟩, ⟨by repeat (first | (with_reducible first | exact HB.out | apply below_alloc | apply pw_below_drewN | apply below_drew1 | refine below_set ?_ GE128.out) | exact HB.out)⟩⟩
                · replace c28 := Bool.eq_false_iff.mpr c28
                  subst c28
                  have H1 : (some (x15_2, 0)) = some (r1, r2) := by rw [if_neg (show ¬ (false = true) by decide)] at H; exact H
                  clear H
                  have H := H1
                  clear H1
                  simp only [Option.some.injEq, Prod.mk.injEq] at H
                  obtain ⟨rfl, rfl⟩ := H
                  go_wp2
                  go_ret2
                  exact ⟨by first | rfl | (simp [errW_none, errW_some] <;> rfl) | (simp [*, errW_none, errW_some] <;> rfl), by repeat (first | (with_reducible first | exact HB.out | apply below_alloc | apply pw_below_drewN | apply below_drew1 | refine below_set ?_ GE128.out) | exact HB.out)⟩
  · rw [if_neg c7] at H
    have c7b0 : (t127 == 0) = false := beq_eq_false_iff_ne.mpr c7
    have c7b1 : (t127 != 0) = true := bne_iff_ne.mpr c7
    simp only [Option.some.injEq, Prod.mk.injEq] at H
    obtain ⟨rfl, rfl⟩ := H
    go_enter Try.func13, Try.ntmps13
    go_wp2_with (first | ((with_reducible refine gate_callee (f := 31) rfl ?_); refine goesL_ (some 27) rfl rfl Try.func31 (by kernel_rfl) rfl #[.slice A0 l0.length c0, .int .i64 a1, .int .i64 (wrap64 ((l4.length : Int) - 3)), .int .i64 a2, .int .i64 a3] rfl (by (try simp only [List.map_toArray, List.map_cons, List.map_nil]); first | done | rfl | (simp only [List.length_drop, List.length_take]; rfl)) ?_; (with_reducible refine (spec_l05Asked.calls k _ _ l0 a1 (wrap64 ((l4.length : Int) - 3)) a2 a3 t127 _ ?side1 ?side2 A6.out).mono ?_); (case side1 => repeat (first | exact HR0.out | (with_reducible refine Kd.C_alloc ?_ _) | (with_reducible refine Kd.C_drewN ?_ _) | (with_reducible refine Kd.C_drew ?_))); (case side2 => exact HC0.out); rintro e w51 ⟨rfl, hb⟩; refine ⟨_, rfl, ?_⟩; have n0_ := Aside0.mk (below_step (by repeat (first | (with_reducible first | exact HB.out | apply below_alloc | apply pw_below_drewN | apply below_drew1) | exact HB.out)) hb); clear HB; have HB := n0_; clear n0_; (try clear hb); (try clear hb2); (try clear hk); (try clear hi)))
    go_ret2
    exact ⟨by first | rfl | (simp [errW_none, errW_some] <;> rfl) | (simp [*, errW_none, errW_some] <;> rfl), by repeat (first | (with_reducible first | exact HB.out | apply below_alloc | apply pw_below_drewN | apply below_drew1) | exact HB.out)⟩

end Go.Proofs.Ytkgeppbjfkhjcaa.XFnExactCheckReach
