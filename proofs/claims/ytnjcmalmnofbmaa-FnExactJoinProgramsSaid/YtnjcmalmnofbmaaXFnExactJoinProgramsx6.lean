/- Printed by this repository's own program (wip/tools/xprint.py) for the law FnExactJoinPrograms: Lean functions that say what the Go functions compute, and the proofs that the machine comes to just that; no condition beyond those in each statement. -/
import Derived.Test.YtnjcmalmnofbmaaXFnExactJoinProgramsx0
import Derived.Test.YtnjcmalmnofbmaaXFnExactJoinProgramsx1
import Derived.Test.YtnjcmalmnofbmaaXFnExactJoinProgramsx2
import Derived.Test.YtnjcmalmnofbmaaXFnExactJoinProgramsx3
import Derived.Test.YtnjcmalmnofbmaaXFnExactJoinProgramsx5
namespace Go.Proofs.Ytnjcmalmnofbmaa.XFnExactJoinPrograms
open Go.RowKit Go.Proofs.YtnjcmalmnofbmaaW.PrintWords Go.Proofs.YtnjcmalmnofbmaaW.PrintLast Go.Proofs.YtnjcmalmnofbmaaW.PrintMore
attribute [local go_sem] max2_int min2_int max_two min_two max_three min_three max_four min_four   -- for this text's walks alone
set_option linter.unusedVariables false
set_option linter.unusedSimpArgs false

/-! ### laws_FnExactJoinPrograms: function 8 -/
mutual
def laws_FnExactJoinPrograms.j0 : Nat → Int → Int → Bool → Int → List (S176) → Int → List (S176) → Int → List (S125) → Int → List (S125) → Int → List (S125) → Int → List (S125) → Option (Bool)
  | 0, _, _, _, _, _, _, _, _, _, _, _, _, _, _, _ => none
  | k + 1, x7, x11, x53, x222000, x222001, x223000, x223001, x239000, x239001, x244000, x244001, x249000, x249001, x255000, x255001 => if x53 = true then (some false) else ((laws_toProgram.f k x222000 x222001).bind fun bt256 => ((laws_eqProgram.f k x244000 x244001 bt256.1 bt256.2).bind fun t260 => (if t260 = true then ((laws_toProgram.f k x223000 x223001).bind fun bt261 => ((laws_eqProgram.f k x249000 x249001 bt261.1 bt261.2).bind fun t265 => (if t265 = true then ((laws_markProgram.f k x244000 x244001 1).bind fun bt266 => ((laws_markProgram.f k x249000 x249001 bt266.1).bind fun bt268 => (if bt268.1 < 0 then (laws_FnExactJoinPrograms.j1 k x7 true x222000 x222001 x223000 x223001 x239000 x239001 x255000 x255001) else ((laws_eqProgram.f k x255000 x255001 x239000 x239001).bind fun t270 => (if t270 = true then (laws_FnExactJoinPrograms.j1 k x7 (x11 != x7) x222000 x222001 x223000 x223001 x239000 x239001 x255000 x255001) else (laws_FnExactJoinPrograms.j1 k x7 true x222000 x222001 x223000 x223001 x239000 x239001 x255000 x255001)))))) else (some false)))) else (some false))))
def laws_FnExactJoinPrograms.j1 : Nat → Int → Bool → Int → List (S176) → Int → List (S176) → Int → List (S125) → Int → List (S125) → Option (Bool)
  | 0, _, _, _, _, _, _, _, _, _, _ => none
  | k + 1, x7, x82, x222000, x222001, x223000, x223001, x239000, x239001, x255000, x255001 => if x82 = true then (some false) else ((laws_markProgram.f k x255000 x255001 1).bind fun bt271 => ((laws_heldProgram.f k x255000 bt271.2 1).bind fun t273 => (if t273 < 0 then (some false) else (if t273 = bt271.1 then ((laws_toProgram.f k x222000 x222001).bind fun bt274 => ((laws_toProgram.f k x223000 x223001).bind fun bt278 => ((impl_JoinPrograms.f k bt274.1 bt274.2 bt278.1 bt278.2).bind fun bt282 => ((laws_eqProgram.f k bt282.1 bt282.2.1 x239000 x239001).bind fun t288 => (if t288 = true then (laws_FnExactJoinPrograms.j2 k bt271.1 (bt282.2.2 != x7) x255000 bt271.2) else (laws_FnExactJoinPrograms.j2 k bt271.1 true x255000 bt271.2)))))) else (some false)))))
def laws_FnExactJoinPrograms.j2 : Nat → Int → Bool → Int → List (S125) → Option (Bool)
  | 0, _, _, _, _ => none
  | k + 1, x13, x110, x255000, x255001 => if x110 = true then (some false) else ((laws_heldProgram.f k x255000 x255001 1).bind fun t289 => (if t289 < 0 then (some false) else (if t289 = x13 then (some true) else (some false))))
end
def laws_FnExactJoinPrograms.f (k : Nat) (a0_0 : Int) (l0_1 : List (S176)) (a1_0 : Int) (l1_1 : List (S176)) : Option (Bool) := (laws_szProgram.f a0_0 l0_1 1048576).bind fun t223 => (if t223 < 0 then (some true) else ((laws_szProgram.f a1_0 l1_1 t223).bind fun t224 => (if t224 < 0 then (some true) else ((laws_toProgram.f k a0_0 l0_1).bind fun bt225 => ((laws_toProgram.f k a1_0 l1_1).bind fun bt229 => ((spec_JoinPrograms.f k bt225.1 bt225.2 bt229.1 bt229.2).bind fun bt233 => ((laws_toProgram.f k a0_0 l0_1).bind fun bt239 => ((laws_toProgram.f k a1_0 l1_1).bind fun bt244 => ((impl_JoinPrograms.f k bt239.1 bt239.2 bt244.1 bt244.2).bind fun bt249 => ((laws_eqProgram.f k bt249.1 bt249.2.1 bt233.1 bt233.2.1).bind fun t255 => (if t255 = true then (laws_FnExactJoinPrograms.j0 k bt233.2.2 bt249.2.2 (bt249.2.2 != bt233.2.2) a0_0 l0_1 a1_0 l1_1 bt233.1 bt233.2.1 bt239.1 bt239.2 bt244.1 bt244.2 bt249.1 bt249.2.1) else (laws_FnExactJoinPrograms.j0 k bt233.2.2 bt249.2.2 true a0_0 l0_1 a1_0 l1_1 bt233.1 bt233.2.1 bt239.1 bt239.2 bt244.1 bt244.2 bt249.1 bt249.2.1))))))))))))
theorem laws_FnExactJoinPrograms.mono_l : ∀ k, (∀ y0 y1 y2 y3 y4 y5 y6 y7 y8 y9 y10 y11 y12 y13 y14, LeO (laws_FnExactJoinPrograms.j0 k y0 y1 y2 y3 y4 y5 y6 y7 y8 y9 y10 y11 y12 y13 y14) (laws_FnExactJoinPrograms.j0 (k + 1) y0 y1 y2 y3 y4 y5 y6 y7 y8 y9 y10 y11 y12 y13 y14)) ∧ (∀ y0 y1 y2 y3 y4 y5 y6 y7 y8 y9, LeO (laws_FnExactJoinPrograms.j1 k y0 y1 y2 y3 y4 y5 y6 y7 y8 y9) (laws_FnExactJoinPrograms.j1 (k + 1) y0 y1 y2 y3 y4 y5 y6 y7 y8 y9)) ∧ (∀ y0 y1 y2 y3, LeO (laws_FnExactJoinPrograms.j2 k y0 y1 y2 y3) (laws_FnExactJoinPrograms.j2 (k + 1) y0 y1 y2 y3))
  | 0 => ⟨fun _ _ _ _ _ _ _ _ _ _ _ _ _ _ _ r h => by simp [laws_FnExactJoinPrograms.j0] at h, fun _ _ _ _ _ _ _ _ _ _ r h => by simp [laws_FnExactJoinPrograms.j1] at h, fun _ _ _ _ r h => by simp [laws_FnExactJoinPrograms.j2] at h⟩
  | k + 1 => by
    obtain ⟨ih0, ih1, ih2⟩ := laws_FnExactJoinPrograms.mono_l k
    refine ⟨?_, ?_, ?_⟩
    · intro y0 y1 y2 y3 y4 y5 y6 y7 y8 y9 y10 y11 y12 y13 y14
      unfold laws_FnExactJoinPrograms.j0
      repeat' first
      | (with_reducible exact ih0 _ _ _ _ _ _ _ _ _ _ _ _ _ _ _)
      | (with_reducible exact ih1 _ _ _ _ _ _ _ _ _ _)
      | (with_reducible exact ih2 _ _ _ _)
      | (with_reducible exact impl_JoinPrograms.mono _ _ _ _ _)
      | (with_reducible exact laws_eqProgram.mono _ _ _ _ _)
      | (with_reducible exact laws_heldProgram.mono _ _ _ _)
      | (with_reducible exact laws_markProgram.mono _ _ _ _)
      | (with_reducible exact laws_toProgram.mono _ _ _)
      | (with_reducible exact spec_JoinPrograms.mono _ _ _ _ _)
      | (with_reducible exact LeO.refl _)
      | (with_reducible exact LeO.none _)
      | (with_reducible refine LeO.ite ?_ ?_)
      | (with_reducible refine LeO.bind ?_ (fun _ => ?_))
      | exact ih0 _ _ _ _ _ _ _ _ _ _ _ _ _ _ _
      | exact ih1 _ _ _ _ _ _ _ _ _ _
      | exact ih2 _ _ _ _
      | exact impl_JoinPrograms.mono _ _ _ _ _
      | exact laws_eqProgram.mono _ _ _ _ _
      | exact laws_heldProgram.mono _ _ _ _
      | exact laws_markProgram.mono _ _ _ _
      | exact laws_toProgram.mono _ _ _
      | exact spec_JoinPrograms.mono _ _ _ _ _
      | exact LeO.none _
      | refine LeO.ite ?_ ?_
      | refine LeO.bind ?_ (fun _ => ?_)
    · intro y0 y1 y2 y3 y4 y5 y6 y7 y8 y9
      unfold laws_FnExactJoinPrograms.j1
      repeat' first
      | (with_reducible exact ih0 _ _ _ _ _ _ _ _ _ _ _ _ _ _ _)
      | (with_reducible exact ih1 _ _ _ _ _ _ _ _ _ _)
      | (with_reducible exact ih2 _ _ _ _)
      | (with_reducible exact impl_JoinPrograms.mono _ _ _ _ _)
      | (with_reducible exact laws_eqProgram.mono _ _ _ _ _)
      | (with_reducible exact laws_heldProgram.mono _ _ _ _)
      | (with_reducible exact laws_markProgram.mono _ _ _ _)
      | (with_reducible exact laws_toProgram.mono _ _ _)
      | (with_reducible exact spec_JoinPrograms.mono _ _ _ _ _)
      | (with_reducible exact LeO.refl _)
      | (with_reducible exact LeO.none _)
      | (with_reducible refine LeO.ite ?_ ?_)
      | (with_reducible refine LeO.bind ?_ (fun _ => ?_))
      | exact ih0 _ _ _ _ _ _ _ _ _ _ _ _ _ _ _
      | exact ih1 _ _ _ _ _ _ _ _ _ _
      | exact ih2 _ _ _ _
      | exact impl_JoinPrograms.mono _ _ _ _ _
      | exact laws_eqProgram.mono _ _ _ _ _
      | exact laws_heldProgram.mono _ _ _ _
      | exact laws_markProgram.mono _ _ _ _
      | exact laws_toProgram.mono _ _ _
      | exact spec_JoinPrograms.mono _ _ _ _ _
      | exact LeO.none _
      | refine LeO.ite ?_ ?_
      | refine LeO.bind ?_ (fun _ => ?_)
    · intro y0 y1 y2 y3
      unfold laws_FnExactJoinPrograms.j2
      repeat' first
      | (with_reducible exact ih0 _ _ _ _ _ _ _ _ _ _ _ _ _ _ _)
      | (with_reducible exact ih1 _ _ _ _ _ _ _ _ _ _)
      | (with_reducible exact ih2 _ _ _ _)
      | (with_reducible exact impl_JoinPrograms.mono _ _ _ _ _)
      | (with_reducible exact laws_eqProgram.mono _ _ _ _ _)
      | (with_reducible exact laws_heldProgram.mono _ _ _ _)
      | (with_reducible exact laws_markProgram.mono _ _ _ _)
      | (with_reducible exact laws_toProgram.mono _ _ _)
      | (with_reducible exact spec_JoinPrograms.mono _ _ _ _ _)
      | (with_reducible exact LeO.refl _)
      | (with_reducible exact LeO.none _)
      | (with_reducible refine LeO.ite ?_ ?_)
      | (with_reducible refine LeO.bind ?_ (fun _ => ?_))
      | exact ih0 _ _ _ _ _ _ _ _ _ _ _ _ _ _ _
      | exact ih1 _ _ _ _ _ _ _ _ _ _
      | exact ih2 _ _ _ _
      | exact impl_JoinPrograms.mono _ _ _ _ _
      | exact laws_eqProgram.mono _ _ _ _ _
      | exact laws_heldProgram.mono _ _ _ _
      | exact laws_markProgram.mono _ _ _ _
      | exact laws_toProgram.mono _ _ _
      | exact spec_JoinPrograms.mono _ _ _ _ _
      | exact LeO.none _
      | refine LeO.ite ?_ ?_
      | refine LeO.bind ?_ (fun _ => ?_)
theorem laws_FnExactJoinPrograms.mono : ∀ a0 a1 a2 a3 k, LeO (laws_FnExactJoinPrograms.f k a0 a1 a2 a3) (laws_FnExactJoinPrograms.f (k + 1) a0 a1 a2 a3) := by
  intro a0 a1 a2 a3 k
  obtain ⟨ih0, ih1, ih2⟩ := laws_FnExactJoinPrograms.mono_l k
  unfold laws_FnExactJoinPrograms.f
  repeat' first
      | (with_reducible exact ih0 _ _ _ _ _ _ _ _ _ _ _ _ _ _ _)
      | (with_reducible exact ih1 _ _ _ _ _ _ _ _ _ _)
      | (with_reducible exact ih2 _ _ _ _)
      | (with_reducible exact impl_JoinPrograms.mono _ _ _ _ _)
      | (with_reducible exact laws_eqProgram.mono _ _ _ _ _)
      | (with_reducible exact laws_heldProgram.mono _ _ _ _)
      | (with_reducible exact laws_markProgram.mono _ _ _ _)
      | (with_reducible exact laws_toProgram.mono _ _ _)
      | (with_reducible exact spec_JoinPrograms.mono _ _ _ _ _)
      | (with_reducible exact LeO.refl _)
      | (with_reducible exact LeO.none _)
      | (with_reducible refine LeO.ite ?_ ?_)
      | (with_reducible refine LeO.bind ?_ (fun _ => ?_))
      | exact ih0 _ _ _ _ _ _ _ _ _ _ _ _ _ _ _
      | exact ih1 _ _ _ _ _ _ _ _ _ _
      | exact ih2 _ _ _ _
      | exact impl_JoinPrograms.mono _ _ _ _ _
      | exact laws_eqProgram.mono _ _ _ _ _
      | exact laws_heldProgram.mono _ _ _ _
      | exact laws_markProgram.mono _ _ _ _
      | exact laws_toProgram.mono _ _ _
      | exact spec_JoinPrograms.mono _ _ _ _ _
      | exact LeO.none _
      | refine LeO.ite ?_ ?_
      | refine LeO.bind ?_ (fun _ => ?_)
def laws_FnExactJoinPrograms.T8 : Bool × List (List Nat × List Nat) := (true, [([], []), ([0], [0]), ([], []), ([2, 1], [2]), ([1, 3, 3], [1, 3]), ([4], [4]), ([5], [5]), ([5], [5]), ([], []), ([8, 6, 4, 0, 1, 2, 3, 4, 5, 6, 8], [6, 8]), ([7, 9, 0, 1, 2, 3, 4, 5, 6, 7, 8, 9], [7])])
def laws_FnExactJoinPrograms.B8 : List Nat := [0, 1, 0, 7, 15, 31, 63, 63, 0, 383, 1023]
theorem laws_FnExactJoinPrograms.tab8 : rtab .any (opsOf Try.f8 8) = laws_FnExactJoinPrograms.T8 := by kernel_rfl
theorem laws_FnExactJoinPrograms.bits8 : waitsOk laws_FnExactJoinPrograms.T8.2 laws_FnExactJoinPrograms.B8 = true := by kernel_rfl
def laws_FnExactJoinPrograms.T31 : Bool × List (List Nat × List Nat) := (true, [([], []), ([0], [0]), ([], []), ([2, 1], [2]), ([1, 3, 3], [1, 3]), ([4], [4]), ([5], [5]), ([5], [5]), ([], []), ([8, 6, 4, 0, 1, 2, 3, 4, 5, 6, 8], [6, 8]), ([7, 9, 0, 1, 2, 3, 4, 5, 6, 7, 8, 9], [7])])
def laws_FnExactJoinPrograms.B31 : List Nat := [0, 1, 0, 7, 15, 31, 63, 63, 0, 383, 1023]
theorem laws_FnExactJoinPrograms.tab31 : rtab .any (opsOf Try.f8 31) = laws_FnExactJoinPrograms.T31 := by kernel_rfl
theorem laws_FnExactJoinPrograms.bits31 : waitsOk laws_FnExactJoinPrograms.T31.2 laws_FnExactJoinPrograms.B31 = true := by kernel_rfl
/-! ### laws_FnExactJoinPrograms: what follows is its proof -/

end Go.Proofs.Ytnjcmalmnofbmaa.XFnExactJoinPrograms
