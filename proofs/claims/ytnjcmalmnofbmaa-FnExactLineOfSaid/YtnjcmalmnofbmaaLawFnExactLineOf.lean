/- Printed by this repository's own program (wip/tools/xprint.py) for the law FnExactLineOf: Lean functions that say what the Go functions compute, and the proofs that the machine comes to just that; no condition beyond those in each statement. -/
import Derived.Test.YtnjcmalmnofbmaaRows
import Derived.Test.YtnjcmalmnofbmaaXFnExactLineOfx6
import Derived.Test.YtnjcmalmnofbmaaPureFnExactLineOf
import Derived.Test.YtnjcmalmnofbmaaXOpen
import Derived.WalkKit
import Derived.ProofKit
import Derived.OpenShut
import Derived.ShutString
import Derived.ChangeOld
import Derived.Below
import Derived.SizedLaws
namespace Go.Proofs.Ytnjcmalmnofbmaa.fnExactLineOf
open Go.ChangeShapes Go.WideShapes Go.ChangeAt Go.RowKit Go.Proofs.Ytnjcmalmnofbmaa Go.Proofs.Ytnjcmalmnofbmaa.XFnExactLineOf Go.Proofs.YtnjcmalmnofbmaaW.PrintWords
open Go.ChangeMaps (open_string shut_string)
set_option linter.unusedVariables false
theorem own : ownKnob Try.prog.godebug = none := by kernel_rfl
theorem laidOut : laidOutB Try.prog = true := by kernel_rfl
set_option maxRecDepth 100000 in
set_option maxHeartbeats 4000000 in
theorem lifted (os : Os) (started : os.Started) (H : Type) (enc : TypeId × Value → H) :
    ReturnsInHanded {} Try.checked os 10 .any (Rows.fnExactLineOfSpec.pre6 enc Try.prog Try.f10 Rows.fnExactLineOfRow.domain false) (Rows.fnExactLineOfSpec.post enc Try.prog Try.f10 false true false false) := by
  refine returnsInHanded_of_change_sized (C := Try.checked) own started (by kernel_rfl) Try.func10
    (ChangeSpec.witness6 (enc := enc) (C := Try.checked) false ⟨#[], #[.agg #[.int .i16 0, .int .i16 0], .agg #[.int .i16 0, .int .i16 0]], []⟩ 8 (by kernel_rfl) (by kernel_rfl) (by kernel_rfl) (by kernel_rfl)) ?_
  intro W base args ds gs before hval0 hW hcnd hsz0 _
  have hval : ∀ (j : Nat) t v, Try.f10.params[j]? = some t → args[j]? = some v → Value.okWide Try.prog W .any base t v := hval0
  have hW' := hW
  obtain ⟨p, q, hA0, hV, rfl, hfz, hnd⟩ := hW
  have hA : DataW.TrodAll enc Try.prog W 0 (fun _ => true) true Try.f10.params.toList args.toList ds p := hA0
  rw [Try.params10] at hA hval
  obtain ⟨v0, vs0, d0, ds0, p0, q0, hargs, rfl, rfl, h0, r0⟩ := trodAll_cons hA
  obtain ⟨v1, vs1, d1, ds1, p1, q1, rfl, rfl, rfl, h1, r1⟩ := trodAll_cons r0
  obtain ⟨rfl, rfl, rfl⟩ := trodAll_nil r1
  obtain rfl : args = #[v0, v1] := by cases args; simp_all
  obtain ⟨rfl, rfl⟩ := trodVars_none hV
  obtain ⟨cs0, rfl, _⟩ := XOpen.okWide_array Try.underlying70 (hval 0 70 v0 rfl rfl)
  have k0 := h0
  have lt0 : ∀ x ∈ p0, x.block < W.heap.size := by obtain ⟨m, hm⟩ := k0; exact DataW.trod_lt m _ _ _ hm
  obtain ⟨⟨a0_0, a0_1⟩, ⟨z0, z1, e0, rfl, rfl⟩, ⟨ok0_0, ok0_1⟩⟩ : ∃ y, ((Kd.pair (Kd.int .i16) (Kd.int .i16))).K W y cs0.toList ∧ ((Lit.int .i16 y.1).wf = true ∧ (Lit.int .i16 y.2).wf = true) := by
    obtain ⟨fuel, hf⟩ := h0
    exact (XOpen.opens_array2 Try.underlying70 (by kernel_rfl) (XOpen.opens_int Try.underlying38)) _ _ _ _ _ _ _ _ _ hf
  have hcs0 : cs0 = #[.int .i16 a0_0, .int .i16 a0_1] := Array.toList_inj.mp e0
  subst hcs0
  obtain ⟨cs1, rfl, _⟩ := XOpen.okWide_array Try.underlying70 (hval 1 70 v1 rfl rfl)
  have k1 := h1
  have lt1 : ∀ x ∈ p1, x.block < W.heap.size := by obtain ⟨m, hm⟩ := k1; exact DataW.trod_lt m _ _ _ hm
  obtain ⟨⟨a1_0, a1_1⟩, ⟨z0, z1, e1, rfl, rfl⟩, ⟨ok1_0, ok1_1⟩⟩ : ∃ y, ((Kd.pair (Kd.int .i16) (Kd.int .i16))).K W y cs1.toList ∧ ((Lit.int .i16 y.1).wf = true ∧ (Lit.int .i16 y.2).wf = true) := by
    obtain ⟨fuel, hf⟩ := h1
    exact (XOpen.opens_array2 Try.underlying70 (by kernel_rfl) (XOpen.opens_int Try.underlying38)) _ _ _ _ _ _ _ _ _ hf
  have hcs1 : cs1 = #[.int .i16 a1_0, .int .i16 a1_1] := Array.toList_inj.mp e1
  subst hcs1
  clear hA0 hval0 hsz0
  obtain ⟨k, h⟩ := Pure.FnExactLineOf a0_0 a0_1 a1_0 a1_1 ok0_0 ok0_1 ok1_0 ok1_1
  refine (laws_FnExactLineOf.calls k a0_0 a0_1 a1_0 a1_1 true W h).mono fun e W' ⟨he, bel0⟩ => ?_
  have bel : Below W.heap.size W W' := by first | exact bel0 | exact bel0.below
  subst he
  exact ⟨_, rfl, _, _, _, [], _, [], hW', trodAll_mk1 (shut_bool Try.underlying4 _), (trodAll_cons_mk (Below.trod laidOut (by kernel_rfl) (of_decide_eq_true (by kernel_rfl)) k0 bel lt0) (trodAll_cons_mk (Below.trod laidOut (by kernel_rfl) (of_decide_eq_true (by kernel_rfl)) k1 bel lt1) trodAll_mk0)), rfl, bel.frame _, fun h => by cases h⟩
theorem over : Rows.fnExactLineOfRow.holds Try.pinned (OpenSpec.ofChange Rows.fnExactLineOfSpec) :=
  OpenClaim.holds_of_wide 10 Try.f10 rfl rfl rfl rfl rfl rfl rfl ⟨rfl, rfl, rfl, rfl, rfl⟩ rfl rfl rfl rfl rfl (by kernel_rfl) Try.func10 (by kernel_rfl)
    (of_decide_eq_true (by kernel_rfl)) (by unfold Func.isWrapper; first | (rw [if_pos (by decide +kernel)]; kernel_rfl) | (rw [if_neg (by decide +kernel)]; exact ⟨rfl, rfl⟩))
    (fun os started H enc _ => lifted os started H enc)
theorem proved : Rows.FnExactLineOfSaid := over
#print axioms proved
end Go.Proofs.Ytnjcmalmnofbmaa.fnExactLineOf
namespace Go.Proofs.Ytnjcmalmnofbmaa
/-- The row, under a short name, for the claim. -/
theorem fnExactLineOf_holds : Rows.FnExactLineOfSaid := fnExactLineOf.proved
end Go.Proofs.Ytnjcmalmnofbmaa
