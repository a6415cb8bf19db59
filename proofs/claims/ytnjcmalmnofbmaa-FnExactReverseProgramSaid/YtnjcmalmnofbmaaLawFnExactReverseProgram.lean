/- Printed by this repository's own program (wip/tools/xprint.py) for the law FnExactReverseProgram: Lean functions that say what the Go functions compute, and the proofs that the machine comes to just that; no condition beyond those in each statement. -/
import Derived.Test.YtnjcmalmnofbmaaRows
import Derived.Test.YtnjcmalmnofbmaaXFnExactReverseProgramx6
import Derived.Test.YtnjcmalmnofbmaaPureFnExactReverseProgram
import Derived.Test.YtnjcmalmnofbmaaXOpen
import Derived.WalkKit
import Derived.ProofKit
import Derived.OpenShut
import Derived.ShutString
import Derived.ChangeOld
import Derived.Below
import Derived.SizedLaws
namespace Go.Proofs.Ytnjcmalmnofbmaa.fnExactReverseProgram
open Go.ChangeShapes Go.WideShapes Go.ChangeAt Go.RowKit Go.Proofs.Ytnjcmalmnofbmaa Go.Proofs.Ytnjcmalmnofbmaa.XFnExactReverseProgram Go.Proofs.YtnjcmalmnofbmaaW.PrintWords
open Go.ChangeMaps (open_string shut_string)
set_option linter.unusedVariables false
theorem own : ownKnob Try.prog.godebug = none := by kernel_rfl
theorem laidOut : laidOutB Try.prog = true := by kernel_rfl
set_option maxRecDepth 100000 in
set_option maxHeartbeats 4000000 in
theorem lifted (os : Os) (started : os.Started) (H : Type) (enc : TypeId × Value → H) :
    ReturnsInHanded {} Try.checked os 7 .any (Rows.fnExactReverseProgramSpec.pre6 enc Try.prog Try.f7 Rows.fnExactReverseProgramRow.domain false) (Rows.fnExactReverseProgramSpec.post enc Try.prog Try.f7 false true false false) := by
  refine returnsInHanded_of_change_sized (C := Try.checked) own started (by kernel_rfl) Try.func7
    (ChangeSpec.witness6 (enc := enc) (C := Try.checked) false ⟨#[], #[.agg #[.int .i16 0, .slice none 0 0]], []⟩ 8 (by kernel_rfl) (by kernel_rfl) (by kernel_rfl) (by kernel_rfl)) ?_
  intro W base args ds gs before hval0 hW hcnd hsz0 _
  have hval : ∀ (j : Nat) t v, Try.f7.params[j]? = some t → args[j]? = some v → Value.okWide Try.prog W .any base t v := hval0
  have hW' := hW
  obtain ⟨p, q, hA0, hV, rfl, hfz, hnd⟩ := hW
  have hA : DataW.TrodAll enc Try.prog W 0 (fun _ => true) true Try.f7.params.toList args.toList ds p := hA0
  rw [Try.params7] at hA hval
  obtain ⟨v0, vs0, d0, ds0, p0, q0, hargs, rfl, rfl, h0, r0⟩ := trodAll_cons hA
  obtain ⟨rfl, rfl, rfl⟩ := trodAll_nil r0
  obtain rfl : args = #[v0] := by cases args; simp_all
  obtain ⟨rfl, rfl⟩ := trodVars_none hV
  obtain ⟨cs0, rfl, _⟩ := okWide_struct Try.underlying41 (hval 0 41 v0 rfl rfl)
  have k0 := h0
  have lt0 : ∀ x ∈ p0, x.block < W.heap.size := by obtain ⟨m, hm⟩ := k0; exact DataW.trod_lt m _ _ _ hm
  obtain ⟨⟨a0_0, l0_1⟩, ⟨z0, z1, e0, rfl, ⟨A0_1, c0_1, rfl, hc0_1, hr0_1⟩⟩, ⟨ok0_0, ok0_1⟩⟩ : ∃ y, ((Kd.pair (Kd.int .i16) (Kd.slice 176 k176))).K W y cs0.toList ∧ ((Lit.int .i16 y.1).wf = true ∧ (y.2.length ≤ maxLen ∧ ∀ x4 ∈ y.2, ((Lit.int .i8 x4.f0).wf = true ∧ (Lit.int .i16 x4.f1).wf = true ∧ (Lit.int .i16 x4.f2).wf = true))) := by
    obtain ⟨fuel, hf⟩ := h0
    exact (XOpen.opens_struct Try.underlying41 (XOpen.opensF_cons (XOpen.opens_int Try.underlying38) (by kernel_rfl) (XOpen.opensF_last (XOpen.opens_slice 176 Try.underlying39 (by kernel_rfl) (XOpen.opens_iso (XOpen.opens_struct Try.underlying176 (XOpen.opensF_cons (XOpen.opens_int Try.underlying123) (by kernel_rfl) (XOpen.opensF_cons (XOpen.opens_int Try.underlying38) (by kernel_rfl) (XOpen.opensF_last (XOpen.opens_int Try.underlying38) rfl (by kernel_rfl))))) _ (fun p => (⟨p.1, p.2.1, p.2.2⟩ : S176)) (fun _ => rfl))) rfl (by kernel_rfl)))) _ _ _ _ _ _ _ _ _ hf
  have hcs0 : cs0 = #[.int .i16 a0_0, .slice A0_1 l0_1.length c0_1] := Array.toList_inj.mp e0
  subst hcs0
  clear hA0 hval0 hsz0
  obtain ⟨k, h⟩ := Pure.FnExactReverseProgram a0_0 l0_1 ok0_0 ok0_1
  refine (laws_FnExactReverseProgram.calls k a0_0 _ _ l0_1 true W hr0_1 hc0_1 h).mono fun e W' ⟨he, bel0⟩ => ?_
  have bel : Below W.heap.size W W' := by first | exact bel0 | exact bel0.below
  subst he
  exact ⟨_, rfl, _, _, _, [], _, [], hW', trodAll_mk1 (shut_bool Try.underlying4 _), (trodAll_cons_mk (Below.trod laidOut (by kernel_rfl) (of_decide_eq_true (by kernel_rfl)) k0 bel lt0) trodAll_mk0), rfl, bel.frame _, fun h => by cases h⟩
theorem over : Rows.fnExactReverseProgramRow.holds Try.pinned (OpenSpec.ofChange Rows.fnExactReverseProgramSpec) :=
  OpenClaim.holds_of_wide 7 Try.f7 rfl rfl rfl rfl rfl rfl rfl ⟨rfl, rfl, rfl, rfl, rfl⟩ rfl rfl rfl rfl rfl (by kernel_rfl) Try.func7 (by kernel_rfl)
    (of_decide_eq_true (by kernel_rfl)) (by unfold Func.isWrapper; first | (rw [if_pos (by decide +kernel)]; kernel_rfl) | (rw [if_neg (by decide +kernel)]; exact ⟨rfl, rfl⟩))
    (fun os started H enc _ => lifted os started H enc)
theorem proved : Rows.FnExactReverseProgramSaid := over
#print axioms proved
end Go.Proofs.Ytnjcmalmnofbmaa.fnExactReverseProgram
namespace Go.Proofs.Ytnjcmalmnofbmaa
/-- The row, under a short name, for the claim. -/
theorem fnExactReverseProgram_holds : Rows.FnExactReverseProgramSaid := fnExactReverseProgram.proved
end Go.Proofs.Ytnjcmalmnofbmaa
