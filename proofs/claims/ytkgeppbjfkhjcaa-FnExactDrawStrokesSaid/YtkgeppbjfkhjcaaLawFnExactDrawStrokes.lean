/- Printed by this repository's own program (wip/tools/xprint.py) for the law FnExactDrawStrokes: Lean functions that say what the Go functions compute, and the proofs that the machine comes to just that; no condition beyond those in each statement. -/
import Derived.Test.YtkgeppbjfkhjcaaRows
import Derived.Test.YtkgeppbjfkhjcaaXFnExactDrawStrokesx10
import Derived.Test.YtkgeppbjfkhjcaaPureFnExactDrawStrokes
import Derived.Test.YtkgeppbjfkhjcaaXOpen
import Derived.WalkKit
import Derived.ProofKit
import Derived.OpenShut
import Derived.ShutString
import Derived.ChangeOld
import Derived.Below
import Derived.SizedLaws
namespace Go.Proofs.Ytkgeppbjfkhjcaa.fnExactDrawStrokes
open Go.ChangeShapes Go.WideShapes Go.ChangeAt Go.RowKit Go.Proofs.Ytkgeppbjfkhjcaa Go.Proofs.Ytkgeppbjfkhjcaa.XFnExactDrawStrokes Go.Proofs.YtkgeppbjfkhjcaaW.PrintWords
open Go.ChangeMaps (open_string shut_string)
set_option linter.unusedVariables false
theorem own : ownKnob Try.prog.godebug = none := by kernel_rfl
theorem laidOut : laidOutB Try.prog = true := by kernel_rfl
set_option maxRecDepth 100000 in
set_option maxHeartbeats 4000000 in
theorem lifted (os : Os) (started : os.Started) (H : Type) (enc : TypeId × Value → H) :
    ReturnsInHanded {} Try.checked os 3 .any (Rows.fnExactDrawStrokesSpec.pre6 enc Try.prog Try.f3 Rows.fnExactDrawStrokesRow.domain false) (Rows.fnExactDrawStrokesSpec.post enc Try.prog Try.f3 false true false false) := by
  refine returnsInHanded_of_change_sized (C := Try.checked) own started (by kernel_rfl) Try.func3
    (ChangeSpec.witness6 (enc := enc) (C := Try.checked) false ⟨#[], #[.slice none 0 0], []⟩ 8 (by kernel_rfl) (by kernel_rfl) (by kernel_rfl) (by kernel_rfl)) ?_
  intro W base args ds gs before hval0 hW hcnd hsz0 _
  have hval : ∀ (j : Nat) t v, Try.f3.params[j]? = some t → args[j]? = some v → Value.okWide Try.prog W .any base t v := hval0
  have hW' := hW
  obtain ⟨p, q, hA0, hV, rfl, hfz, hnd⟩ := hW
  have hA : DataW.TrodAll enc Try.prog W 0 (fun _ => true) true Try.f3.params.toList args.toList ds p := hA0
  rw [Try.params3] at hA hval
  obtain ⟨v0, vs0, d0, ds0, p0, q0, hargs, rfl, rfl, h0, r0⟩ := trodAll_cons hA
  obtain ⟨rfl, rfl, rfl⟩ := trodAll_nil r0
  obtain rfl : args = #[v0] := by cases args; simp_all
  obtain ⟨rfl, rfl⟩ := trodVars_none hV
  obtain ⟨b0, len0, cap0, rfl⟩ := okWide_slice Try.underlying22 (hval 0 22 v0 rfl rfl)
  have k0 := h0
  have lt0 : ∀ x ∈ p0, x.block < W.heap.size := by obtain ⟨m, hm⟩ := k0; exact DataW.trod_lt m _ _ _ hm
  obtain ⟨l0, ⟨A0, c0, e0, hc0, hr0⟩, ok0⟩ : ∃ l, ((Kd.slice 52 (Kd.slice 59 k59))).K W l [.slice b0 len0 cap0] ∧ (l.length ≤ maxLen ∧ ∀ x1 ∈ l, (x1.length ≤ maxLen ∧ ∀ x2 ∈ x1, ((Lit.int .i16 x2.f0).wf = true ∧ (Lit.int .i16 x2.f1).wf = true))) := by
    obtain ⟨fuel, hf⟩ := h0
    exact (XOpen.opens_slice 52 Try.underlying22 (by kernel_rfl) (XOpen.opens_slice 59 Try.underlying52 (by kernel_rfl) (XOpen.opens_iso (XOpen.opens_array2 Try.underlying59 (by kernel_rfl) (XOpen.opens_int Try.underlying58)) _ (fun p => (⟨p.1, p.2⟩ : S59)) (fun _ => rfl)))) _ _ _ _ _ _ _ _ _ hf
  obtain ⟨rfl, rfl, rfl⟩ : b0 = A0 ∧ len0 = l0.length ∧ cap0 = c0 := by simpa using e0
  clear hA0 hval0 hsz0
  obtain ⟨k, h⟩ := Pure.FnExactDrawStrokes l0 ok0
  refine (laws_FnExactDrawStrokes.calls k _ _ l0 true W hr0 hc0 h).mono fun e W' ⟨he, bel0⟩ => ?_
  have bel : Below W.heap.size W W' := by first | exact bel0 | exact bel0.below
  subst he
  exact ⟨_, rfl, _, _, _, [], _, [], hW', trodAll_mk1 (shut_bool Try.underlying4 _), (trodAll_cons_mk (Below.trod laidOut (by kernel_rfl) (of_decide_eq_true (by kernel_rfl)) k0 bel lt0) trodAll_mk0), rfl, bel.frame _, fun h => by cases h⟩
theorem over : Rows.fnExactDrawStrokesRow.holds Try.pinned (OpenSpec.ofChange Rows.fnExactDrawStrokesSpec) :=
  OpenClaim.holds_of_wide 3 Try.f3 rfl rfl rfl rfl rfl rfl rfl ⟨rfl, rfl, rfl, rfl, rfl⟩ rfl rfl rfl rfl rfl (by kernel_rfl) Try.func3 (by kernel_rfl)
    (of_decide_eq_true (by kernel_rfl)) (by unfold Func.isWrapper; first | (rw [if_pos (by decide +kernel)]; kernel_rfl) | (rw [if_neg (by decide +kernel)]; exact ⟨rfl, rfl⟩))
    (fun os started H enc _ => lifted os started H enc)
theorem proved : Rows.FnExactDrawStrokesSaid := over
#print axioms proved
end Go.Proofs.Ytkgeppbjfkhjcaa.fnExactDrawStrokes
namespace Go.Proofs.Ytkgeppbjfkhjcaa
/-- The row, under a short name, for the claim. -/
theorem fnExactDrawStrokes_holds : Rows.FnExactDrawStrokesSaid := fnExactDrawStrokes.proved
end Go.Proofs.Ytkgeppbjfkhjcaa
