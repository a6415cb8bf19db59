/- Printed by this repository's own program (wip/tools/xprint.py) for the law FnExactLeastBase: Lean functions that say what the Go functions compute, and the proofs that the machine comes to just that; no condition beyond those in each statement. -/
import Derived.Test.YtmklaccobbkebaaRows
import Derived.Test.YtmklaccobbkebaaXFnExactLeastBasex3
import Derived.Test.YtmklaccobbkebaaPureFnExactLeastBase
import Derived.Test.YtmklaccobbkebaaXOpen
import Derived.WalkKit
import Derived.ProofKit
import Derived.OpenShut
import Derived.ShutString
import Derived.ChangeOld
import Derived.Below
import Derived.SizedLaws
namespace Go.Proofs.Ytmklaccobbkebaa.fnExactLeastBase
open Go.ChangeShapes Go.WideShapes Go.ChangeAt Go.RowKit Go.Proofs.Ytmklaccobbkebaa Go.Proofs.Ytmklaccobbkebaa.XFnExactLeastBase Go.Proofs.YtmklaccobbkebaaW.PrintWords
open Go.ChangeMaps (open_string shut_string)
set_option linter.unusedVariables false
theorem own : ownKnob Try.prog.godebug = none := by kernel_rfl
theorem laidOut : laidOutB Try.prog = true := by kernel_rfl
set_option maxRecDepth 100000 in
set_option maxHeartbeats 4000000 in
theorem lifted (os : Os) (started : os.Started) (H : Type) (enc : TypeId × Value → H) :
    ReturnsInHanded {} Try.checked os 12 .any (Rows.fnExactLeastBaseSpec.pre6 enc Try.prog Try.f12 Rows.fnExactLeastBaseRow.domain false) (Rows.fnExactLeastBaseSpec.post enc Try.prog Try.f12 false true false false) := by
  refine returnsInHanded_of_change_sized (C := Try.checked) own started (by kernel_rfl) Try.func12
    (ChangeSpec.witness6 (enc := enc) (C := Try.checked) false ⟨#[], #[.slice none 0 0, .agg #[.int .i64 0, .int .i64 0]], []⟩ 8 (by kernel_rfl) (by kernel_rfl) (by kernel_rfl) (by kernel_rfl)) ?_
  intro W base args ds gs before hval0 hW hcnd hsz0 _
  have hval : ∀ (j : Nat) t v, Try.f12.params[j]? = some t → args[j]? = some v → Value.okWide Try.prog W .any base t v := hval0
  have hW' := hW
  obtain ⟨p, q, hA0, hV, rfl, hfz, hnd⟩ := hW
  have hA : DataW.TrodAll enc Try.prog W 0 (fun _ => true) true Try.f12.params.toList args.toList ds p := hA0
  rw [Try.params12] at hA hval
  obtain ⟨v0, vs0, d0, ds0, p0, q0, hargs, rfl, rfl, h0, r0⟩ := trodAll_cons hA
  obtain ⟨v1, vs1, d1, ds1, p1, q1, rfl, rfl, rfl, h1, r1⟩ := trodAll_cons r0
  obtain ⟨rfl, rfl, rfl⟩ := trodAll_nil r1
  obtain rfl : args = #[v0, v1] := by cases args; simp_all
  obtain ⟨rfl, rfl⟩ := trodVars_none hV
  obtain ⟨b0, len0, cap0, rfl⟩ := okWide_slice Try.underlying38 (hval 0 38 v0 rfl rfl)
  have k0 := h0
  have lt0 : ∀ x ∈ p0, x.block < W.heap.size := by obtain ⟨m, hm⟩ := k0; exact DataW.trod_lt m _ _ _ hm
  obtain ⟨l0, ⟨A0, c0, e0, hc0, hr0⟩, ok0⟩ : ∃ l, ((Kd.slice 77 (Kd.int .i16))).K W l [.slice b0 len0 cap0] ∧ (l.length ≤ maxLen ∧ ∀ x1 ∈ l, (Lit.int .i16 x1).wf = true) := by
    obtain ⟨fuel, hf⟩ := h0
    exact (XOpen.opens_slice 77 Try.underlying38 (by kernel_rfl) (XOpen.opens_int Try.underlying77)) _ _ _ _ _ _ _ _ _ hf
  obtain ⟨rfl, rfl, rfl⟩ : b0 = A0 ∧ len0 = l0.length ∧ cap0 = c0 := by simpa using e0
  obtain ⟨cs1, rfl, _⟩ := okWide_struct Try.underlying90 (hval 1 90 v1 rfl rfl)
  have k1 := h1
  have lt1 : ∀ x ∈ p1, x.block < W.heap.size := by obtain ⟨m, hm⟩ := k1; exact DataW.trod_lt m _ _ _ hm
  obtain ⟨⟨a1_0, a1_1⟩, ⟨z0, z1, e1, rfl, rfl⟩, ⟨ok1_0, ok1_1⟩⟩ : ∃ y, ((Kd.pair (Kd.int .i64) (Kd.int .i64))).K W y cs1.toList ∧ ((Lit.int .i64 y.1).wf = true ∧ (Lit.int .i64 y.2).wf = true) := by
    obtain ⟨fuel, hf⟩ := h1
    exact (XOpen.opens_struct Try.underlying90 (XOpen.opensF_cons (XOpen.opens_int Try.underlying2) (by kernel_rfl) (XOpen.opensF_last (XOpen.opens_int Try.underlying2) rfl (by kernel_rfl)))) _ _ _ _ _ _ _ _ _ hf
  have hcs1 : cs1 = #[.int .i64 a1_0, .int .i64 a1_1] := Array.toList_inj.mp e1
  subst hcs1
  clear hA0 hval0 hsz0
  obtain ⟨k, h⟩ := Pure.FnExactLeastBase l0 a1_0 a1_1 ok0 ok1_0 ok1_1
  refine (laws_FnExactLeastBase.calls k _ _ l0 a1_0 a1_1 true W hr0 hc0 h).mono fun e W' ⟨he, bel0⟩ => ?_
  have bel : Below W.heap.size W W' := by first | exact bel0 | exact bel0.below
  subst he
  exact ⟨_, rfl, _, _, _, [], _, [], hW', trodAll_mk1 (shut_bool Try.underlying4 _), (trodAll_cons_mk (Below.trod laidOut (by kernel_rfl) (of_decide_eq_true (by kernel_rfl)) k0 bel lt0) (trodAll_cons_mk (Below.trod laidOut (by kernel_rfl) (of_decide_eq_true (by kernel_rfl)) k1 bel lt1) trodAll_mk0)), rfl, bel.frame _, fun h => by cases h⟩
theorem over : Rows.fnExactLeastBaseRow.holds Try.pinned (OpenSpec.ofChange Rows.fnExactLeastBaseSpec) :=
  OpenClaim.holds_of_wide 12 Try.f12 rfl rfl rfl rfl rfl rfl rfl ⟨rfl, rfl, rfl, rfl, rfl⟩ rfl rfl rfl rfl rfl (by kernel_rfl) Try.func12 (by kernel_rfl)
    (of_decide_eq_true (by kernel_rfl)) (by unfold Func.isWrapper; first | (rw [if_pos (by decide +kernel)]; kernel_rfl) | (rw [if_neg (by decide +kernel)]; exact ⟨rfl, rfl⟩))
    (fun os started H enc _ => lifted os started H enc)
theorem proved : Rows.FnExactLeastBaseSaid := over
#print axioms proved
end Go.Proofs.Ytmklaccobbkebaa.fnExactLeastBase
namespace Go.Proofs.Ytmklaccobbkebaa
/-- The row, under a short name, for the claim. -/
theorem fnExactLeastBase_holds : Rows.FnExactLeastBaseSaid := fnExactLeastBase.proved
end Go.Proofs.Ytmklaccobbkebaa
