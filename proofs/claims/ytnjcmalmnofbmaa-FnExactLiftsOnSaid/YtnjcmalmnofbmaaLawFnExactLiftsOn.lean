/- Printed by this repository's own program (wip/tools/xprint.py) for the law FnExactLiftsOn: Lean functions that say what the Go functions compute, and the proofs that the machine comes to just that; no condition beyond those in each statement. -/
import Derived.Test.YtnjcmalmnofbmaaRows
import Derived.Test.YtnjcmalmnofbmaaXFnExactLiftsOnx7
import Derived.Test.YtnjcmalmnofbmaaPureFnExactLiftsOn
import Derived.Test.YtnjcmalmnofbmaaXOpen
import Derived.WalkKit
import Derived.ProofKit
import Derived.OpenShut
import Derived.ShutString
import Derived.ChangeOld
import Derived.Below
import Derived.SizedLaws
namespace Go.Proofs.Ytnjcmalmnofbmaa.fnExactLiftsOn
open Go.ChangeShapes Go.WideShapes Go.ChangeAt Go.RowKit Go.Proofs.Ytnjcmalmnofbmaa Go.Proofs.Ytnjcmalmnofbmaa.XFnExactLiftsOn Go.Proofs.YtnjcmalmnofbmaaW.PrintWords
open Go.ChangeMaps (open_string shut_string)
set_option linter.unusedVariables false
theorem own : ownKnob Try.prog.godebug = none := by kernel_rfl
theorem laidOut : laidOutB Try.prog = true := by kernel_rfl
set_option maxRecDepth 100000 in
set_option maxHeartbeats 4000000 in
theorem lifted (os : Os) (started : os.Started) (H : Type) (enc : TypeId × Value → H) :
    ReturnsInHanded {} Try.checked os 12 .any (Rows.fnExactLiftsOnSpec.pre6 enc Try.prog Try.f12 Rows.fnExactLiftsOnRow.domain false) (Rows.fnExactLiftsOnSpec.post enc Try.prog Try.f12 false true false false) := by
  refine returnsInHanded_of_change_sized (C := Try.checked) own started (by kernel_rfl) Try.func12
    (ChangeSpec.witness6 (enc := enc) (C := Try.checked) false ⟨#[], #[.slice none 0 0, .int .i64 0], []⟩ 8 (by kernel_rfl) (by kernel_rfl) (by kernel_rfl) (by kernel_rfl)) ?_
  intro W base args ds gs before hval0 hW hcnd hsz0 _
  have hval : ∀ (j : Nat) t v, Try.f12.params[j]? = some t → args[j]? = some v → Value.okWide Try.prog W .any base t v := hval0
  have hW' := hW
  obtain ⟨p, q, hA0, hV, rfl, hfz, hnd⟩ := hW
  have hA : DataW.TrodAll enc Try.prog W 0 (fun _ => true) true Try.f12.params.toList args.toList ds p := hA0
  rw [Try.params12] at hA hval
  obtain ⟨v0, vs0, d0, ds0, p0, q0, hargs, rfl, rfl, h0, r0⟩ := trodAll_cons hA
  obtain ⟨v1, vs1, d1, ds1, p1, q1, rfl, rfl, rfl, h1, r1⟩ := trodAll_cons r0
  obtain ⟨rfl, rfl, rfl⟩ := trodAll_nil r1
  obtain rfl : args = #[v0, v1] := by cases args; simp_all
  obtain ⟨rfl, rfl⟩ := trodVars_none hV
  obtain ⟨b0, len0, cap0, rfl⟩ := okWide_slice Try.underlying87 (hval 0 87 v0 rfl rfl)
  have k0 := h0
  have lt0 : ∀ x ∈ p0, x.block < W.heap.size := by obtain ⟨m, hm⟩ := k0; exact DataW.trod_lt m _ _ _ hm
  obtain ⟨l0, ⟨A0, c0, e0, hc0, hr0⟩, ok0⟩ : ∃ l, ((Kd.slice 161 k161)).K W l [.slice b0 len0 cap0] ∧ (l.length ≤ maxLen ∧ ∀ x1 ∈ l, ((Lit.int .i16 x1.f0).wf = true ∧ (Lit.int .i16 x1.f1).wf = true ∧ (Lit.int .i16 x1.f2).wf = true ∧ (x1.f3.length ≤ maxLen ∧ ∀ x6 ∈ x1.f3, (Lit.int .i16 x6).wf = true))) := by
    obtain ⟨fuel, hf⟩ := h0
    exact (XOpen.opens_slice 161 Try.underlying87 (by kernel_rfl) (XOpen.opens_iso (XOpen.opens_struct Try.underlying161 (XOpen.opensF_cons (XOpen.opens_int Try.underlying38) (by kernel_rfl) (XOpen.opensF_cons (XOpen.opens_int Try.underlying38) (by kernel_rfl) (XOpen.opensF_cons (XOpen.opens_int Try.underlying38) (by kernel_rfl) (XOpen.opensF_last (XOpen.opens_slice 38 Try.underlying22 (by kernel_rfl) (XOpen.opens_int Try.underlying38)) rfl (by kernel_rfl)))))) _ (fun p => (⟨p.1, p.2.1, p.2.2.1, p.2.2.2⟩ : S161)) (fun _ => rfl))) _ _ _ _ _ _ _ _ _ hf
  obtain ⟨rfl, rfl, rfl⟩ : b0 = A0 ∧ len0 = l0.length ∧ cap0 = c0 := by simpa using e0
  obtain ⟨a1, rfl, rfl, rfl, ok1⟩ := open_int Try.underlying2 (hval 1 2 v1 rfl rfl) h1
  clear hA0 hval0 hsz0
  obtain ⟨k, h⟩ := Pure.FnExactLiftsOn l0 a1 ok0 ok1
  refine (laws_FnExactLiftsOn.calls k _ _ l0 a1 true W hr0 hc0 h).mono fun e W' ⟨he, bel0⟩ => ?_
  have bel : Below W.heap.size W W' := by first | exact bel0 | exact bel0.below
  subst he
  exact ⟨_, rfl, _, _, _, [], _, [], hW', trodAll_mk1 (shut_bool Try.underlying4 _), (trodAll_cons_mk (Below.trod laidOut (by kernel_rfl) (of_decide_eq_true (by kernel_rfl)) k0 bel lt0) (trodAll_cons_mk (shut_int Try.underlying2 ok1) trodAll_mk0)), rfl, bel.frame _, fun h => by cases h⟩
theorem over : Rows.fnExactLiftsOnRow.holds Try.pinned (OpenSpec.ofChange Rows.fnExactLiftsOnSpec) :=
  OpenClaim.holds_of_wide 12 Try.f12 rfl rfl rfl rfl rfl rfl rfl ⟨rfl, rfl, rfl, rfl, rfl⟩ rfl rfl rfl rfl rfl (by kernel_rfl) Try.func12 (by kernel_rfl)
    (of_decide_eq_true (by kernel_rfl)) (by unfold Func.isWrapper; first | (rw [if_pos (by decide +kernel)]; kernel_rfl) | (rw [if_neg (by decide +kernel)]; exact ⟨rfl, rfl⟩))
    (fun os started H enc _ => lifted os started H enc)
theorem proved : Rows.FnExactLiftsOnSaid := over
#print axioms proved
end Go.Proofs.Ytnjcmalmnofbmaa.fnExactLiftsOn
namespace Go.Proofs.Ytnjcmalmnofbmaa
/-- The row, under a short name, for the claim. -/
theorem fnExactLiftsOn_holds : Rows.FnExactLiftsOnSaid := fnExactLiftsOn.proved
end Go.Proofs.Ytnjcmalmnofbmaa
