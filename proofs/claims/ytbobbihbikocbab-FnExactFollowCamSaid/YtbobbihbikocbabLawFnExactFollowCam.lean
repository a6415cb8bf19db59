/- Printed by this repository's own program (wip/tools/xprint.py) for the law FnExactFollowCam: Lean functions that say what the Go functions compute, and the proofs that the machine comes to just that; no condition beyond those in each statement. -/
import Derived.Test.YtbobbihbikocbabRows
import Derived.Test.YtbobbihbikocbabXFnExactFollowCamx5
import Derived.Test.YtbobbihbikocbabPureFnExactFollowCam
import Derived.Test.YtbobbihbikocbabXOpen
import Derived.WalkKit
import Derived.ProofKit
import Derived.OpenShut
import Derived.ShutString
import Derived.ChangeOld
import Derived.Below
import Derived.SizedLaws
namespace Go.Proofs.Ytbobbihbikocbab.fnExactFollowCam
open Go.ChangeShapes Go.WideShapes Go.ChangeAt Go.RowKit Go.Proofs.Ytbobbihbikocbab Go.Proofs.Ytbobbihbikocbab.XFnExactFollowCam Go.Proofs.YtbobbihbikocbabW.PrintWords
open Go.ChangeMaps (open_string shut_string)
set_option linter.unusedVariables false
theorem own : ownKnob Try.prog.godebug = none := by kernel_rfl
theorem laidOut : laidOutB Try.prog = true := by kernel_rfl
set_option maxRecDepth 100000 in
set_option maxHeartbeats 4000000 in
theorem lifted (os : Os) (started : os.Started) (H : Type) (enc : TypeId × Value → H) :
    ReturnsInHanded {} Try.checked os 4 .any (Rows.fnExactFollowCamSpec.pre6 enc Try.prog Try.f4 Rows.fnExactFollowCamRow.domain false) (Rows.fnExactFollowCamSpec.post enc Try.prog Try.f4 false true false false) := by
  refine returnsInHanded_of_change_sized (C := Try.checked) own started (by kernel_rfl) Try.func4
    (ChangeSpec.witness6 (enc := enc) (C := Try.checked) false ⟨#[], #[.slice none 0 0, .agg #[.int .i64 0, .int .i64 0], .int .i64 0], []⟩ 8 (by kernel_rfl) (by kernel_rfl) (by kernel_rfl) (by kernel_rfl)) ?_
  intro W base args ds gs before hval0 hW hcnd hsz0 _
  have hval : ∀ (j : Nat) t v, Try.f4.params[j]? = some t → args[j]? = some v → Value.okWide Try.prog W .any base t v := hval0
  have hW' := hW
  obtain ⟨p, q, hA0, hV, rfl, hfz, hnd⟩ := hW
  have hA : DataW.TrodAll enc Try.prog W 0 (fun _ => true) true Try.f4.params.toList args.toList ds p := hA0
  rw [Try.params4] at hA hval
  obtain ⟨v0, vs0, d0, ds0, p0, q0, hargs, rfl, rfl, h0, r0⟩ := trodAll_cons hA
  obtain ⟨v1, vs1, d1, ds1, p1, q1, rfl, rfl, rfl, h1, r1⟩ := trodAll_cons r0
  obtain ⟨v2, vs2, d2, ds2, p2, q2, rfl, rfl, rfl, h2, r2⟩ := trodAll_cons r1
  obtain ⟨rfl, rfl, rfl⟩ := trodAll_nil r2
  obtain rfl : args = #[v0, v1, v2] := by cases args; simp_all
  obtain ⟨rfl, rfl⟩ := trodVars_none hV
  obtain ⟨b0, len0, cap0, rfl⟩ := okWide_slice Try.underlying22 (hval 0 22 v0 rfl rfl)
  have k0 := h0
  have lt0 : ∀ x ∈ p0, x.block < W.heap.size := by obtain ⟨m, hm⟩ := k0; exact DataW.trod_lt m _ _ _ hm
  obtain ⟨l0, ⟨A0, c0, e0, hc0, hr0⟩, ok0⟩ : ∃ l, ((Kd.slice 86 (Kd.int .i16))).K W l [.slice b0 len0 cap0] ∧ (l.length ≤ maxLen ∧ ∀ x1 ∈ l, (Lit.int .i16 x1).wf = true) := by
    obtain ⟨fuel, hf⟩ := h0
    exact (XOpen.opens_slice 86 Try.underlying22 (by kernel_rfl) (XOpen.opens_int Try.underlying86)) _ _ _ _ _ _ _ _ _ hf
  obtain ⟨rfl, rfl, rfl⟩ : b0 = A0 ∧ len0 = l0.length ∧ cap0 = c0 := by simpa using e0
  obtain ⟨cs1, rfl, _⟩ := okWide_struct Try.underlying35 (hval 1 35 v1 rfl rfl)
  have k1 := h1
  have lt1 : ∀ x ∈ p1, x.block < W.heap.size := by obtain ⟨m, hm⟩ := k1; exact DataW.trod_lt m _ _ _ hm
  obtain ⟨⟨a1_0, a1_1⟩, ⟨z0, z1, e1, rfl, rfl⟩, ⟨ok1_0, ok1_1⟩⟩ : ∃ y, ((Kd.pair (Kd.int .i64) (Kd.int .i64))).K W y cs1.toList ∧ ((Lit.int .i64 y.1).wf = true ∧ (Lit.int .i64 y.2).wf = true) := by
    obtain ⟨fuel, hf⟩ := h1
    exact (XOpen.opens_struct Try.underlying35 (XOpen.opensF_cons (XOpen.opens_int Try.underlying2) (by kernel_rfl) (XOpen.opensF_last (XOpen.opens_int Try.underlying2) rfl (by kernel_rfl)))) _ _ _ _ _ _ _ _ _ hf
  have hcs1 : cs1 = #[.int .i64 a1_0, .int .i64 a1_1] := Array.toList_inj.mp e1
  subst hcs1
  obtain ⟨a2, rfl, rfl, rfl, ok2⟩ := open_int Try.underlying2 (hval 2 2 v2 rfl rfl) h2
  clear hA0 hval0 hsz0
  obtain ⟨k, h⟩ := Pure.FnExactFollowCam l0 a1_0 a1_1 a2 ok0 ok1_0 ok1_1 ok2
  refine (laws_FnExactFollowCam.calls k _ _ l0 a1_0 a1_1 a2 true W hr0 hc0 h).mono fun e W' ⟨he, bel0⟩ => ?_
  have bel : Below W.heap.size W W' := by first | exact bel0 | exact bel0.below
  subst he
  exact ⟨_, rfl, _, _, _, [], _, [], hW', trodAll_mk1 (shut_bool Try.underlying4 _), (trodAll_cons_mk (Below.trod laidOut (by kernel_rfl) (of_decide_eq_true (by kernel_rfl)) k0 bel lt0) (trodAll_cons_mk (Below.trod laidOut (by kernel_rfl) (of_decide_eq_true (by kernel_rfl)) k1 bel lt1) (trodAll_cons_mk (shut_int Try.underlying2 ok2) trodAll_mk0))), rfl, bel.frame _, fun h => by cases h⟩
theorem over : Rows.fnExactFollowCamRow.holds Try.pinned (OpenSpec.ofChange Rows.fnExactFollowCamSpec) :=
  OpenClaim.holds_of_wide 4 Try.f4 rfl rfl rfl rfl rfl rfl rfl ⟨rfl, rfl, rfl, rfl, rfl⟩ rfl rfl rfl rfl rfl (by kernel_rfl) Try.func4 (by kernel_rfl)
    (of_decide_eq_true (by kernel_rfl)) (by unfold Func.isWrapper; first | (rw [if_pos (by decide +kernel)]; kernel_rfl) | (rw [if_neg (by decide +kernel)]; exact ⟨rfl, rfl⟩))
    (fun os started H enc _ => lifted os started H enc)
theorem proved : Rows.FnExactFollowCamSaid := over
#print axioms proved
end Go.Proofs.Ytbobbihbikocbab.fnExactFollowCam
namespace Go.Proofs.Ytbobbihbikocbab
/-- The row, under a short name, for the claim. -/
theorem fnExactFollowCam_holds : Rows.FnExactFollowCamSaid := fnExactFollowCam.proved
end Go.Proofs.Ytbobbihbikocbab
