/- Printed by this repository's own program (wip/tools/xprint.py) for the law FnExactFastestMove: Lean functions that say what the Go functions compute, and the proofs that the machine comes to just that; no condition beyond those in each statement. -/
import Derived.Test.YtboicfocaoohmaaRows
import Derived.Test.YtboicfocaoohmaaXFnExactFastestMovex7
import Derived.Test.YtboicfocaoohmaaPureFnExactFastestMove
import Derived.Test.YtboicfocaoohmaaXOpen
import Derived.WalkKit
import Derived.ProofKit
import Derived.OpenShut
import Derived.ShutString
import Derived.ChangeOld
import Derived.Below
import Derived.SizedLaws
namespace Go.Proofs.Ytboicfocaoohmaa.fnExactFastestMove
open Go.ChangeShapes Go.WideShapes Go.ChangeAt Go.RowKit Go.Proofs.Ytboicfocaoohmaa Go.Proofs.Ytboicfocaoohmaa.XFnExactFastestMove Go.Proofs.YtboicfocaoohmaaW.PrintWords
open Go.ChangeMaps (open_string shut_string)
set_option linter.unusedVariables false
theorem own : ownKnob Try.prog.godebug = none := by kernel_rfl
theorem laidOut : laidOutB Try.prog = true := by kernel_rfl
set_option maxRecDepth 100000 in
set_option maxHeartbeats 4000000 in
theorem lifted (os : Os) (started : os.Started) (H : Type) (enc : TypeId × Value → H) :
    ReturnsInHanded {} Try.checked os 7 .any (Rows.fnExactFastestMoveSpec.pre6 enc Try.prog Try.f7 Rows.fnExactFastestMoveRow.domain false) (Rows.fnExactFastestMoveSpec.post enc Try.prog Try.f7 false true false false) := by
  refine returnsInHanded_of_change_sized (C := Try.checked) own started (by kernel_rfl) Try.func7
    (ChangeSpec.witness6 (enc := enc) (C := Try.checked) false ⟨#[], #[.agg #[.slice none 0 0, .slice none 0 0, .slice none 0 0]], []⟩ 8 (by kernel_rfl) (by kernel_rfl) (by kernel_rfl) (by kernel_rfl)) ?_
  intro W base args ds gs before hval0 hW hcnd hsz0 _
  have hval : ∀ (j : Nat) t v, Try.f7.params[j]? = some t → args[j]? = some v → Value.okWide Try.prog W .any base t v := hval0
  have hW' := hW
  obtain ⟨p, q, hA0, hV, rfl, hfz, hnd⟩ := hW
  have hA : DataW.TrodAll enc Try.prog W 0 (fun _ => true) true Try.f7.params.toList args.toList ds p := hA0
  rw [Try.params7] at hA hval
  obtain ⟨v0, vs0, d0, ds0, p0, q0, hargs, rfl, rfl, h0, r0⟩ := trodAll_cons hA
  obtain ⟨rfl, rfl, rfl⟩ := trodAll_nil r0
  obtain rfl : args = #[v0] := by cases args; simp_all
  obtain ⟨rfl, rfl⟩ := trodVars_none hV
  obtain ⟨cs0, rfl, _⟩ := okWide_struct Try.underlying54 (hval 0 54 v0 rfl rfl)
  have k0 := h0
  have lt0 : ∀ x ∈ p0, x.block < W.heap.size := by obtain ⟨m, hm⟩ := k0; exact DataW.trod_lt m _ _ _ hm
  obtain ⟨⟨l0_0, l0_1, l0_2⟩, ⟨z0, z1, e0, ⟨A0_0, c0_0, rfl, hc0_0, hr0_0⟩, ⟨_, _, rfl, ⟨A0_1, c0_1, rfl, hc0_1, hr0_1⟩, ⟨A0_2, c0_2, rfl, hc0_2, hr0_2⟩⟩⟩, ⟨ok0_0, ok0_1, ok0_2⟩⟩ : ∃ y, ((Kd.pair (Kd.slice 41 (Kd.int .i16)) (Kd.pair (Kd.slice 41 (Kd.int .i16)) (Kd.slice 41 (Kd.int .i16))))).K W y cs0.toList ∧ ((y.1.length ≤ maxLen ∧ ∀ x4 ∈ y.1, (Lit.int .i16 x4).wf = true) ∧ (y.2.1.length ≤ maxLen ∧ ∀ x7 ∈ y.2.1, (Lit.int .i16 x7).wf = true) ∧ (y.2.2.length ≤ maxLen ∧ ∀ x7 ∈ y.2.2, (Lit.int .i16 x7).wf = true)) := by
    obtain ⟨fuel, hf⟩ := h0
    exact (XOpen.opens_struct Try.underlying54 (XOpen.opensF_cons (XOpen.opens_slice 41 Try.underlying22 (by kernel_rfl) (XOpen.opens_int Try.underlying41)) (by kernel_rfl) (XOpen.opensF_cons (XOpen.opens_slice 41 Try.underlying22 (by kernel_rfl) (XOpen.opens_int Try.underlying41)) (by kernel_rfl) (XOpen.opensF_last (XOpen.opens_slice 41 Try.underlying22 (by kernel_rfl) (XOpen.opens_int Try.underlying41)) rfl (by kernel_rfl))))) _ _ _ _ _ _ _ _ _ hf
  have hcs0 : cs0 = #[.slice A0_0 l0_0.length c0_0, .slice A0_1 l0_1.length c0_1, .slice A0_2 l0_2.length c0_2] := Array.toList_inj.mp e0
  subst hcs0
  clear hA0 hval0 hsz0
  obtain ⟨k, h⟩ := Pure.FnExactFastestMove l0_0 l0_1 l0_2 ok0_0 ok0_1 ok0_2
  refine (laws_FnExactFastestMove.calls k _ _ l0_0 _ _ l0_1 _ _ l0_2 true W hr0_0 hc0_0 hr0_1 hc0_1 hr0_2 hc0_2 h).mono fun e W' ⟨he, bel0⟩ => ?_
  have bel : Below W.heap.size W W' := by first | exact bel0 | exact bel0.below
  subst he
  exact ⟨_, rfl, _, _, _, [], _, [], hW', trodAll_mk1 (shut_bool Try.underlying4 _), (trodAll_cons_mk (Below.trod laidOut (by kernel_rfl) (of_decide_eq_true (by kernel_rfl)) k0 bel lt0) trodAll_mk0), rfl, bel.frame _, fun h => by cases h⟩
theorem over : Rows.fnExactFastestMoveRow.holds Try.pinned (OpenSpec.ofChange Rows.fnExactFastestMoveSpec) :=
  OpenClaim.holds_of_wide 7 Try.f7 rfl rfl rfl rfl rfl rfl rfl ⟨rfl, rfl, rfl, rfl, rfl⟩ rfl rfl rfl rfl rfl (by kernel_rfl) Try.func7 (by kernel_rfl)
    (of_decide_eq_true (by kernel_rfl)) (by unfold Func.isWrapper; first | (rw [if_pos (by decide +kernel)]; kernel_rfl) | (rw [if_neg (by decide +kernel)]; exact ⟨rfl, rfl⟩))
    (fun os started H enc _ => lifted os started H enc)
theorem proved : Rows.FnExactFastestMoveSaid := over
#print axioms proved
end Go.Proofs.Ytboicfocaoohmaa.fnExactFastestMove
namespace Go.Proofs.Ytboicfocaoohmaa
/-- The row, under a short name, for the claim. -/
theorem fnExactFastestMove_holds : Rows.FnExactFastestMoveSaid := fnExactFastestMove.proved
end Go.Proofs.Ytboicfocaoohmaa
