/- Printed by this repository's own program (wip/tools/xprint.py) for the law FnExactCheckReach: Lean functions that say what the Go functions compute, and the proofs that the machine comes to just that; no condition beyond those in each statement. -/
import Derived.Test.YtkgeppbjfkhjcaaRows
import Derived.Test.YtkgeppbjfkhjcaaXFnExactCheckReachx9
import Derived.Test.YtkgeppbjfkhjcaaPureFnExactCheckReach
import Derived.Test.YtkgeppbjfkhjcaaXOpen
import Derived.WalkKit
import Derived.ProofKit
import Derived.OpenShut
import Derived.ShutString
import Derived.ChangeOld
import Derived.Below
import Derived.SizedLaws
namespace Go.Proofs.Ytkgeppbjfkhjcaa.fnExactCheckReach
open Go.ChangeShapes Go.WideShapes Go.ChangeAt Go.RowKit Go.Proofs.Ytkgeppbjfkhjcaa Go.Proofs.Ytkgeppbjfkhjcaa.XFnExactCheckReach Go.Proofs.YtkgeppbjfkhjcaaW.PrintWords
open Go.ChangeMaps (open_string shut_string)
set_option linter.unusedVariables false
theorem own : ownKnob Try.prog.godebug = none := by kernel_rfl
theorem laidOut : laidOutB Try.prog = true := by kernel_rfl
set_option maxRecDepth 100000 in
set_option maxHeartbeats 4000000 in
theorem lifted (os : Os) (started : os.Started) (H : Type) (enc : TypeId × Value → H) :
    ReturnsInHanded {} Try.checked os 4 .any (Rows.fnExactCheckReachSpec.pre6 enc Try.prog Try.f4 Rows.fnExactCheckReachRow.domain false) (Rows.fnExactCheckReachSpec.post enc Try.prog Try.f4 false true false false) := by
  refine returnsInHanded_of_change_sized (C := Try.checked) own started (by kernel_rfl) Try.func4
    (ChangeSpec.witness6 (enc := enc) (C := Try.checked) false ⟨#[], #[.slice none 0 0, .int .i64 0, .int .i64 0, .int .i64 0, .slice none 0 0], []⟩ 8 (by kernel_rfl) (by kernel_rfl) (by kernel_rfl) (by kernel_rfl)) ?_
  intro W base args ds gs before hval0 hW hcnd hsz0 _
  have hval : ∀ (j : Nat) t v, Try.f4.params[j]? = some t → args[j]? = some v → Value.okWide Try.prog W .any base t v := hval0
  have hW' := hW
  obtain ⟨p, q, hA0, hV, rfl, hfz, hnd⟩ := hW
  have hA : DataW.TrodAll enc Try.prog W 0 (fun _ => true) true Try.f4.params.toList args.toList ds p := hA0
  rw [Try.params4] at hA hval
  obtain ⟨v0, vs0, d0, ds0, p0, q0, hargs, rfl, rfl, h0, r0⟩ := trodAll_cons hA
  obtain ⟨v1, vs1, d1, ds1, p1, q1, rfl, rfl, rfl, h1, r1⟩ := trodAll_cons r0
  obtain ⟨v2, vs2, d2, ds2, p2, q2, rfl, rfl, rfl, h2, r2⟩ := trodAll_cons r1
  obtain ⟨v3, vs3, d3, ds3, p3, q3, rfl, rfl, rfl, h3, r3⟩ := trodAll_cons r2
  obtain ⟨v4, vs4, d4, ds4, p4, q4, rfl, rfl, rfl, h4, r4⟩ := trodAll_cons r3
  obtain ⟨rfl, rfl, rfl⟩ := trodAll_nil r4
  obtain rfl : args = #[v0, v1, v2, v3, v4] := by cases args; simp_all
  obtain ⟨rfl, rfl⟩ := trodVars_none hV
  obtain ⟨b0, len0, cap0, rfl⟩ := okWide_slice Try.underlying34 (hval 0 34 v0 rfl rfl)
  have k0 := h0
  have lt0 : ∀ x ∈ p0, x.block < W.heap.size := by obtain ⟨m, hm⟩ := k0; exact DataW.trod_lt m _ _ _ hm
  obtain ⟨l0, ⟨A0, c0, e0, hc0, hr0⟩, ok0⟩ : ∃ l, ((Kd.slice 58 (Kd.int .i16))).K W l [.slice b0 len0 cap0] ∧ (l.length ≤ maxLen ∧ ∀ x1 ∈ l, (Lit.int .i16 x1).wf = true) := by
    obtain ⟨fuel, hf⟩ := h0
    exact (XOpen.opens_slice 58 Try.underlying34 (by kernel_rfl) (XOpen.opens_int Try.underlying58)) _ _ _ _ _ _ _ _ _ hf
  obtain ⟨rfl, rfl, rfl⟩ : b0 = A0 ∧ len0 = l0.length ∧ cap0 = c0 := by simpa using e0
  obtain ⟨a1, rfl, rfl, rfl, ok1⟩ := open_int Try.underlying2 (hval 1 2 v1 rfl rfl) h1
  obtain ⟨a2, rfl, rfl, rfl, ok2⟩ := open_int Try.underlying2 (hval 2 2 v2 rfl rfl) h2
  obtain ⟨a3, rfl, rfl, rfl, ok3⟩ := open_int Try.underlying2 (hval 3 2 v3 rfl rfl) h3
  obtain ⟨b4, len4, cap4, rfl⟩ := okWide_slice Try.underlying35 (hval 4 35 v4 rfl rfl)
  have k4 := h4
  have lt4 : ∀ x ∈ p4, x.block < W.heap.size := by obtain ⟨m, hm⟩ := k4; exact DataW.trod_lt m _ _ _ hm
  obtain ⟨l4, ⟨A4, c4, e4, hc4, hr4⟩, ok4⟩ : ∃ l, ((Kd.slice 25 k25)).K W l [.slice b4 len4 cap4] ∧ (l.length ≤ maxLen ∧ ∀ x1 ∈ l, (x1.f0.length = 64 ∧ ∀ v ∈ x1.f0, (Lit.int .u64 v).wf = true)) := by
    obtain ⟨fuel, hf⟩ := h4
    exact (XOpen.opens_slice 25 Try.underlying35 (by kernel_rfl) (XOpen.opens_iso (XOpen.opens_plate Try.underlying25 Try.underlying24 (by kernel_rfl) (by kernel_rfl)) _ (fun p => (⟨p⟩ : S25)) (fun _ => rfl))) _ _ _ _ _ _ _ _ _ hf
  obtain ⟨rfl, rfl, rfl⟩ : b4 = A4 ∧ len4 = l4.length ∧ cap4 = c4 := by simpa using e4
  clear hA0 hval0 hsz0
  obtain ⟨k, h⟩ := Pure.FnExactCheckReach l0 a1 a2 a3 l4 ok0 ok1 ok2 ok3 ok4
  refine (laws_FnExactCheckReach.calls k _ _ l0 a1 a2 a3 _ _ l4 true W hr0 hc0 hr4 hc4 h).mono fun e W' ⟨he, bel0⟩ => ?_
  have bel : Below W.heap.size W W' := by first | exact bel0 | exact bel0.below
  subst he
  exact ⟨_, rfl, _, _, _, [], _, [], hW', trodAll_mk1 (shut_bool Try.underlying4 _), (trodAll_cons_mk (Below.trod laidOut (by kernel_rfl) (of_decide_eq_true (by kernel_rfl)) k0 bel lt0) (trodAll_cons_mk (shut_int Try.underlying2 ok1) (trodAll_cons_mk (shut_int Try.underlying2 ok2) (trodAll_cons_mk (shut_int Try.underlying2 ok3) (trodAll_cons_mk (Below.trod laidOut (by kernel_rfl) (of_decide_eq_true (by kernel_rfl)) k4 bel lt4) trodAll_mk0))))), rfl, bel.frame _, fun h => by cases h⟩
theorem over : Rows.fnExactCheckReachRow.holds Try.pinned (OpenSpec.ofChange Rows.fnExactCheckReachSpec) :=
  OpenClaim.holds_of_wide 4 Try.f4 rfl rfl rfl rfl rfl rfl rfl ⟨rfl, rfl, rfl, rfl, rfl⟩ rfl rfl rfl rfl rfl (by kernel_rfl) Try.func4 (by kernel_rfl)
    (of_decide_eq_true (by kernel_rfl)) (by unfold Func.isWrapper; first | (rw [if_pos (by decide +kernel)]; kernel_rfl) | (rw [if_neg (by decide +kernel)]; exact ⟨rfl, rfl⟩))
    (fun os started H enc _ => lifted os started H enc)
theorem proved : Rows.FnExactCheckReachSaid := over
#print axioms proved
end Go.Proofs.Ytkgeppbjfkhjcaa.fnExactCheckReach
namespace Go.Proofs.Ytkgeppbjfkhjcaa
/-- The row, under a short name, for the claim. -/
theorem fnExactCheckReach_holds : Rows.FnExactCheckReachSaid := fnExactCheckReach.proved
end Go.Proofs.Ytkgeppbjfkhjcaa
