/- Printed by this repository's own program (wip/tools/xprint.py) for the law FnExactJoinPrograms: Lean functions that say what the Go functions compute, and the proofs that the machine comes to just that; no condition beyond those in each statement. -/
import Derived.Test.YtnjcmalmnofbmaaXFnExactJoinProgramsx0
import Derived.Test.YtnjcmalmnofbmaaXFnExactJoinProgramsx1
import Derived.Test.YtnjcmalmnofbmaaXFnExactJoinProgramsx2
import Derived.Test.YtnjcmalmnofbmaaXFnExactJoinProgramsx3
import Derived.Test.YtnjcmalmnofbmaaXFnExactJoinProgramsx5
import Derived.Test.YtnjcmalmnofbmaaXFnExactJoinProgramsx6
namespace Go.Proofs.Ytnjcmalmnofbmaa.XFnExactJoinPrograms
open Go.RowKit Go.Proofs.YtnjcmalmnofbmaaW.PrintWords Go.Proofs.YtnjcmalmnofbmaaW.PrintLast Go.Proofs.YtnjcmalmnofbmaaW.PrintMore
attribute [local go_sem] max2_int min2_int max_two min_two max_three min_three max_four min_four   -- for this text's walks alone
set_option linter.unusedVariables false
set_option linter.unusedSimpArgs false

set_option maxHeartbeats 8000000 in
set_option maxRecDepth 100000 in
theorem laws_FnExactJoinPrograms.calls (k : Nat) (a0_0 : Int) (A0_1 : Option Addr) (c0_1 : Nat) (l0_1 : List (S176)) (a1_0 : Int) (A1_1 : Option Addr) (c1_1 : Nat) (l1_1 : List (S176)) (r : Bool) (w : World) (hr0_1 : Kd.C k176 w A0_1 l0_1.length l0_1) (hc0_1 : l0_1.length ≤ c0_1) (hr1_1 : Kd.C k176 w A1_1 l1_1.length l1_1) (hc1_1 : l1_1.length ≤ c1_1) (h : laws_FnExactJoinPrograms.f k a0_0 l0_1 a1_0 l1_1 = some r) :
    Calls Try.prog 8 #[.agg #[.int .i16 a0_0, .slice A0_1 l0_1.length c0_1], .agg #[.int .i16 a1_0, .slice A1_1 l1_1.length c1_1]] w fun e w' => e = .returned (.bool r) ∧ Below w.heap.size w w' := by
 have hu41 := Try.underlying41
 have hu45 := Try.underlying45
 have HR0_1 := Aside0.mk hr0_1
 have HC0_1 := Aside0.mk hc0_1
 clear hr0_1 hc0_1
 have HR1_1 := Aside0.mk hr1_1
 have HC1_1 := Aside0.mk hc1_1
 clear hr1_1 hc1_1
 have HB := Aside0.mk (Below.refl w.heap.size w)
 have H : ((laws_szProgram.f a0_0 l0_1 1048576).bind fun t223 => (if t223 < 0 then (some true) else ((laws_szProgram.f a1_0 l1_1 t223).bind fun t224 => (if t224 < 0 then (some true) else ((laws_toProgram.f k a0_0 l0_1).bind fun bt225 => ((laws_toProgram.f k a1_0 l1_1).bind fun bt229 => ((spec_JoinPrograms.f k bt225.1 bt225.2 bt229.1 bt229.2).bind fun bt233 => ((laws_toProgram.f k a0_0 l0_1).bind fun bt239 => ((laws_toProgram.f k a1_0 l1_1).bind fun bt244 => ((impl_JoinPrograms.f k bt239.1 bt239.2 bt244.1 bt244.2).bind fun bt249 => ((laws_eqProgram.f k bt249.1 bt249.2.1 bt233.1 bt233.2.1).bind fun t255 => (if t255 = true then (laws_FnExactJoinPrograms.j0 k bt233.2.2 bt249.2.2 (bt249.2.2 != bt233.2.2) a0_0 l0_1 a1_0 l1_1 bt233.1 bt233.2.1 bt239.1 bt239.2 bt244.1 bt244.2 bt249.1 bt249.2.1) else (laws_FnExactJoinPrograms.j0 k bt233.2.2 bt249.2.2 true a0_0 l0_1 a1_0 l1_1 bt233.1 bt233.2.1 bt239.1 bt239.2 bt244.1 bt244.2 bt249.1 bt249.2.1))))))))))))) = some r := h
 clear h
 replace H := Option.bind_eq_some_iff.mp H
 obtain ⟨t223, A30, H⟩ := H
 replace H : (if t223 < 0 then (some true) else ((laws_szProgram.f a1_0 l1_1 t223).bind fun t224 => (if t224 < 0 then (some true) else ((laws_toProgram.f k a0_0 l0_1).bind fun bt225 => ((laws_toProgram.f k a1_0 l1_1).bind fun bt229 => ((spec_JoinPrograms.f k bt225.1 bt225.2 bt229.1 bt229.2).bind fun bt233 => ((laws_toProgram.f k a0_0 l0_1).bind fun bt239 => ((laws_toProgram.f k a1_0 l1_1).bind fun bt244 => ((impl_JoinPrograms.f k bt239.1 bt239.2 bt244.1 bt244.2).bind fun bt249 => ((laws_eqProgram.f k bt249.1 bt249.2.1 bt233.1 bt233.2.1).bind fun t255 => (if t255 = true then (laws_FnExactJoinPrograms.j0 k bt233.2.2 bt249.2.2 (bt249.2.2 != bt233.2.2) a0_0 l0_1 a1_0 l1_1 bt233.1 bt233.2.1 bt239.1 bt239.2 bt244.1 bt244.2 bt249.1 bt249.2.1) else (laws_FnExactJoinPrograms.j0 k bt233.2.2 bt249.2.2 true a0_0 l0_1 a1_0 l1_1 bt233.1 bt233.2.1 bt239.1 bt239.2 bt244.1 bt244.2 bt249.1 bt249.2.1)))))))))))) = some r := H
 have A3 := Aside0.mk A30
 clear A30
 by_cases c4 : t223 < 0
 ·rw [if_pos c4] at H
  have c4b0 : decide (t223 < 0) = true := decide_eq_true c4
  clear c4
  obtain rfl := Option.some.inj H
  go_enter Try.func8, Try.ntmps8
  go_wp2_with (first | ((with_reducible refine gate_dst (N := 2) rfl ?_); refine box_event ?hg (N := 2) ?hd (cs := #[.int .i16 a0_0, .slice A0_1 l0_1.length c0_1]) (t := 41) ?hr ?_; (case hd => rfl); (case hg => rfl); (case hr => exact a101_); intro gb221 hg w5 hbox hb; have n0_ := Aside0.mk (below_step a27_ hb); have n1_ := Aside0.mk (hbox); have n2_ := Aside0.mk ((a91_ : w.heap.size ≤ gb221)); have n3_ := Aside0.mk ((a91_ : w.heap.size ≤ gb221)); clear HB; have HB := n0_; have BK221 := n1_; have GW221 := n2_; have GE221 := n3_; clear n0_ n1_ n2_ n3_; clear hb hbox hg) | ((with_reducible refine gate_dst (N := 3) rfl ?_); refine box_event ?hg (N := 3) ?hd (cs := #[.int .i16 a1_0, .slice A1_1 l1_1.length c1_1]) (t := 41) ?hr ?_; (case hd => rfl); (case hg => rfl); (case hr => exact a101_); intro gb222 hg w6 hbox hb; have n0_ := Aside0.mk (blk_below (g := gb221) a2_ hb); have n1_ := Aside0.mk (below_step a22_ hb); have n2_ := Aside0.mk (hbox); have n3_ := Aside0.mk ((a92_ : w.heap.size ≤ gb222)); have n4_ := Aside0.mk ((a92_ : w.heap.size ≤ gb222)); have n5_ := Aside0.mk ((a77_ : gb221 ≠ gb222)); have n6_ := Aside0.mk ((a78_ : gb222 ≠ gb221)); clear BK221; clear HB; have BK221 := n0_; have HB := n1_; have BK222 := n2_; have GW222 := n3_; have GE222 := n4_; have NB221_222 := n5_; have NB222_221 := n6_; clear n0_ n1_ n2_ n3_ n4_ n5_ n6_; clear hb hbox hg; have hnb7 := NB221_222.out; have hnc7 := NB222_221.out; have hcz8_0 : w6.cell? ⟨gb221, 0, none⟩ = some (.int .i16 a0_0) := (blk_cell BK221.out 0).trans rfl; have hcz8_1 : w6.cell? ⟨gb221, 1, none⟩ = some (.slice A0_1 l0_1.length c0_1) := (blk_cell BK221.out 1).trans rfl; have hfz8_0 := blk_frozen BK221.out 0; have hfz8_1 := blk_frozen BK221.out 1) | ((with_reducible refine gate_callee (f := 28) rfl ?_); refine goesL_ (some 19) rfl rfl Try.func28 (by kernel_rfl) rfl #[.agg #[.int .i16 a0_0, .slice A0_1 l0_1.length c0_1], .int .i64 1048576] rfl a6_ ?_; (with_reducible refine (laws_szProgram.calls a0_0 _ _ l0_1 1048576 t223 _ ?side1 ?side2 A3.out).mono ?_); (case side1 => exact a95_); (case side2 => exact HC0_1.out); rintro e w9 ⟨rfl, hb⟩; refine ⟨_, rfl, ?_⟩; have n0_ := Aside0.mk (blk_below (g := gb221) a2_ hb); have n1_ := Aside0.mk (blk_below (g := gb222) a3_ hb); have n2_ := Aside0.mk (below_step a15_ hb); clear BK221; clear BK222; clear HB; have BK221 := n0_; have BK222 := n1_; have HB := n2_; clear n0_ n1_ n2_; (try clear hb); (try clear hb2); (try clear hk); (try clear hi)))
  go_ret
  exact ⟨by first | rfl | (simp [errW_none, errW_some] <;> rfl) | (simp [*, errW_none, errW_some] <;> rfl), by repeat (first | (with_reducible first | exact HB.out | apply below_alloc | apply pw_below_drewN | apply below_drew1 | refine below_set ?_ GE221.out | refine below_set ?_ GE222.out) | exact HB.out)⟩
 ·rw [if_neg c4] at H
  have c4b0 : decide (t223 < 0) = false := decide_eq_false c4
  clear c4
  replace H := Option.bind_eq_some_iff.mp H
  obtain ⟨t224, A100, H⟩ := H
  replace H : (if t224 < 0 then (some true) else ((laws_toProgram.f k a0_0 l0_1).bind fun bt225 => ((laws_toProgram.f k a1_0 l1_1).bind fun bt229 => ((spec_JoinPrograms.f k bt225.1 bt225.2 bt229.1 bt229.2).bind fun bt233 => ((laws_toProgram.f k a0_0 l0_1).bind fun bt239 => ((laws_toProgram.f k a1_0 l1_1).bind fun bt244 => ((impl_JoinPrograms.f k bt239.1 bt239.2 bt244.1 bt244.2).bind fun bt249 => ((laws_eqProgram.f k bt249.1 bt249.2.1 bt233.1 bt233.2.1).bind fun t255 => (if t255 = true then (laws_FnExactJoinPrograms.j0 k bt233.2.2 bt249.2.2 (bt249.2.2 != bt233.2.2) a0_0 l0_1 a1_0 l1_1 bt233.1 bt233.2.1 bt239.1 bt239.2 bt244.1 bt244.2 bt249.1 bt249.2.1) else (laws_FnExactJoinPrograms.j0 k bt233.2.2 bt249.2.2 true a0_0 l0_1 a1_0 l1_1 bt233.1 bt233.2.1 bt239.1 bt239.2 bt244.1 bt244.2 bt249.1 bt249.2.1)))))))))) = some r := H
  have A10 := Aside0.mk A100
  clear A100
  by_cases c11 : t224 < 0
  ·rw [if_pos c11] at H
   have c11b0 : decide (t224 < 0) = true := decide_eq_true c11
   clear c11
   obtain rfl := Option.some.inj H
   go_enter Try.func8, Try.ntmps8
   go_wp2_with (first | ((with_reducible refine gate_dst (N := 2) rfl ?_); refine box_event ?hg (N := 2) ?hd (cs := #[.int .i16 a0_0, .slice A0_1 l0_1.length c0_1]) (t := 41) ?hr ?_; (case hd => rfl); (case hg => rfl); (case hr => exact a101_); intro gb221 hg w12 hbox hb; have n0_ := Aside0.mk (below_step a27_ hb); have n1_ := Aside0.mk (hbox); have n2_ := Aside0.mk ((a91_ : w.heap.size ≤ gb221)); have n3_ := Aside0.mk ((a91_ : w.heap.size ≤ gb221)); clear HB; have HB := n0_; have BK221 := n1_; have GW221 := n2_; have GE221 := n3_; clear n0_ n1_ n2_ n3_; clear hb hbox hg) | ((with_reducible refine gate_dst (N := 3) rfl ?_); refine box_event ?hg (N := 3) ?hd (cs := #[.int .i16 a1_0, .slice A1_1 l1_1.length c1_1]) (t := 41) ?hr ?_; (case hd => rfl); (case hg => rfl); (case hr => exact a101_); intro gb222 hg w13 hbox hb; have n0_ := Aside0.mk (blk_below (g := gb221) a2_ hb); have n1_ := Aside0.mk (below_step a22_ hb); have n2_ := Aside0.mk (hbox); have n3_ := Aside0.mk ((a92_ : w.heap.size ≤ gb222)); have n4_ := Aside0.mk ((a92_ : w.heap.size ≤ gb222)); have n5_ := Aside0.mk ((a77_ : gb221 ≠ gb222)); have n6_ := Aside0.mk ((a78_ : gb222 ≠ gb221)); clear BK221; clear HB; have BK221 := n0_; have HB := n1_; have BK222 := n2_; have GW222 := n3_; have GE222 := n4_; have NB221_222 := n5_; have NB222_221 := n6_; clear n0_ n1_ n2_ n3_ n4_ n5_ n6_; clear hb hbox hg; have hnb14 := NB221_222.out; have hnc14 := NB222_221.out; have hcz15_0 : w13.cell? ⟨gb221, 0, none⟩ = some (.int .i16 a0_0) := (blk_cell BK221.out 0).trans rfl; have hcz15_1 : w13.cell? ⟨gb221, 1, none⟩ = some (.slice A0_1 l0_1.length c0_1) := (blk_cell BK221.out 1).trans rfl; have hfz15_0 := blk_frozen BK221.out 0; have hfz15_1 := blk_frozen BK221.out 1) | ((with_reducible refine gate_callee (f := 28) rfl ?_); refine goesL_ (some 19) rfl rfl Try.func28 (by kernel_rfl) rfl #[.agg #[.int .i16 a0_0, .slice A0_1 l0_1.length c0_1], .int .i64 1048576] rfl a6_ ?_; (with_reducible refine (laws_szProgram.calls a0_0 _ _ l0_1 1048576 t223 _ ?side1 ?side2 A3.out).mono ?_); (case side1 => exact a95_); (case side2 => exact HC0_1.out); rintro e w16 ⟨rfl, hb⟩; refine ⟨_, rfl, ?_⟩; have n0_ := Aside0.mk (blk_below (g := gb221) a2_ hb); have n1_ := Aside0.mk (blk_below (g := gb222) a3_ hb); have n2_ := Aside0.mk (below_step a15_ hb); clear BK221; clear BK222; clear HB; have BK221 := n0_; have BK222 := n1_; have HB := n2_; clear n0_ n1_ n2_; (try clear hb); (try clear hb2); (try clear hk); (try clear hi); have hcz17_0 : w16.cell? ⟨gb222, 0, none⟩ = some (.int .i16 a1_0) := (blk_cell BK222.out 0).trans rfl; have hcz17_1 : w16.cell? ⟨gb222, 1, none⟩ = some (.slice A1_1 l1_1.length c1_1) := (blk_cell BK222.out 1).trans rfl; have hfz17_0 := blk_frozen BK222.out 0; have hfz17_1 := blk_frozen BK222.out 1) | ((with_reducible refine gate_callee (f := 28) rfl ?_); refine goesL_ (some 24) rfl rfl Try.func28 (by kernel_rfl) rfl #[.agg #[.int .i16 a1_0, .slice A1_1 l1_1.length c1_1], .int .i64 t223] rfl a6_ ?_; (with_reducible refine (laws_szProgram.calls a1_0 _ _ l1_1 t223 t224 _ ?side1 ?side2 A10.out).mono ?_); (case side1 => exact a96_); (case side2 => exact HC1_1.out); rintro e w18 ⟨rfl, hb⟩; refine ⟨_, rfl, ?_⟩; have n0_ := Aside0.mk (blk_below (g := gb221) a2_ hb); have n1_ := Aside0.mk (blk_below (g := gb222) a3_ hb); have n2_ := Aside0.mk (below_step a15_ hb); clear BK221; clear BK222; clear HB; have BK221 := n0_; have BK222 := n1_; have HB := n2_; clear n0_ n1_ n2_; (try clear hb); (try clear hb2); (try clear hk); (try clear hi)))
   go_ret
   exact ⟨by first | rfl | (simp [errW_none, errW_some] <;> rfl) | (simp [*, errW_none, errW_some] <;> rfl), by repeat (first | (with_reducible first | exact HB.out | apply below_alloc | apply pw_below_drewN | apply below_drew1 | refine below_set ?_ GE221.out | refine below_set ?_ GE222.out) | exact HB.out)⟩
  ·rw [if_neg c11] at H
   have c11b0 : decide (t224 < 0) = false := decide_eq_false c11
   clear c11
   replace H := Option.bind_eq_some_iff.mp H
   obtain ⟨⟨t225, t226⟩, A190, H⟩ := H
   replace H : ((laws_toProgram.f k a1_0 l1_1).bind fun bt229 => ((spec_JoinPrograms.f k t225 t226 bt229.1 bt229.2).bind fun bt233 => ((laws_toProgram.f k a0_0 l0_1).bind fun bt239 => ((laws_toProgram.f k a1_0 l1_1).bind fun bt244 => ((impl_JoinPrograms.f k bt239.1 bt239.2 bt244.1 bt244.2).bind fun bt249 => ((laws_eqProgram.f k bt249.1 bt249.2.1 bt233.1 bt233.2.1).bind fun t255 => (if t255 = true then (laws_FnExactJoinPrograms.j0 k bt233.2.2 bt249.2.2 (bt249.2.2 != bt233.2.2) a0_0 l0_1 a1_0 l1_1 bt233.1 bt233.2.1 bt239.1 bt239.2 bt244.1 bt244.2 bt249.1 bt249.2.1) else (laws_FnExactJoinPrograms.j0 k bt233.2.2 bt249.2.2 true a0_0 l0_1 a1_0 l1_1 bt233.1 bt233.2.1 bt239.1 bt239.2 bt244.1 bt244.2 bt249.1 bt249.2.1)))))))) = some r := H
   have A19 := Aside0.mk A190
   clear A190
   replace H := Option.bind_eq_some_iff.mp H
   obtain ⟨⟨t229, t230⟩, A200, H⟩ := H
   replace H : ((spec_JoinPrograms.f k t225 t226 t229 t230).bind fun bt233 => ((laws_toProgram.f k a0_0 l0_1).bind fun bt239 => ((laws_toProgram.f k a1_0 l1_1).bind fun bt244 => ((impl_JoinPrograms.f k bt239.1 bt239.2 bt244.1 bt244.2).bind fun bt249 => ((laws_eqProgram.f k bt249.1 bt249.2.1 bt233.1 bt233.2.1).bind fun t255 => (if t255 = true then (laws_FnExactJoinPrograms.j0 k bt233.2.2 bt249.2.2 (bt249.2.2 != bt233.2.2) a0_0 l0_1 a1_0 l1_1 bt233.1 bt233.2.1 bt239.1 bt239.2 bt244.1 bt244.2 bt249.1 bt249.2.1) else (laws_FnExactJoinPrograms.j0 k bt233.2.2 bt249.2.2 true a0_0 l0_1 a1_0 l1_1 bt233.1 bt233.2.1 bt239.1 bt239.2 bt244.1 bt244.2 bt249.1 bt249.2.1))))))) = some r := H
   have A20 := Aside0.mk A200
   clear A200
   replace H := Option.bind_eq_some_iff.mp H
   obtain ⟨⟨t233, t234, t237⟩, A210, H⟩ := H
   replace H : ((laws_toProgram.f k a0_0 l0_1).bind fun bt239 => ((laws_toProgram.f k a1_0 l1_1).bind fun bt244 => ((impl_JoinPrograms.f k bt239.1 bt239.2 bt244.1 bt244.2).bind fun bt249 => ((laws_eqProgram.f k bt249.1 bt249.2.1 t233 t234).bind fun t255 => (if t255 = true then (laws_FnExactJoinPrograms.j0 k t237 bt249.2.2 (bt249.2.2 != t237) a0_0 l0_1 a1_0 l1_1 t233 t234 bt239.1 bt239.2 bt244.1 bt244.2 bt249.1 bt249.2.1) else (laws_FnExactJoinPrograms.j0 k t237 bt249.2.2 true a0_0 l0_1 a1_0 l1_1 t233 t234 bt239.1 bt239.2 bt244.1 bt244.2 bt249.1 bt249.2.1)))))) = some r := H
   have A21 := Aside0.mk A210
   clear A210
   replace H := Option.bind_eq_some_iff.mp H
   obtain ⟨⟨t239, t240⟩, A220, H⟩ := H
   replace H : ((laws_toProgram.f k a1_0 l1_1).bind fun bt244 => ((impl_JoinPrograms.f k t239 t240 bt244.1 bt244.2).bind fun bt249 => ((laws_eqProgram.f k bt249.1 bt249.2.1 t233 t234).bind fun t255 => (if t255 = true then (laws_FnExactJoinPrograms.j0 k t237 bt249.2.2 (bt249.2.2 != t237) a0_0 l0_1 a1_0 l1_1 t233 t234 t239 t240 bt244.1 bt244.2 bt249.1 bt249.2.1) else (laws_FnExactJoinPrograms.j0 k t237 bt249.2.2 true a0_0 l0_1 a1_0 l1_1 t233 t234 t239 t240 bt244.1 bt244.2 bt249.1 bt249.2.1))))) = some r := H
   have A22 := Aside0.mk A220
   clear A220
   replace H := Option.bind_eq_some_iff.mp H
   obtain ⟨⟨t244, t245⟩, A230, H⟩ := H
   replace H : ((impl_JoinPrograms.f k t239 t240 t244 t245).bind fun bt249 => ((laws_eqProgram.f k bt249.1 bt249.2.1 t233 t234).bind fun t255 => (if t255 = true then (laws_FnExactJoinPrograms.j0 k t237 bt249.2.2 (bt249.2.2 != t237) a0_0 l0_1 a1_0 l1_1 t233 t234 t239 t240 t244 t245 bt249.1 bt249.2.1) else (laws_FnExactJoinPrograms.j0 k t237 bt249.2.2 true a0_0 l0_1 a1_0 l1_1 t233 t234 t239 t240 t244 t245 bt249.1 bt249.2.1)))) = some r := H
   have A23 := Aside0.mk A230
   clear A230
   replace H := Option.bind_eq_some_iff.mp H
   obtain ⟨⟨t249, t250, t253⟩, A240, H⟩ := H
   replace H : ((laws_eqProgram.f k t249 t250 t233 t234).bind fun t255 => (if t255 = true then (laws_FnExactJoinPrograms.j0 k t237 t253 (t253 != t237) a0_0 l0_1 a1_0 l1_1 t233 t234 t239 t240 t244 t245 t249 t250) else (laws_FnExactJoinPrograms.j0 k t237 t253 true a0_0 l0_1 a1_0 l1_1 t233 t234 t239 t240 t244 t245 t249 t250))) = some r := H
   have A24 := Aside0.mk A240
   clear A240
   have HC25 := Aside0.mk H
   clear H
   go_enter Try.func8, Try.ntmps8
   try go_wp2_with (first | ((with_reducible refine gate_dst (N := 2) rfl ?_); refine box_event ?hg (N := 2) ?hd (cs := #[.int .i16 a0_0, .slice A0_1 l0_1.length c0_1]) (t := 41) ?hr ?_; (case hd => rfl); (case hg => rfl); (case hr => exact a101_); intro gb221 hg w26 hbox hb; have n0_ := Aside0.mk (below_step a27_ hb); have n1_ := Aside0.mk (hbox); have n2_ := Aside0.mk ((a91_ : w.heap.size ≤ gb221)); have n3_ := Aside0.mk ((a91_ : w.heap.size ≤ gb221)); clear HB; have HB := n0_; have BK221 := n1_; have GW221 := n2_; have GE221 := n3_; clear n0_ n1_ n2_ n3_; clear hb hbox hg) | ((with_reducible refine gate_dst (N := 3) rfl ?_); refine box_event ?hg (N := 3) ?hd (cs := #[.int .i16 a1_0, .slice A1_1 l1_1.length c1_1]) (t := 41) ?hr ?_; (case hd => rfl); (case hg => rfl); (case hr => exact a101_); intro gb222 hg w27 hbox hb; have n0_ := Aside0.mk (blk_below (g := gb221) a2_ hb); have n1_ := Aside0.mk (below_step a22_ hb); have n2_ := Aside0.mk (hbox); have n3_ := Aside0.mk ((a92_ : w.heap.size ≤ gb222)); have n4_ := Aside0.mk ((a92_ : w.heap.size ≤ gb222)); have n5_ := Aside0.mk ((a77_ : gb221 ≠ gb222)); have n6_ := Aside0.mk ((a78_ : gb222 ≠ gb221)); clear BK221; clear HB; have BK221 := n0_; have HB := n1_; have BK222 := n2_; have GW222 := n3_; have GE222 := n4_; have NB221_222 := n5_; have NB222_221 := n6_; clear n0_ n1_ n2_ n3_ n4_ n5_ n6_; clear hb hbox hg; have hnb28 := NB221_222.out; have hnc28 := NB222_221.out; have hcz29_0 : w27.cell? ⟨gb221, 0, none⟩ = some (.int .i16 a0_0) := (blk_cell BK221.out 0).trans rfl; have hcz29_1 : w27.cell? ⟨gb221, 1, none⟩ = some (.slice A0_1 l0_1.length c0_1) := (blk_cell BK221.out 1).trans rfl; have hfz29_0 := blk_frozen BK221.out 0; have hfz29_1 := blk_frozen BK221.out 1) | ((with_reducible refine gate_callee (f := 28) rfl ?_); refine goesL_ (some 19) rfl rfl Try.func28 (by kernel_rfl) rfl #[.agg #[.int .i16 a0_0, .slice A0_1 l0_1.length c0_1], .int .i64 1048576] rfl a6_ ?_; (with_reducible refine (laws_szProgram.calls a0_0 _ _ l0_1 1048576 t223 _ ?side1 ?side2 A3.out).mono ?_); (case side1 => exact a95_); (case side2 => exact HC0_1.out); rintro e w30 ⟨rfl, hb⟩; refine ⟨_, rfl, ?_⟩; have n0_ := Aside0.mk (blk_below (g := gb221) a2_ hb); have n1_ := Aside0.mk (blk_below (g := gb222) a3_ hb); have n2_ := Aside0.mk (below_step a15_ hb); clear BK221; clear BK222; clear HB; have BK221 := n0_; have BK222 := n1_; have HB := n2_; clear n0_ n1_ n2_; (try clear hb); (try clear hb2); (try clear hk); (try clear hi); have hcz31_0 : w30.cell? ⟨gb222, 0, none⟩ = some (.int .i16 a1_0) := (blk_cell BK222.out 0).trans rfl; have hcz31_1 : w30.cell? ⟨gb222, 1, none⟩ = some (.slice A1_1 l1_1.length c1_1) := (blk_cell BK222.out 1).trans rfl; have hfz31_0 := blk_frozen BK222.out 0; have hfz31_1 := blk_frozen BK222.out 1) | ((with_reducible refine gate_callee (f := 28) rfl ?_); refine goesL_ (some 24) rfl rfl Try.func28 (by kernel_rfl) rfl #[.agg #[.int .i16 a1_0, .slice A1_1 l1_1.length c1_1], .int .i64 t223] rfl a6_ ?_; (with_reducible refine (laws_szProgram.calls a1_0 _ _ l1_1 t223 t224 _ ?side1 ?side2 A10.out).mono ?_); (case side1 => exact a96_); (case side2 => exact HC1_1.out); rintro e w32 ⟨rfl, hb⟩; refine ⟨_, rfl, ?_⟩; have n0_ := Aside0.mk (blk_below (g := gb221) a2_ hb); have n1_ := Aside0.mk (blk_below (g := gb222) a3_ hb); have n2_ := Aside0.mk (below_step a15_ hb); clear BK221; clear BK222; clear HB; have BK221 := n0_; have BK222 := n1_; have HB := n2_; clear n0_ n1_ n2_; (try clear hb); (try clear hb2); (try clear hk); (try clear hi)))
   have n0_ := Aside0.mk (blk_drew BK221.out)
   have n1_ := Aside0.mk (blk_drew BK222.out)
   have n2_ := Aside0.mk (below_drew1 HB.out)
   clear BK221 BK222 HB; have BK221 := n0_; have BK222 := n1_; have HB := n2_; clear n0_ n1_ n2_
   refine start_ (n := 11) (S := fun w' => w'.cell? ⟨gb221, 0, none⟩ = some (.int .i16 a0_0) ∧ w'.cell? ⟨gb221, 1, none⟩ = some (.slice A0_1 l0_1.length c0_1) ∧ w'.cell? ⟨gb222, 0, none⟩ = some (.int .i16 a1_0) ∧ w'.cell? ⟨gb222, 1, none⟩ = some (.slice A1_1 l1_1.length c1_1)) (ds := []) #[false, false, false, false, false, false, false, false, false, false, false] (by kernel_rfl) rfl rfl ⟨(blk_cell BK221.out 0).trans rfl, (blk_cell BK221.out 1).trans rfl, (blk_cell BK222.out 0).trans rfl, (blk_cell BK222.out 1).trans rfl⟩ (fun hHeld => ?_); refine with_tabW laws_FnExactJoinPrograms.tab8 laws_FnExactJoinPrograms.bits8 (fun HT_ HW_ => ?_)
   generalize w32.drew = w33 at BK221 BK222 HB hHeld ⊢
   refine take_ (i := 0) (N := some 28) (v := ?_) (a' := ?_) #[true, false, false, false, false, false, false, false, false, false, false] rfl rfl (take_ofW HT_.out HW_.out (by kernel_rfl)) (fun _ _ _ h => h) (Or.inl ⟨by rfl, ?_⟩) hHeld ?_ ?_
   rotate_left
   ·rintro w' ⟨s0, s1, s2, s3⟩
    go_simp; with_reducible rfl
   rotate_left
   ·simp only [Act.put, List.setIfInBounds_toArray, List.set_cons_zero, List.set_cons_succ, i64_w, i32_w]
    rfl
   refine take_ (i := 2) (N := some 30) (v := ?_) (a' := ?_) #[true, false, true, false, false, false, false, false, false, false, false] rfl rfl (take_ofW HT_.out HW_.out (by kernel_rfl)) (fun _ _ _ h => h) (Or.inl ⟨by rfl, ?_⟩) hHeld ?_ ?_
   rotate_left
   ·rintro w' ⟨s0, s1, s2, s3⟩
    go_simp; with_reducible rfl
   rotate_left
   ·simp only [Act.put, List.setIfInBounds_toArray, List.set_cons_zero, List.set_cons_succ, i64_w, i32_w]
    rfl
   refine join_ (σ := Value × Value × Value × Nat) 2 #[true, true, true, true, true, true, true, true, true, false, false] (fun s_ => [(29, .agg #[.int .i16 t225, s_.1]), (31, .agg #[.int .i16 t229, s_.2.1]), (32, .tuple #[.agg #[.int .i16 t233, s_.2.2.1], .int .i64 t237]), (6, .pointer (some ⟨s_.2.2.2, 0, none⟩)), (27, .tuple #[.agg #[.int .i16 t233, s_.2.2.1], .int .i64 t237]), (33, .agg #[.int .i16 t233, s_.2.2.1]), (34, .int .i64 t237)]) (fun s_ w' => (w'.cell? ⟨gb221, 0, none⟩ = some (.int .i16 a0_0) ∧ w'.cell? ⟨gb221, 1, none⟩ = some (.slice A0_1 l0_1.length c0_1) ∧ w'.cell? ⟨gb222, 0, none⟩ = some (.int .i16 a1_0) ∧ w'.cell? ⟨gb222, 1, none⟩ = some (.slice A1_1 l1_1.length c1_1)) ∧ (Kd.R k125 125 w' w.heap.size (fun k_ => some k_ ≠ (s_.2.1 : Value).ownBlock ∧ some k_ ≠ (s_.2.2.1 : Value).ownBlock) s_.1 t226) ∧ (Kd.R k125 125 w' w.heap.size (fun k_ => some k_ ≠ (s_.1 : Value).ownBlock ∧ some k_ ≠ (s_.2.2.1 : Value).ownBlock) s_.2.1 t230) ∧ (Kd.R k125 125 w' w.heap.size (fun k_ => some k_ ≠ (s_.1 : Value).ownBlock ∧ some k_ ≠ (s_.2.1 : Value).ownBlock) s_.2.2.1 t234) ∧ (w'.heap[gb221]? = some (.cells #[.int .i16 a0_0, .slice A0_1 l0_1.length c0_1] 41 (0, 0))) ∧ (w'.heap[gb222]? = some (.cells #[.int .i16 a1_0, .slice A1_1 l1_1.length c1_1] 41 (0, 0))) ∧ (w'.heap[s_.2.2.2]? = some (.cells #[.int .i16 0, .slice none 0 0] 45 (0, 0))) ∧ (w.heap.size ≤ s_.2.2.2) ∧ (w.heap.size ≤ s_.2.2.2) ∧ (gb221 ≠ s_.2.2.2) ∧ (s_.2.2.2 ≠ gb221) ∧ (gb222 ≠ s_.2.2.2) ∧ (s_.2.2.2 ≠ gb222) ∧ (Below w.heap.size w w')) ?_ ?_
   rotate_left
   ·intro hCont
    refine two_ (i := 1) (j := 8) (Ni := some 29) (Nj := some 6) #[true, true, true, false, false, false, false, false, false, false, false] #[true, false, true, false, false, false, false, false, true, false, false] rfl rfl rfl rfl (two_of HT_.out (by kernel_rfl)) (by decide) (by decide) (fun K hK => ?_) (fun K hK => ?_)
    ·refine goes_ Try.func30 (by kernel_rfl) rfl #[.agg #[.int .i16 a0_0, .slice A0_1 l0_1.length c0_1]] (by rfl) rfl rfl a6_ ?_
     with_reducible refine (laws_toProgram.calls k a0_0 _ _ l0_1 t225 t226 _ ?side1 ?side2 A19.out).mono ?_
     (case side1 => exact a95_); (case side2 => exact HC0_1.out)
     rintro e w34 ⟨v227, rfl, ho0, hb⟩
     refine ⟨_, rfl, ?_⟩
     have n0_ := Aside0.mk (Kd.R_lower ho0 (below_size a15_))
     have n1_ := Aside0.mk (blk_below (g := gb221) a2_ hb)
     have n2_ := Aside0.mk (blk_below (g := gb222) a3_ hb)
     have n3_ := Aside0.mk (below_step a15_ hb)
     clear BK221 BK222 HB; have HO228 := n0_; have BK221 := n1_; have BK222 := n2_; have HB := n3_; clear n0_ n1_ n2_ n3_; (try clear hb); (try clear hb2); (try clear hk); (try clear hi); (try clear ho0)
     refine hK.out _ _ ⟨(blk_cell BK221.out 0).trans rfl, (blk_cell BK221.out 1).trans rfl, (blk_cell BK222.out 0).trans rfl, (blk_cell BK222.out 1).trans rfl⟩ (fun hHeld => ?_)
     clear hK K; refine norm_ (a' := ?_) ?_ ?_; rotate_left
     ·show Act.put _ (some 29) _ = _
      simp only [Act.put, List.setIfInBounds_toArray, List.set_cons_zero, List.set_cons_succ, i64_w, i32_w]
      rfl
     refine two_ (i := 3) (j := 8) (Ni := some 31) (Nj := some 6) #[true, true, true, true, false, false, false, false, false, false, false] #[true, true, true, false, false, false, false, false, true, false, false] rfl rfl rfl rfl (two_of HT_.out (by kernel_rfl)) (by decide) (by decide) (fun K hK => ?_) (fun K hK => ?_)
     ·refine goes_ Try.func30 (by kernel_rfl) rfl #[.agg #[.int .i16 a1_0, .slice A1_1 l1_1.length c1_1]] (by rfl) rfl rfl a6_ ?_
      with_reducible refine (laws_toProgram.calls k a1_0 _ _ l1_1 t229 t230 _ ?side1 ?side2 A20.out).mono ?_
      (case side1 => exact a96_); (case side2 => exact HC1_1.out)
      rintro e w35 ⟨v231, rfl, ho0, hb⟩
      refine ⟨_, rfl, ?_⟩
      have n0_ := Aside0.mk (Kd.R_elder' a16_ (Kd.R_base ho0) hb)
      have n1_ := Aside0.mk (Kd.R_lower (Kd.R_new' ho0 (Kd.R_lt a16_)) (below_size a15_))
      have n2_ := Aside0.mk (blk_below (g := gb221) a2_ hb)
      have n3_ := Aside0.mk (blk_below (g := gb222) a3_ hb)
      have n4_ := Aside0.mk (below_step a15_ hb)
      clear HO228 BK221 BK222 HB; have HO228 := n0_; have HO232 := n1_; have BK221 := n2_; have BK222 := n3_; have HB := n4_; clear n0_ n1_ n2_ n3_ n4_; (try clear hb); (try clear hb2); (try clear hk); (try clear hi); (try clear ho0)
      obtain ⟨Ao36, co36, eo36⟩ := Kd.R_slice HO228.out
      (first | subst eo36 | (injection eo36 with f1_ f2_ f3_; have f4_ := f1_.symm; have f5_ := f3_.symm; clear f1_ f2_ f3_; subst f4_; subst f5_))
      obtain ⟨Ao37, co37, eo37⟩ := Kd.R_slice HO232.out
      (first | subst eo37 | (injection eo37 with f1_ f2_ f3_; have f4_ := f1_.symm; have f5_ := f3_.symm; clear f1_ f2_ f3_; subst f4_; subst f5_))
      refine hK.out _ _ ⟨(blk_cell BK221.out 0).trans rfl, (blk_cell BK221.out 1).trans rfl, (blk_cell BK222.out 0).trans rfl, (blk_cell BK222.out 1).trans rfl⟩ (fun hHeld => ?_)
      clear hK K; refine norm_ (a' := ?_) ?_ ?_; rotate_left
      ·show Act.put _ (some 31) _ = _
       simp only [Act.put, List.setIfInBounds_toArray, List.set_cons_zero, List.set_cons_succ, i64_w, i32_w]
       rfl
      refine two_ (i := 4) (j := 8) (Ni := some 32) (Nj := some 6) #[true, true, true, true, true, false, false, false, false, false, false] #[true, true, true, true, false, false, false, false, true, false, false] rfl rfl rfl rfl (two_of HT_.out (by kernel_rfl)) (by decide) (by decide) (fun K hK => ?_) (fun K hK => ?_)
      ·refine goes_ Try.func35 (by kernel_rfl) rfl #[.agg #[.int .i16 t225, .slice Ao36 t226.length co36], .agg #[.int .i16 t229, .slice Ao37 t230.length co37]] (by rfl) rfl rfl a6_ ?_
       with_reducible refine (spec_JoinPrograms.calls k t225 _ _ t226 t229 _ _ t230 t233 t234 t237 _ ?side1 ?side2 ?side3 ?side4 A21.out).mono ?_
       (case side1 => exact a102_)
       (case side2 => exact (Kd.R_reads' HO228.out).2.1)
       (case side3 => exact a103_)
       (case side4 => exact (Kd.R_reads' HO232.out).2.1)
       rintro e w38 ⟨v235, rfl, ho0, hb⟩
       refine ⟨_, rfl, ?_⟩
       have n0_ := Aside0.mk (Kd.R_elder' a16_ (Kd.R_base ho0) hb)
       have n1_ := Aside0.mk (Kd.R_elder' a19_ (Kd.R_base ho0) hb)
       have n2_ := Aside0.mk (Kd.R_lower (Kd.R_new' (Kd.R_new' ho0 (Kd.R_lt a16_)) (Kd.R_lt a19_)) (below_size a15_))
       have n3_ := Aside0.mk (blk_below (g := gb221) a2_ hb)
       have n4_ := Aside0.mk (blk_below (g := gb222) a3_ hb)
       have n5_ := Aside0.mk (below_step a15_ hb)
       clear HO228 HO232 BK221 BK222 HB; have HO228 := n0_; have HO232 := n1_; have HO236 := n2_; have BK221 := n3_; have BK222 := n4_; have HB := n5_; clear n0_ n1_ n2_ n3_ n4_ n5_; (try clear hb); (try clear hb2); (try clear hk); (try clear hi); (try clear ho0)
       refine hK.out _ _ ⟨(blk_cell BK221.out 0).trans rfl, (blk_cell BK221.out 1).trans rfl, (blk_cell BK222.out 0).trans rfl, (blk_cell BK222.out 1).trans rfl⟩ (fun hHeld => ?_)
       clear hK K; refine norm_ (a' := ?_) ?_ ?_; rotate_left
       ·show Act.put _ (some 32) _ = _
        simp only [Act.put, List.setIfInBounds_toArray, List.set_cons_zero, List.set_cons_succ, i64_w, i32_w]
        rfl
       refine pure_ (i := 5) (N := some 27) (v := ?_) (a' := ?_) #[true, true, true, true, true, true, false, false, false, false, false] rfl rfl (any_of HT_.out (by kernel_rfl)) (fun _ _ _ h => h) (Or.inl ⟨by rfl, ?_⟩) ?_ ?_
       rotate_left
       ·intro w'
        go_simp; with_reducible rfl
       rotate_left
       ·simp only [Act.put, List.setIfInBounds_toArray, List.set_cons_zero, List.set_cons_succ, i64_w, i32_w]
        rfl
       refine pure_ (i := 6) (N := some 33) (v := ?_) (a' := ?_) #[true, true, true, true, true, true, true, false, false, false, false] rfl rfl (any_of HT_.out (by kernel_rfl)) (fun _ _ _ h => h) (Or.inl ⟨by rfl, ?_⟩) ?_ ?_
       rotate_left
       ·intro w'
        go_simp; with_reducible rfl
       rotate_left
       ·simp only [Act.put, List.setIfInBounds_toArray, List.set_cons_zero, List.set_cons_succ, i64_w, i32_w]
        rfl
       refine pure_ (i := 7) (N := some 34) (v := ?_) (a' := ?_) #[true, true, true, true, true, true, true, true, false, false, false] rfl rfl (any_of HT_.out (by kernel_rfl)) (fun _ _ _ h => h) (Or.inl ⟨by rfl, ?_⟩) ?_ ?_
       rotate_left
       ·intro w'
        go_simp; with_reducible rfl
       rotate_left
       ·simp only [Act.put, List.setIfInBounds_toArray, List.set_cons_zero, List.set_cons_succ, i64_w, i32_w]
        rfl
       refine one_ (i := 8) (N := some 6) #[true, true, true, true, true, true, true, true, true, false, false] rfl rfl (one_of HT_.out (by kernel_rfl)) (by decide) (fun K hK => ?_)
       refine box_step ?hg (N := 6) ?hd (cs := #[.int .i16 0, .slice none 0 0]) (t := 45) ?hr ?_; (case hd => rfl); (case hg => rfl); (case hr => exact a101_)
       intro gb238 hg w39 hbox hb
       have n0_ := Aside0.mk (Kd.R_below a16_ hb)
       have n1_ := Aside0.mk (Kd.R_below a19_ hb)
       have n2_ := Aside0.mk (Kd.R_below a68_ hb)
       have n3_ := Aside0.mk (blk_below (g := gb221) a2_ hb)
       have n4_ := Aside0.mk (blk_below (g := gb222) a3_ hb)
       have n5_ := Aside0.mk (below_step a15_ hb)
       have n6_ := Aside0.mk (hbox)
       have n7_ := Aside0.mk ((a89_ : w.heap.size ≤ gb238))
       have n8_ := Aside0.mk ((a89_ : w.heap.size ≤ gb238))
       have n9_ := Aside0.mk ((a77_ : gb221 ≠ gb238))
       have n10_ := Aside0.mk ((a78_ : gb238 ≠ gb221))
       have n11_ := Aside0.mk ((a79_ : gb222 ≠ gb238))
       have n12_ := Aside0.mk ((a80_ : gb238 ≠ gb222))
       clear HO228 HO232 HO236 BK221 BK222 HB; have HO228 := n0_; have HO232 := n1_; have HO236 := n2_; have BK221 := n3_; have BK222 := n4_; have HB := n5_; have BK238 := n6_; have GW238 := n7_; have GE238 := n8_; have NB221_238 := n9_; have NB238_221 := n10_; have NB222_238 := n11_; have NB238_222 := n12_; clear n0_ n1_ n2_ n3_ n4_ n5_ n6_ n7_ n8_ n9_ n10_ n11_ n12_ hb hbox hg
       refine hK.out _ _ ⟨(blk_cell BK221.out 0).trans rfl, (blk_cell BK221.out 1).trans rfl, (blk_cell BK222.out 0).trans rfl, (blk_cell BK222.out 1).trans rfl⟩ (fun hHeld => ?_)
       clear hK K; refine norm_ (a' := ?_) ?_ ?_; rotate_left
       ·show Act.put _ (some 6) _ = _
        simp only [Act.put, List.setIfInBounds_toArray, List.set_cons_zero, List.set_cons_succ, i64_w, i32_w]
        rfl
       exact norm_ a50_ (hCont (.slice Ao36 t226.length co36, .slice Ao37 t230.length co37, v235, gb238) _ ⟨hHeld, a69_, a70_, a71_, a2_, a3_, a4_, GW238.out, GE238.out, NB221_238.out, NB238_221.out, NB222_238.out, NB238_222.out, a10_⟩)
      ·refine box_step ?hg (N := 6) ?hd (cs := #[.int .i16 0, .slice none 0 0]) (t := 45) ?hr ?_; (case hd => rfl); (case hg => rfl); (case hr => exact a101_)
       intro gb238 hg w36 hbox hb
       have n0_ := Aside0.mk (Kd.R_below a16_ hb)
       have n1_ := Aside0.mk (Kd.R_below a19_ hb)
       have n2_ := Aside0.mk (blk_below (g := gb221) a2_ hb)
       have n3_ := Aside0.mk (blk_below (g := gb222) a3_ hb)
       have n4_ := Aside0.mk (below_step a15_ hb)
       have n5_ := Aside0.mk (hbox)
       have n6_ := Aside0.mk ((a89_ : w.heap.size ≤ gb238))
       have n7_ := Aside0.mk ((a89_ : w.heap.size ≤ gb238))
       have n8_ := Aside0.mk ((a77_ : gb221 ≠ gb238))
       have n9_ := Aside0.mk ((a78_ : gb238 ≠ gb221))
       have n10_ := Aside0.mk ((a79_ : gb222 ≠ gb238))
       have n11_ := Aside0.mk ((a80_ : gb238 ≠ gb222))
       clear HO228 HO232 BK221 BK222 HB; have HO228 := n0_; have HO232 := n1_; have BK221 := n2_; have BK222 := n3_; have HB := n4_; have BK238 := n5_; have GW238 := n6_; have GE238 := n7_; have NB221_238 := n8_; have NB238_221 := n9_; have NB222_238 := n10_; have NB238_222 := n11_; clear n0_ n1_ n2_ n3_ n4_ n5_ n6_ n7_ n8_ n9_ n10_ n11_ hb hbox hg
       obtain ⟨Ao37, co37, eo37⟩ := Kd.R_slice HO228.out
       (first | subst eo37 | (injection eo37 with f1_ f2_ f3_; have f4_ := f1_.symm; have f5_ := f3_.symm; clear f1_ f2_ f3_; subst f4_; subst f5_))
       obtain ⟨Ao38, co38, eo38⟩ := Kd.R_slice HO232.out
       (first | subst eo38 | (injection eo38 with f1_ f2_ f3_; have f4_ := f1_.symm; have f5_ := f3_.symm; clear f1_ f2_ f3_; subst f4_; subst f5_))
       refine hK.out _ _ ⟨(blk_cell BK221.out 0).trans rfl, (blk_cell BK221.out 1).trans rfl, (blk_cell BK222.out 0).trans rfl, (blk_cell BK222.out 1).trans rfl⟩ (fun hHeld => ?_)
       clear hK K; refine norm_ (a' := ?_) ?_ ?_; rotate_left
       ·show Act.put _ (some 6) _ = _
        simp only [Act.put, List.setIfInBounds_toArray, List.set_cons_zero, List.set_cons_succ, i64_w, i32_w]
        rfl
       refine one_ (i := 4) (N := some 32) #[true, true, true, true, true, false, false, false, true, false, false] rfl rfl (one_of HT_.out (by kernel_rfl)) (by decide) (fun K hK => ?_)
       refine goes_ Try.func35 (by kernel_rfl) rfl #[.agg #[.int .i16 t225, .slice Ao37 t226.length co37], .agg #[.int .i16 t229, .slice Ao38 t230.length co38]] (by rfl) rfl rfl a6_ ?_
       with_reducible refine (spec_JoinPrograms.calls k t225 _ _ t226 t229 _ _ t230 t233 t234 t237 _ ?side1 ?side2 ?side3 ?side4 A21.out).mono ?_
       (case side1 => exact a102_)
       (case side2 => exact (Kd.R_reads' HO228.out).2.1)
       (case side3 => exact a103_)
       (case side4 => exact (Kd.R_reads' HO232.out).2.1)
       rintro e w39 ⟨v235, rfl, ho0, hb⟩
       refine ⟨_, rfl, ?_⟩
       have n0_ := Aside0.mk (Kd.R_elder' a16_ (Kd.R_base ho0) hb)
       have n1_ := Aside0.mk (Kd.R_elder' a19_ (Kd.R_base ho0) hb)
       have n2_ := Aside0.mk (Kd.R_lower (Kd.R_new' (Kd.R_new' ho0 (Kd.R_lt a16_)) (Kd.R_lt a19_)) (below_size a10_))
       have n3_ := Aside0.mk (blk_below (g := gb221) a2_ hb)
       have n4_ := Aside0.mk (blk_below (g := gb222) a3_ hb)
       have n5_ := Aside0.mk (blk_below (g := gb238) a4_ hb)
       have n6_ := Aside0.mk (below_step a10_ hb)
       clear HO228 HO232 BK221 BK222 BK238 HB; have HO228 := n0_; have HO232 := n1_; have HO236 := n2_; have BK221 := n3_; have BK222 := n4_; have BK238 := n5_; have HB := n6_; clear n0_ n1_ n2_ n3_ n4_ n5_ n6_; (try clear hb); (try clear hb2); (try clear hk); (try clear hi); (try clear ho0)
       refine hK.out _ _ ⟨(blk_cell BK221.out 0).trans rfl, (blk_cell BK221.out 1).trans rfl, (blk_cell BK222.out 0).trans rfl, (blk_cell BK222.out 1).trans rfl⟩ (fun hHeld => ?_)
       clear hK K; refine norm_ (a' := ?_) ?_ ?_; rotate_left
       ·show Act.put _ (some 32) _ = _
        simp only [Act.put, List.setIfInBounds_toArray, List.set_cons_zero, List.set_cons_succ, i64_w, i32_w]
        rfl
       refine pure_ (i := 5) (N := some 27) (v := ?_) (a' := ?_) #[true, true, true, true, true, true, false, false, true, false, false] rfl rfl (any_of HT_.out (by kernel_rfl)) (fun _ _ _ h => h) (Or.inl ⟨by rfl, ?_⟩) ?_ ?_
       rotate_left
       ·intro w'
        go_simp; with_reducible rfl
       rotate_left
       ·simp only [Act.put, List.setIfInBounds_toArray, List.set_cons_zero, List.set_cons_succ, i64_w, i32_w]
        rfl
       refine pure_ (i := 6) (N := some 33) (v := ?_) (a' := ?_) #[true, true, true, true, true, true, true, false, true, false, false] rfl rfl (any_of HT_.out (by kernel_rfl)) (fun _ _ _ h => h) (Or.inl ⟨by rfl, ?_⟩) ?_ ?_
       rotate_left
       ·intro w'
        go_simp; with_reducible rfl
       rotate_left
       ·simp only [Act.put, List.setIfInBounds_toArray, List.set_cons_zero, List.set_cons_succ, i64_w, i32_w]
        rfl
       refine pure_ (i := 7) (N := some 34) (v := ?_) (a' := ?_) #[true, true, true, true, true, true, true, true, true, false, false] rfl rfl (any_of HT_.out (by kernel_rfl)) (fun _ _ _ h => h) (Or.inl ⟨by rfl, ?_⟩) ?_ ?_
       rotate_left
       ·intro w'
        go_simp; with_reducible rfl
       rotate_left
       ·simp only [Act.put, List.setIfInBounds_toArray, List.set_cons_zero, List.set_cons_succ, i64_w, i32_w]
        rfl
       exact norm_ a50_ (hCont (.slice Ao37 t226.length co37, .slice Ao38 t230.length co38, v235, gb238) _ ⟨hHeld, a69_, a70_, a71_, a2_, a3_, a4_, GW238.out, GE238.out, NB221_238.out, NB238_221.out, NB222_238.out, NB238_222.out, a10_⟩)
     ·refine box_step ?hg (N := 6) ?hd (cs := #[.int .i16 0, .slice none 0 0]) (t := 45) ?hr ?_; (case hd => rfl); (case hg => rfl); (case hr => exact a101_)
      intro gb238 hg w35 hbox hb
      have n0_ := Aside0.mk (Kd.R_below a16_ hb)
      have n1_ := Aside0.mk (blk_below (g := gb221) a2_ hb)
      have n2_ := Aside0.mk (blk_below (g := gb222) a3_ hb)
      have n3_ := Aside0.mk (below_step a15_ hb)
      have n4_ := Aside0.mk (hbox)
      have n5_ := Aside0.mk ((a89_ : w.heap.size ≤ gb238))
      have n6_ := Aside0.mk ((a89_ : w.heap.size ≤ gb238))
      have n7_ := Aside0.mk ((a77_ : gb221 ≠ gb238))
      have n8_ := Aside0.mk ((a78_ : gb238 ≠ gb221))
      have n9_ := Aside0.mk ((a79_ : gb222 ≠ gb238))
      have n10_ := Aside0.mk ((a80_ : gb238 ≠ gb222))
      clear HO228 BK221 BK222 HB; have HO228 := n0_; have BK221 := n1_; have BK222 := n2_; have HB := n3_; have BK238 := n4_; have GW238 := n5_; have GE238 := n6_; have NB221_238 := n7_; have NB238_221 := n8_; have NB222_238 := n9_; have NB238_222 := n10_; clear n0_ n1_ n2_ n3_ n4_ n5_ n6_ n7_ n8_ n9_ n10_ hb hbox hg
      refine hK.out _ _ ⟨(blk_cell BK221.out 0).trans rfl, (blk_cell BK221.out 1).trans rfl, (blk_cell BK222.out 0).trans rfl, (blk_cell BK222.out 1).trans rfl⟩ (fun hHeld => ?_)
      clear hK K; refine norm_ (a' := ?_) ?_ ?_; rotate_left
      ·show Act.put _ (some 6) _ = _
       simp only [Act.put, List.setIfInBounds_toArray, List.set_cons_zero, List.set_cons_succ, i64_w, i32_w]
       rfl
      refine one_ (i := 3) (N := some 31) #[true, true, true, true, false, false, false, false, true, false, false] rfl rfl (one_of HT_.out (by kernel_rfl)) (by decide) (fun K hK => ?_)
      refine goes_ Try.func30 (by kernel_rfl) rfl #[.agg #[.int .i16 a1_0, .slice A1_1 l1_1.length c1_1]] (by rfl) rfl rfl a6_ ?_
      with_reducible refine (laws_toProgram.calls k a1_0 _ _ l1_1 t229 t230 _ ?side1 ?side2 A20.out).mono ?_
      (case side1 => exact a96_); (case side2 => exact HC1_1.out)
      rintro e w36 ⟨v231, rfl, ho0, hb⟩
      refine ⟨_, rfl, ?_⟩
      have n0_ := Aside0.mk (Kd.R_elder' a16_ (Kd.R_base ho0) hb)
      have n1_ := Aside0.mk (Kd.R_lower (Kd.R_new' ho0 (Kd.R_lt a16_)) (below_size a10_))
      have n2_ := Aside0.mk (blk_below (g := gb221) a2_ hb)
      have n3_ := Aside0.mk (blk_below (g := gb222) a3_ hb)
      have n4_ := Aside0.mk (blk_below (g := gb238) a4_ hb)
      have n5_ := Aside0.mk (below_step a10_ hb)
      clear HO228 BK221 BK222 BK238 HB; have HO228 := n0_; have HO232 := n1_; have BK221 := n2_; have BK222 := n3_; have BK238 := n4_; have HB := n5_; clear n0_ n1_ n2_ n3_ n4_ n5_; (try clear hb); (try clear hb2); (try clear hk); (try clear hi); (try clear ho0)
      obtain ⟨Ao37, co37, eo37⟩ := Kd.R_slice HO228.out
      (first | subst eo37 | (injection eo37 with f1_ f2_ f3_; have f4_ := f1_.symm; have f5_ := f3_.symm; clear f1_ f2_ f3_; subst f4_; subst f5_))
      obtain ⟨Ao38, co38, eo38⟩ := Kd.R_slice HO232.out
      (first | subst eo38 | (injection eo38 with f1_ f2_ f3_; have f4_ := f1_.symm; have f5_ := f3_.symm; clear f1_ f2_ f3_; subst f4_; subst f5_))
      refine hK.out _ _ ⟨(blk_cell BK221.out 0).trans rfl, (blk_cell BK221.out 1).trans rfl, (blk_cell BK222.out 0).trans rfl, (blk_cell BK222.out 1).trans rfl⟩ (fun hHeld => ?_)
      clear hK K; refine norm_ (a' := ?_) ?_ ?_; rotate_left
      ·show Act.put _ (some 31) _ = _
       simp only [Act.put, List.setIfInBounds_toArray, List.set_cons_zero, List.set_cons_succ, i64_w, i32_w]
       rfl
      refine one_ (i := 4) (N := some 32) #[true, true, true, true, true, false, false, false, true, false, false] rfl rfl (one_of HT_.out (by kernel_rfl)) (by decide) (fun K hK => ?_)
      refine goes_ Try.func35 (by kernel_rfl) rfl #[.agg #[.int .i16 t225, .slice Ao37 t226.length co37], .agg #[.int .i16 t229, .slice Ao38 t230.length co38]] (by rfl) rfl rfl a6_ ?_
      with_reducible refine (spec_JoinPrograms.calls k t225 _ _ t226 t229 _ _ t230 t233 t234 t237 _ ?side1 ?side2 ?side3 ?side4 A21.out).mono ?_
      (case side1 => exact a102_)
      (case side2 => exact (Kd.R_reads' HO228.out).2.1)
      (case side3 => exact a103_)
      (case side4 => exact (Kd.R_reads' HO232.out).2.1)
      rintro e w39 ⟨v235, rfl, ho0, hb⟩
      refine ⟨_, rfl, ?_⟩
      have n0_ := Aside0.mk (Kd.R_elder' a16_ (Kd.R_base ho0) hb)
      have n1_ := Aside0.mk (Kd.R_elder' a19_ (Kd.R_base ho0) hb)
      have n2_ := Aside0.mk (Kd.R_lower (Kd.R_new' (Kd.R_new' ho0 (Kd.R_lt a16_)) (Kd.R_lt a19_)) (below_size a10_))
      have n3_ := Aside0.mk (blk_below (g := gb221) a2_ hb)
      have n4_ := Aside0.mk (blk_below (g := gb222) a3_ hb)
      have n5_ := Aside0.mk (blk_below (g := gb238) a4_ hb)
      have n6_ := Aside0.mk (below_step a10_ hb)
      clear HO228 HO232 BK221 BK222 BK238 HB; have HO228 := n0_; have HO232 := n1_; have HO236 := n2_; have BK221 := n3_; have BK222 := n4_; have BK238 := n5_; have HB := n6_; clear n0_ n1_ n2_ n3_ n4_ n5_ n6_; (try clear hb); (try clear hb2); (try clear hk); (try clear hi); (try clear ho0)
      refine hK.out _ _ ⟨(blk_cell BK221.out 0).trans rfl, (blk_cell BK221.out 1).trans rfl, (blk_cell BK222.out 0).trans rfl, (blk_cell BK222.out 1).trans rfl⟩ (fun hHeld => ?_)
      clear hK K; refine norm_ (a' := ?_) ?_ ?_; rotate_left
      ·show Act.put _ (some 32) _ = _
       simp only [Act.put, List.setIfInBounds_toArray, List.set_cons_zero, List.set_cons_succ, i64_w, i32_w]
       rfl
      refine pure_ (i := 5) (N := some 27) (v := ?_) (a' := ?_) #[true, true, true, true, true, true, false, false, true, false, false] rfl rfl (any_of HT_.out (by kernel_rfl)) (fun _ _ _ h => h) (Or.inl ⟨by rfl, ?_⟩) ?_ ?_
      rotate_left
      ·intro w'
       go_simp; with_reducible rfl
      rotate_left
      ·simp only [Act.put, List.setIfInBounds_toArray, List.set_cons_zero, List.set_cons_succ, i64_w, i32_w]
       rfl
      refine pure_ (i := 6) (N := some 33) (v := ?_) (a' := ?_) #[true, true, true, true, true, true, true, false, true, false, false] rfl rfl (any_of HT_.out (by kernel_rfl)) (fun _ _ _ h => h) (Or.inl ⟨by rfl, ?_⟩) ?_ ?_
      rotate_left
      ·intro w'
       go_simp; with_reducible rfl
      rotate_left
      ·simp only [Act.put, List.setIfInBounds_toArray, List.set_cons_zero, List.set_cons_succ, i64_w, i32_w]
       rfl
      refine pure_ (i := 7) (N := some 34) (v := ?_) (a' := ?_) #[true, true, true, true, true, true, true, true, true, false, false] rfl rfl (any_of HT_.out (by kernel_rfl)) (fun _ _ _ h => h) (Or.inl ⟨by rfl, ?_⟩) ?_ ?_
      rotate_left
      ·intro w'
       go_simp; with_reducible rfl
      rotate_left
      ·simp only [Act.put, List.setIfInBounds_toArray, List.set_cons_zero, List.set_cons_succ, i64_w, i32_w]
       rfl
      exact norm_ a50_ (hCont (.slice Ao37 t226.length co37, .slice Ao38 t230.length co38, v235, gb238) _ ⟨hHeld, a69_, a70_, a71_, a2_, a3_, a4_, GW238.out, GE238.out, NB221_238.out, NB238_221.out, NB222_238.out, NB238_222.out, a10_⟩)
    ·refine box_step ?hg (N := 6) ?hd (cs := #[.int .i16 0, .slice none 0 0]) (t := 45) ?hr ?_; (case hd => rfl); (case hg => rfl); (case hr => exact a101_)
     intro gb238 hg w34 hbox hb
     have n0_ := Aside0.mk (blk_below (g := gb221) a2_ hb)
     have n1_ := Aside0.mk (blk_below (g := gb222) a3_ hb)
     have n2_ := Aside0.mk (below_step a15_ hb)
     have n3_ := Aside0.mk (hbox)
     have n4_ := Aside0.mk ((a89_ : w.heap.size ≤ gb238))
     have n5_ := Aside0.mk ((a89_ : w.heap.size ≤ gb238))
     have n6_ := Aside0.mk ((a77_ : gb221 ≠ gb238))
     have n7_ := Aside0.mk ((a78_ : gb238 ≠ gb221))
     have n8_ := Aside0.mk ((a79_ : gb222 ≠ gb238))
     have n9_ := Aside0.mk ((a80_ : gb238 ≠ gb222))
     clear BK221 BK222 HB; have BK221 := n0_; have BK222 := n1_; have HB := n2_; have BK238 := n3_; have GW238 := n4_; have GE238 := n5_; have NB221_238 := n6_; have NB238_221 := n7_; have NB222_238 := n8_; have NB238_222 := n9_; clear n0_ n1_ n2_ n3_ n4_ n5_ n6_ n7_ n8_ n9_ hb hbox hg
     refine hK.out _ _ ⟨(blk_cell BK221.out 0).trans rfl, (blk_cell BK221.out 1).trans rfl, (blk_cell BK222.out 0).trans rfl, (blk_cell BK222.out 1).trans rfl⟩ (fun hHeld => ?_)
     clear hK K; refine norm_ (a' := ?_) ?_ ?_; rotate_left
     ·show Act.put _ (some 6) _ = _
      simp only [Act.put, List.setIfInBounds_toArray, List.set_cons_zero, List.set_cons_succ, i64_w, i32_w]
      rfl
     refine one_ (i := 1) (N := some 29) #[true, true, true, false, false, false, false, false, true, false, false] rfl rfl (one_of HT_.out (by kernel_rfl)) (by decide) (fun K hK => ?_)
     refine goes_ Try.func30 (by kernel_rfl) rfl #[.agg #[.int .i16 a0_0, .slice A0_1 l0_1.length c0_1]] (by rfl) rfl rfl a6_ ?_
     with_reducible refine (laws_toProgram.calls k a0_0 _ _ l0_1 t225 t226 _ ?side1 ?side2 A19.out).mono ?_
     (case side1 => exact a95_); (case side2 => exact HC0_1.out)
     rintro e w35 ⟨v227, rfl, ho0, hb⟩
     refine ⟨_, rfl, ?_⟩
     have n0_ := Aside0.mk (Kd.R_lower ho0 (below_size a10_))
     have n1_ := Aside0.mk (blk_below (g := gb221) a2_ hb)
     have n2_ := Aside0.mk (blk_below (g := gb222) a3_ hb)
     have n3_ := Aside0.mk (blk_below (g := gb238) a4_ hb)
     have n4_ := Aside0.mk (below_step a10_ hb)
     clear BK221 BK222 BK238 HB; have HO228 := n0_; have BK221 := n1_; have BK222 := n2_; have BK238 := n3_; have HB := n4_; clear n0_ n1_ n2_ n3_ n4_; (try clear hb); (try clear hb2); (try clear hk); (try clear hi); (try clear ho0)
     refine hK.out _ _ ⟨(blk_cell BK221.out 0).trans rfl, (blk_cell BK221.out 1).trans rfl, (blk_cell BK222.out 0).trans rfl, (blk_cell BK222.out 1).trans rfl⟩ (fun hHeld => ?_)
     clear hK K; refine norm_ (a' := ?_) ?_ ?_; rotate_left
     ·show Act.put _ (some 29) _ = _
      simp only [Act.put, List.setIfInBounds_toArray, List.set_cons_zero, List.set_cons_succ, i64_w, i32_w]
      rfl
     refine one_ (i := 3) (N := some 31) #[true, true, true, true, false, false, false, false, true, false, false] rfl rfl (one_of HT_.out (by kernel_rfl)) (by decide) (fun K hK => ?_)
     refine goes_ Try.func30 (by kernel_rfl) rfl #[.agg #[.int .i16 a1_0, .slice A1_1 l1_1.length c1_1]] (by rfl) rfl rfl a6_ ?_
     with_reducible refine (laws_toProgram.calls k a1_0 _ _ l1_1 t229 t230 _ ?side1 ?side2 A20.out).mono ?_
     (case side1 => exact a96_); (case side2 => exact HC1_1.out)
     rintro e w36 ⟨v231, rfl, ho0, hb⟩
     refine ⟨_, rfl, ?_⟩
     have n0_ := Aside0.mk (Kd.R_elder' a16_ (Kd.R_base ho0) hb)
     have n1_ := Aside0.mk (Kd.R_lower (Kd.R_new' ho0 (Kd.R_lt a16_)) (below_size a10_))
     have n2_ := Aside0.mk (blk_below (g := gb221) a2_ hb)
     have n3_ := Aside0.mk (blk_below (g := gb222) a3_ hb)
     have n4_ := Aside0.mk (blk_below (g := gb238) a4_ hb)
     have n5_ := Aside0.mk (below_step a10_ hb)
     clear HO228 BK221 BK222 BK238 HB; have HO228 := n0_; have HO232 := n1_; have BK221 := n2_; have BK222 := n3_; have BK238 := n4_; have HB := n5_; clear n0_ n1_ n2_ n3_ n4_ n5_; (try clear hb); (try clear hb2); (try clear hk); (try clear hi); (try clear ho0)
     obtain ⟨Ao37, co37, eo37⟩ := Kd.R_slice HO228.out
     (first | subst eo37 | (injection eo37 with f1_ f2_ f3_; have f4_ := f1_.symm; have f5_ := f3_.symm; clear f1_ f2_ f3_; subst f4_; subst f5_))
     obtain ⟨Ao38, co38, eo38⟩ := Kd.R_slice HO232.out
     (first | subst eo38 | (injection eo38 with f1_ f2_ f3_; have f4_ := f1_.symm; have f5_ := f3_.symm; clear f1_ f2_ f3_; subst f4_; subst f5_))
     refine hK.out _ _ ⟨(blk_cell BK221.out 0).trans rfl, (blk_cell BK221.out 1).trans rfl, (blk_cell BK222.out 0).trans rfl, (blk_cell BK222.out 1).trans rfl⟩ (fun hHeld => ?_)
     clear hK K; refine norm_ (a' := ?_) ?_ ?_; rotate_left
     ·show Act.put _ (some 31) _ = _
      simp only [Act.put, List.setIfInBounds_toArray, List.set_cons_zero, List.set_cons_succ, i64_w, i32_w]
      rfl
     refine one_ (i := 4) (N := some 32) #[true, true, true, true, true, false, false, false, true, false, false] rfl rfl (one_of HT_.out (by kernel_rfl)) (by decide) (fun K hK => ?_)
     refine goes_ Try.func35 (by kernel_rfl) rfl #[.agg #[.int .i16 t225, .slice Ao37 t226.length co37], .agg #[.int .i16 t229, .slice Ao38 t230.length co38]] (by rfl) rfl rfl a6_ ?_
     with_reducible refine (spec_JoinPrograms.calls k t225 _ _ t226 t229 _ _ t230 t233 t234 t237 _ ?side1 ?side2 ?side3 ?side4 A21.out).mono ?_
     (case side1 => exact a102_)
     (case side2 => exact (Kd.R_reads' HO228.out).2.1)
     (case side3 => exact a103_)
     (case side4 => exact (Kd.R_reads' HO232.out).2.1)
     rintro e w39 ⟨v235, rfl, ho0, hb⟩
     refine ⟨_, rfl, ?_⟩
     have n0_ := Aside0.mk (Kd.R_elder' a16_ (Kd.R_base ho0) hb)
     have n1_ := Aside0.mk (Kd.R_elder' a19_ (Kd.R_base ho0) hb)
     have n2_ := Aside0.mk (Kd.R_lower (Kd.R_new' (Kd.R_new' ho0 (Kd.R_lt a16_)) (Kd.R_lt a19_)) (below_size a10_))
     have n3_ := Aside0.mk (blk_below (g := gb221) a2_ hb)
     have n4_ := Aside0.mk (blk_below (g := gb222) a3_ hb)
     have n5_ := Aside0.mk (blk_below (g := gb238) a4_ hb)
     have n6_ := Aside0.mk (below_step a10_ hb)
     clear HO228 HO232 BK221 BK222 BK238 HB; have HO228 := n0_; have HO232 := n1_; have HO236 := n2_; have BK221 := n3_; have BK222 := n4_; have BK238 := n5_; have HB := n6_; clear n0_ n1_ n2_ n3_ n4_ n5_ n6_; (try clear hb); (try clear hb2); (try clear hk); (try clear hi); (try clear ho0)
     refine hK.out _ _ ⟨(blk_cell BK221.out 0).trans rfl, (blk_cell BK221.out 1).trans rfl, (blk_cell BK222.out 0).trans rfl, (blk_cell BK222.out 1).trans rfl⟩ (fun hHeld => ?_)
     clear hK K; refine norm_ (a' := ?_) ?_ ?_; rotate_left
     ·show Act.put _ (some 32) _ = _
      simp only [Act.put, List.setIfInBounds_toArray, List.set_cons_zero, List.set_cons_succ, i64_w, i32_w]
      rfl
     refine pure_ (i := 5) (N := some 27) (v := ?_) (a' := ?_) #[true, true, true, true, true, true, false, false, true, false, false] rfl rfl (any_of HT_.out (by kernel_rfl)) (fun _ _ _ h => h) (Or.inl ⟨by rfl, ?_⟩) ?_ ?_
     rotate_left
     ·intro w'
      go_simp; with_reducible rfl
     rotate_left
     ·simp only [Act.put, List.setIfInBounds_toArray, List.set_cons_zero, List.set_cons_succ, i64_w, i32_w]
      rfl
     refine pure_ (i := 6) (N := some 33) (v := ?_) (a' := ?_) #[true, true, true, true, true, true, true, false, true, false, false] rfl rfl (any_of HT_.out (by kernel_rfl)) (fun _ _ _ h => h) (Or.inl ⟨by rfl, ?_⟩) ?_ ?_
     rotate_left
     ·intro w'
      go_simp; with_reducible rfl
     rotate_left
     ·simp only [Act.put, List.setIfInBounds_toArray, List.set_cons_zero, List.set_cons_succ, i64_w, i32_w]
      rfl
     refine pure_ (i := 7) (N := some 34) (v := ?_) (a' := ?_) #[true, true, true, true, true, true, true, true, true, false, false] rfl rfl (any_of HT_.out (by kernel_rfl)) (fun _ _ _ h => h) (Or.inl ⟨by rfl, ?_⟩) ?_ ?_
     rotate_left
     ·intro w'
      go_simp; with_reducible rfl
     rotate_left
     ·simp only [Act.put, List.setIfInBounds_toArray, List.set_cons_zero, List.set_cons_succ, i64_w, i32_w]
      rfl
     exact norm_ a50_ (hCont (.slice Ao37 t226.length co37, .slice Ao38 t230.length co38, v235, gb238) _ ⟨hHeld, a69_, a70_, a71_, a2_, a3_, a4_, GW238.out, GE238.out, NB221_238.out, NB238_221.out, NB222_238.out, NB238_222.out, a10_⟩)
   rintro ⟨v227, v231, v235, gb238⟩ w40 ⟨hS_, h0_, h1_, h2_, h3_, h4_, h5_, h6_, h7_, h8_, h9_, h10_, h11_, h12_⟩
   have n0_ : Aside0 (Kd.R k125 125 w40 w.heap.size (fun k_ => some k_ ≠ (v231 : Value).ownBlock ∧ some k_ ≠ (v235 : Value).ownBlock) v227 t226) := ⟨h0_⟩
   have n1_ : Aside0 (Kd.R k125 125 w40 w.heap.size (fun k_ => some k_ ≠ (v227 : Value).ownBlock ∧ some k_ ≠ (v235 : Value).ownBlock) v231 t230) := ⟨h1_⟩
   have n2_ : Aside0 (Kd.R k125 125 w40 w.heap.size (fun k_ => some k_ ≠ (v227 : Value).ownBlock ∧ some k_ ≠ (v231 : Value).ownBlock) v235 t234) := ⟨h2_⟩
   have n3_ : Aside0 (w40.heap[gb221]? = some (.cells #[.int .i16 a0_0, .slice A0_1 l0_1.length c0_1] 41 (0, 0))) := ⟨h3_⟩
   have n4_ : Aside0 (w40.heap[gb222]? = some (.cells #[.int .i16 a1_0, .slice A1_1 l1_1.length c1_1] 41 (0, 0))) := ⟨h4_⟩
   have n5_ : Aside0 (w40.heap[gb238]? = some (.cells #[.int .i16 0, .slice none 0 0] 45 (0, 0))) := ⟨h5_⟩
   have n6_ : Aside0 (w.heap.size ≤ gb238) := ⟨h6_⟩
   have n7_ : Aside0 (w.heap.size ≤ gb238) := ⟨h7_⟩
   have n8_ : Aside0 (gb221 ≠ gb238) := ⟨h8_⟩
   have n9_ : Aside0 (gb238 ≠ gb221) := ⟨h9_⟩
   have n10_ : Aside0 (gb222 ≠ gb238) := ⟨h10_⟩
   have n11_ : Aside0 (gb238 ≠ gb222) := ⟨h11_⟩
   have n12_ : Aside0 (Below w.heap.size w w40) := ⟨h12_⟩
   clear BK221 BK222 HB h0_ h1_ h2_ h3_ h4_ h5_ h6_ h7_ h8_ h9_ h10_ h11_ h12_; have HO228 := n0_; have HO232 := n1_; have HO236 := n2_; have BK221 := n3_; have BK222 := n4_; have BK238 := n5_; have GW238 := n6_; have GE238 := n7_; have NB221_238 := n8_; have NB238_221 := n9_; have NB222_238 := n10_; have NB238_222 := n11_; have HB := n12_; clear n0_ n1_ n2_ n3_ n4_ n5_ n6_ n7_ n8_ n9_ n10_ n11_ n12_
   have hHeld : w40.cell? ⟨gb221, 0, none⟩ = some (.int .i16 a0_0) ∧ w40.cell? ⟨gb221, 1, none⟩ = some (.slice A0_1 l0_1.length c0_1) ∧ w40.cell? ⟨gb222, 0, none⟩ = some (.int .i16 a1_0) ∧ w40.cell? ⟨gb222, 1, none⟩ = some (.slice A1_1 l1_1.length c1_1) := hS_
   obtain ⟨Ao42, co42, eo42⟩ := Kd.R_slice HO236.out
   (first | subst eo42 | (injection eo42 with f1_ f2_ f3_; have f4_ := f1_.symm; have f5_ := f3_.symm; clear f1_ f2_ f3_; subst f4_; subst f5_))
   refine norm_ (a' := ?_) ?_ ?_; rotate_left
   ·simp only [putAll, Act.put, List.setIfInBounds_toArray, List.set_cons_zero, List.set_cons_succ]
    rfl
   refine one_ (i := 9) (N := none) #[true, true, true, true, true, true, true, true, true, true, false] rfl rfl (one_of HT_.out (by kernel_rfl)) (by decide) (fun K hK => ?_)
   have hs41 : w40.cell? ⟨gb238, 0, none⟩ = some (.int .i16 0) := (blk_cell BK238.out 0).trans rfl
   have hfs41 := blk_frozen BK238.out 0
   have hns41_0 := NB221_238.out
   have hns41_1 := NB222_238.out
   have hms41_0 := NB238_221.out
   have hms41_1 := NB238_222.out
   have hs43 : w40.cell? ⟨gb238, 1, none⟩ = some (.slice none 0 0) := (blk_cell BK238.out 1).trans rfl
   have hfs43 := blk_frozen BK238.out 1
   have hns43_0 := NB221_238.out
   have hns43_1 := NB222_238.out
   have hms43_0 := NB238_221.out
   have hms43_1 := NB238_222.out
   refine skip_ (w1 := ?_) (by rfl) rfl ?_ ?_
   rotate_left
   ·go_simp
    rfl
   refine hK.out _ _ ⟨((cell_far (p := ⟨gb238, _, none⟩) NB221_238.out _).trans (((cell_far (p := ⟨gb238, _, none⟩) NB221_238.out _).trans (hHeld.1)))), ((cell_far (p := ⟨gb238, _, none⟩) NB221_238.out _).trans (((cell_far (p := ⟨gb238, _, none⟩) NB221_238.out _).trans (hHeld.2.1)))), ((cell_far (p := ⟨gb238, _, none⟩) NB222_238.out _).trans (((cell_far (p := ⟨gb238, _, none⟩) NB222_238.out _).trans (hHeld.2.2.1)))), ((cell_far (p := ⟨gb238, _, none⟩) NB222_238.out _).trans (((cell_far (p := ⟨gb238, _, none⟩) NB222_238.out _).trans (hHeld.2.2.2))))⟩ (fun hHeld => ?_)
   clear hK K
   refine pure_ (i := 10) (N := some 7) (v := ?_) (a' := ?_) #[true, true, true, true, true, true, true, true, true, true, true] rfl rfl (any_of HT_.out (by kernel_rfl)) (fun _ _ _ h => h) (Or.inl ⟨by rfl, ?_⟩) ?_ ?_
   rotate_left
   ·intro w'
    go_simp; with_reducible rfl
   rotate_left
   ·simp only [Act.put, List.setIfInBounds_toArray, List.set_cons_zero, List.set_cons_succ, i64_w, i32_w]
    rfl
   refine done_ (done_of HT_.out (by kernel_rfl)) ?_
   have hnb44 := NB221_238.out
   have hnc44 := NB238_221.out
   have hcz45_0 : w40.cell? ⟨gb221, 0, none⟩ = some (.int .i16 a0_0) := (blk_cell BK221.out 0).trans rfl
   have hcz45_1 : w40.cell? ⟨gb221, 1, none⟩ = some (.slice A0_1 l0_1.length c0_1) := (blk_cell BK221.out 1).trans rfl
   have hfz45_0 := blk_frozen BK221.out 0
   have hfz45_1 := blk_frozen BK221.out 1
   go_upto_region 12 with (first | ((with_reducible refine gate_callee (f := 30) rfl ?_); refine goesL_ (some 36) rfl rfl Try.func30 (by kernel_rfl) rfl #[.agg #[.int .i16 a0_0, .slice A0_1 l0_1.length c0_1]] rfl a6_ ?_; (with_reducible refine (laws_toProgram.calls k a0_0 _ _ l0_1 t239 t240 _ ?side1 ?side2 A22.out).mono ?_); (case side1 => exact Kd.C_below HR0_1.out a10_); (case side2 => exact HC0_1.out); rintro e w46 ⟨v241, rfl, ho0, hb⟩; refine ⟨_, rfl, ?_⟩; have n0_ := Aside0.mk (Kd.R_elder' a57_ (Kd.R_base ho0) hb); have n1_ := Aside0.mk (Kd.R_elder' a58_ (Kd.R_base ho0) hb); have n2_ := Aside0.mk (Kd.R_elder' a59_ (Kd.R_base ho0) hb); have n3_ := Aside0.mk (Kd.R_lower (Kd.R_new' (Kd.R_new' (Kd.R_new' ho0 (Kd.R_lt a57_)) (Kd.R_lt a58_)) (Kd.R_lt a59_)) (below_size a10_)); have n4_ := Aside0.mk (blk_below (g := gb221) (o := .cells #[.int .i16 a0_0, .slice A0_1 l0_1.length c0_1] 41 (0, 0)) (by (with_reducible repeat (first | refine blk_drewN ?_ _ | refine blk_drew ?_ | refine blk_alloc ?_ _)); refine blk_far ?_ NB221_238.out _; (with_reducible repeat (first | refine blk_drewN ?_ _ | refine blk_drew ?_ | refine blk_alloc ?_ _)); refine blk_far ?_ NB221_238.out _; (with_reducible repeat (first | refine blk_drewN ?_ _ | refine blk_drew ?_ | refine blk_alloc ?_ _)); exact BK221.out) hb); have n5_ := Aside0.mk (blk_below (g := gb222) (o := .cells #[.int .i16 a1_0, .slice A1_1 l1_1.length c1_1] 41 (0, 0)) (by (with_reducible repeat (first | refine blk_drewN ?_ _ | refine blk_drew ?_ | refine blk_alloc ?_ _)); refine blk_far ?_ NB222_238.out _; (with_reducible repeat (first | refine blk_drewN ?_ _ | refine blk_drew ?_ | refine blk_alloc ?_ _)); refine blk_far ?_ NB222_238.out _; (with_reducible repeat (first | refine blk_drewN ?_ _ | refine blk_drew ?_ | refine blk_alloc ?_ _)); exact BK222.out) hb); have n6_ := Aside0.mk (blk_below (g := gb238) (o := .cells #[.int .i16 t233, .slice Ao42 t234.length co42] 45 (0, 0)) (by (with_reducible repeat (first | refine blk_drewN ?_ _ | refine blk_drew ?_ | refine blk_alloc ?_ _)); refine blk_put (cs := #[.int .i16 t233, .slice none 0 0]) ?_ 1 _ rfl; (with_reducible repeat (first | refine blk_drewN ?_ _ | refine blk_drew ?_ | refine blk_alloc ?_ _)); refine blk_put (cs := #[.int .i16 0, .slice none 0 0]) ?_ 0 _ rfl; (with_reducible repeat (first | refine blk_drewN ?_ _ | refine blk_drew ?_ | refine blk_alloc ?_ _)); exact BK238.out) hb); have n7_ := Aside0.mk (below_step a10_ hb); clear HO228; clear HO232; clear HO236; clear BK221; clear BK222; clear BK238; clear HB; have HO228 := n0_; have HO232 := n1_; have HO236 := n2_; have HO242 := n3_; have BK221 := n4_; have BK222 := n5_; have BK238 := n6_; have HB := n7_; clear n0_ n1_ n2_ n3_ n4_ n5_ n6_ n7_; (try clear hb); (try clear hb2); (try clear hk); (try clear hi); (try clear ho0)) | ((with_reducible refine gate_dst (N := 8) rfl ?_); refine box_event ?hg (N := 8) ?hd (cs := #[.int .i16 0, .slice none 0 0]) (t := 45) ?hr ?_; (case hd => rfl); (case hg => rfl); (case hr => exact a101_); intro gb243 hg w47 hbox hb; have n0_ := Aside0.mk (Kd.R_below a16_ hb); have n1_ := Aside0.mk (Kd.R_below a19_ hb); have n2_ := Aside0.mk (Kd.R_below a68_ hb); have n3_ := Aside0.mk (Kd.R_below a72_ hb); have n4_ := Aside0.mk (blk_below (g := gb221) a2_ hb); have n5_ := Aside0.mk (blk_below (g := gb222) a3_ hb); have n6_ := Aside0.mk (blk_below (g := gb238) a4_ hb); have n7_ := Aside0.mk (below_step a10_ hb); have n8_ := Aside0.mk (hbox); have n9_ := Aside0.mk ((by rw [hg]; exact (below_size a10_) : w.heap.size ≤ gb243)); have n10_ := Aside0.mk ((by rw [hg]; exact (below_size a10_) : w.heap.size ≤ gb243)); have n11_ := Aside0.mk ((a77_ : gb221 ≠ gb243)); have n12_ := Aside0.mk ((a78_ : gb243 ≠ gb221)); have n13_ := Aside0.mk ((a79_ : gb222 ≠ gb243)); have n14_ := Aside0.mk ((a80_ : gb243 ≠ gb222)); have n15_ := Aside0.mk ((a81_ : gb238 ≠ gb243)); have n16_ := Aside0.mk ((a82_ : gb243 ≠ gb238)); clear HO228; clear HO232; clear HO236; clear HO242; clear BK221; clear BK222; clear BK238; clear HB; have HO228 := n0_; have HO232 := n1_; have HO236 := n2_; have HO242 := n3_; have BK221 := n4_; have BK222 := n5_; have BK238 := n6_; have HB := n7_; have BK243 := n8_; have GW243 := n9_; have GE243 := n10_; have NB221_243 := n11_; have NB243_221 := n12_; have NB222_243 := n13_; have NB243_222 := n14_; have NB238_243 := n15_; have NB243_238 := n16_; clear n0_ n1_ n2_ n3_ n4_ n5_ n6_ n7_ n8_ n9_ n10_ n11_ n12_ n13_ n14_ n15_ n16_; clear hb hbox hg; have hnb48 := NB243_221.out; have hnc48 := NB221_243.out; have hnb49 := NB243_222.out; have hnc49 := NB222_243.out; have hnb50 := NB243_238.out; have hnc50 := NB238_243.out; have hcz51_0 : w47.cell? ⟨gb243, 0, none⟩ = some (.int .i16 0) := (blk_cell BK243.out 0).trans rfl; have hcz51_1 : w47.cell? ⟨gb243, 1, none⟩ = some (.slice none 0 0) := (blk_cell BK243.out 1).trans rfl; have hfz51_0 := blk_frozen BK243.out 0; have hfz51_1 := blk_frozen BK243.out 1; obtain ⟨Ao52, co52, eo52⟩ := Kd.R_slice HO242.out; subst eo52; have hnb53 := NB222_238.out; have hnc53 := NB238_222.out; have hcz54_0 : w47.cell? ⟨gb222, 0, none⟩ = some (.int .i16 a1_0) := (blk_cell BK222.out 0).trans rfl; have hcz54_1 : w47.cell? ⟨gb222, 1, none⟩ = some (.slice A1_1 l1_1.length c1_1) := (blk_cell BK222.out 1).trans rfl; have hfz54_0 := blk_frozen BK222.out 0; have hfz54_1 := blk_frozen BK222.out 1) | ((with_reducible refine gate_callee (f := 30) rfl ?_); refine goesL_ (some 38) rfl rfl Try.func30 (by kernel_rfl) rfl #[.agg #[.int .i16 a1_0, .slice A1_1 l1_1.length c1_1]] rfl a6_ ?_; (with_reducible refine (laws_toProgram.calls k a1_0 _ _ l1_1 t244 t245 _ ?side1 ?side2 A23.out).mono ?_); (case side1 => exact Kd.C_below HR1_1.out a20_); (case side2 => exact HC1_1.out); rintro e w55 ⟨v246, rfl, ho0, hb⟩; refine ⟨_, rfl, ?_⟩; have n0_ := Aside0.mk (Kd.R_elder' a60_ (Kd.R_base ho0) hb); have n1_ := Aside0.mk (Kd.R_elder' a61_ (Kd.R_base ho0) hb); have n2_ := Aside0.mk (Kd.R_elder' a62_ (Kd.R_base ho0) hb); have n3_ := Aside0.mk (Kd.R_elder' a63_ (Kd.R_base ho0) hb); have n4_ := Aside0.mk (Kd.R_lower (Kd.R_new' (Kd.R_new' (Kd.R_new' (Kd.R_new' ho0 (Kd.R_lt a60_)) (Kd.R_lt a61_)) (Kd.R_lt a62_)) (Kd.R_lt a63_)) (below_size a20_)); have n5_ := Aside0.mk (blk_below (g := gb221) (o := .cells #[.int .i16 a0_0, .slice A0_1 l0_1.length c0_1] 41 (0, 0)) (by (with_reducible repeat (first | refine blk_drewN ?_ _ | refine blk_drew ?_ | refine blk_alloc ?_ _)); refine blk_far ?_ NB221_243.out _; (with_reducible repeat (first | refine blk_drewN ?_ _ | refine blk_drew ?_ | refine blk_alloc ?_ _)); refine blk_far ?_ NB221_243.out _; (with_reducible repeat (first | refine blk_drewN ?_ _ | refine blk_drew ?_ | refine blk_alloc ?_ _)); exact BK221.out) hb); have n6_ := Aside0.mk (blk_below (g := gb222) (o := .cells #[.int .i16 a1_0, .slice A1_1 l1_1.length c1_1] 41 (0, 0)) (by (with_reducible repeat (first | refine blk_drewN ?_ _ | refine blk_drew ?_ | refine blk_alloc ?_ _)); refine blk_far ?_ NB222_243.out _; (with_reducible repeat (first | refine blk_drewN ?_ _ | refine blk_drew ?_ | refine blk_alloc ?_ _)); refine blk_far ?_ NB222_243.out _; (with_reducible repeat (first | refine blk_drewN ?_ _ | refine blk_drew ?_ | refine blk_alloc ?_ _)); exact BK222.out) hb); have n7_ := Aside0.mk (blk_below (g := gb238) (o := .cells #[.int .i16 t233, .slice Ao42 t234.length co42] 45 (0, 0)) (by (with_reducible repeat (first | refine blk_drewN ?_ _ | refine blk_drew ?_ | refine blk_alloc ?_ _)); refine blk_far ?_ NB238_243.out _; (with_reducible repeat (first | refine blk_drewN ?_ _ | refine blk_drew ?_ | refine blk_alloc ?_ _)); refine blk_far ?_ NB238_243.out _; (with_reducible repeat (first | refine blk_drewN ?_ _ | refine blk_drew ?_ | refine blk_alloc ?_ _)); exact BK238.out) hb); have n8_ := Aside0.mk (blk_below (g := gb243) (o := .cells #[.int .i16 t239, .slice Ao52 t240.length co52] 45 (0, 0)) (by (with_reducible repeat (first | refine blk_drewN ?_ _ | refine blk_drew ?_ | refine blk_alloc ?_ _)); refine blk_put (cs := #[.int .i16 t239, .slice none 0 0]) ?_ 1 _ rfl; (with_reducible repeat (first | refine blk_drewN ?_ _ | refine blk_drew ?_ | refine blk_alloc ?_ _)); refine blk_put (cs := #[.int .i16 0, .slice none 0 0]) ?_ 0 _ rfl; (with_reducible repeat (first | refine blk_drewN ?_ _ | refine blk_drew ?_ | refine blk_alloc ?_ _)); exact BK243.out) hb); have n9_ := Aside0.mk (below_step a20_ hb); clear HO228; clear HO232; clear HO236; clear HO242; clear BK221; clear BK222; clear BK238; clear BK243; clear HB; have HO228 := n0_; have HO232 := n1_; have HO236 := n2_; have HO242 := n3_; have HO247 := n4_; have BK221 := n5_; have BK222 := n6_; have BK238 := n7_; have BK243 := n8_; have HB := n9_; clear n0_ n1_ n2_ n3_ n4_ n5_ n6_ n7_ n8_ n9_; (try clear hb); (try clear hb2); (try clear hk); (try clear hi); (try clear ho0)) | ((with_reducible refine gate_dst (N := 9) rfl ?_); refine box_event ?hg (N := 9) ?hd (cs := #[.int .i16 0, .slice none 0 0]) (t := 45) ?hr ?_; (case hd => rfl); (case hg => rfl); (case hr => exact a101_); intro gb248 hg w56 hbox hb; have n0_ := Aside0.mk (Kd.R_below a16_ hb); have n1_ := Aside0.mk (Kd.R_below a19_ hb); have n2_ := Aside0.mk (Kd.R_below a68_ hb); have n3_ := Aside0.mk (Kd.R_below a72_ hb); have n4_ := Aside0.mk (Kd.R_below a73_ hb); have n5_ := Aside0.mk (blk_below (g := gb221) a2_ hb); have n6_ := Aside0.mk (blk_below (g := gb222) a3_ hb); have n7_ := Aside0.mk (blk_below (g := gb238) a4_ hb); have n8_ := Aside0.mk (blk_below (g := gb243) a7_ hb); have n9_ := Aside0.mk (below_step a20_ hb); have n10_ := Aside0.mk (hbox); have n11_ := Aside0.mk ((by rw [hg]; exact (below_size a20_) : w.heap.size ≤ gb248)); have n12_ := Aside0.mk ((by rw [hg]; exact (below_size a20_) : w.heap.size ≤ gb248)); have n13_ := Aside0.mk ((a77_ : gb221 ≠ gb248)); have n14_ := Aside0.mk ((a78_ : gb248 ≠ gb221)); have n15_ := Aside0.mk ((a79_ : gb222 ≠ gb248)); have n16_ := Aside0.mk ((a80_ : gb248 ≠ gb222)); have n17_ := Aside0.mk ((a81_ : gb238 ≠ gb248)); have n18_ := Aside0.mk ((a82_ : gb248 ≠ gb238)); have n19_ := Aside0.mk ((a93_ : gb243 ≠ gb248)); have n20_ := Aside0.mk ((a94_ : gb248 ≠ gb243)); clear HO228; clear HO232; clear HO236; clear HO242; clear HO247; clear BK221; clear BK222; clear BK238; clear BK243; clear HB; have HO228 := n0_; have HO232 := n1_; have HO236 := n2_; have HO242 := n3_; have HO247 := n4_; have BK221 := n5_; have BK222 := n6_; have BK238 := n7_; have BK243 := n8_; have HB := n9_; have BK248 := n10_; have GW248 := n11_; have GE248 := n12_; have NB221_248 := n13_; have NB248_221 := n14_; have NB222_248 := n15_; have NB248_222 := n16_; have NB238_248 := n17_; have NB248_238 := n18_; have NB243_248 := n19_; have NB248_243 := n20_; clear n0_ n1_ n2_ n3_ n4_ n5_ n6_ n7_ n8_ n9_ n10_ n11_ n12_ n13_ n14_ n15_ n16_ n17_ n18_ n19_ n20_; clear hb hbox hg; have hnb57 := NB248_221.out; have hnc57 := NB221_248.out; have hnb58 := NB248_222.out; have hnc58 := NB222_248.out; have hnb59 := NB248_238.out; have hnc59 := NB238_248.out; have hnb60 := NB248_243.out; have hnc60 := NB243_248.out; have hcz61_0 : w56.cell? ⟨gb248, 0, none⟩ = some (.int .i16 0) := (blk_cell BK248.out 0).trans rfl; have hcz61_1 : w56.cell? ⟨gb248, 1, none⟩ = some (.slice none 0 0) := (blk_cell BK248.out 1).trans rfl; have hfz61_0 := blk_frozen BK248.out 0; have hfz61_1 := blk_frozen BK248.out 1; obtain ⟨Ao62, co62, eo62⟩ := Kd.R_slice HO247.out; subst eo62) | ((with_reducible refine gate_store (t := 45) (p := 9) rfl ?_); refine store_event (t := 45) (p := 9) (v := ?vo_w63) (w1 := ((w56.setCell ⟨gb248, 0, none⟩ (.int .i16 t244)).setCell ⟨gb248, 1, none⟩ (.slice Ao62 t245.length co62))) ?hg ?ho ?hn ?hr ?_; (case ho => rfl); (case hg => rfl); (case hn => rfl); (case hr => exact a101_); intro w63 hw; have n0_ : Aside0 (Kd.R k125 125 w63 w.heap.size (fun k_ => some k_ ≠ (v231 : Value).ownBlock ∧ nbk k_ Ao42 t234.length co42 ∧ nbk k_ Ao52 t240.length co52 ∧ nbk k_ Ao62 t245.length co62) v227 t226) := ⟨(by rw [hw]; exact (by (with_reducible repeat (first | apply Kd.R_alloc | apply Kd.R_drewN | apply Kd.R_drew)); exact Kd.R_mono (Kd.R_far (p := ⟨gb248, 1, none⟩) (Kd.R_far (p := ⟨gb248, 0, none⟩) (Kd.R_types HO228.out BK248.out (by decide)) (fun _ hk => hk.2) (.int .i16 t244)) (fun _ hk => hk.2) (.slice Ao62 t245.length co62)) (fun _ hk => ⟨hk.1.1.1.1, ⟨hk.1.1.1.2, ⟨hk.1.1.2, hk.1.2⟩⟩⟩)))⟩; have n1_ : Aside0 (Kd.R k125 125 w63 w.heap.size (fun k_ => some k_ ≠ (v227 : Value).ownBlock ∧ nbk k_ Ao42 t234.length co42 ∧ nbk k_ Ao52 t240.length co52 ∧ nbk k_ Ao62 t245.length co62) v231 t230) := ⟨(by rw [hw]; exact (by (with_reducible repeat (first | apply Kd.R_alloc | apply Kd.R_drewN | apply Kd.R_drew)); exact Kd.R_mono (Kd.R_far (p := ⟨gb248, 1, none⟩) (Kd.R_far (p := ⟨gb248, 0, none⟩) (Kd.R_types HO232.out BK248.out (by decide)) (fun _ hk => hk.2) (.int .i16 t244)) (fun _ hk => hk.2) (.slice Ao62 t245.length co62)) (fun _ hk => ⟨hk.1.1.1.1, ⟨hk.1.1.1.2, ⟨hk.1.1.2, hk.1.2⟩⟩⟩)))⟩; have n2_ : Aside0 (Kd.R k125 125 w63 w.heap.size (fun k_ => some k_ ≠ (v227 : Value).ownBlock ∧ some k_ ≠ (v231 : Value).ownBlock ∧ nbk k_ Ao52 t240.length co52 ∧ nbk k_ Ao62 t245.length co62) (.slice Ao42 t234.length co42) t234) := ⟨(by rw [hw]; exact (by (with_reducible repeat (first | apply Kd.R_alloc | apply Kd.R_drewN | apply Kd.R_drew)); exact Kd.R_mono (Kd.R_far (p := ⟨gb248, 1, none⟩) (Kd.R_far (p := ⟨gb248, 0, none⟩) (Kd.R_types HO236.out BK248.out (by decide)) (fun _ hk => hk.2) (.int .i16 t244)) (fun _ hk => hk.2) (.slice Ao62 t245.length co62)) (fun _ hk => ⟨hk.1.1.1.1, ⟨hk.1.1.1.2, ⟨hk.1.1.2, hk.1.2⟩⟩⟩)))⟩; have n3_ : Aside0 (Kd.R k125 125 w63 w.heap.size (fun k_ => some k_ ≠ (v227 : Value).ownBlock ∧ some k_ ≠ (v231 : Value).ownBlock ∧ nbk k_ Ao42 t234.length co42 ∧ nbk k_ Ao62 t245.length co62) (.slice Ao52 t240.length co52) t240) := ⟨(by rw [hw]; exact (by (with_reducible repeat (first | apply Kd.R_alloc | apply Kd.R_drewN | apply Kd.R_drew)); exact Kd.R_mono (Kd.R_far (p := ⟨gb248, 1, none⟩) (Kd.R_far (p := ⟨gb248, 0, none⟩) (Kd.R_types HO242.out BK248.out (by decide)) (fun _ hk => hk.2) (.int .i16 t244)) (fun _ hk => hk.2) (.slice Ao62 t245.length co62)) (fun _ hk => ⟨hk.1.1.1.1.2, ⟨hk.1.1.1.2, ⟨hk.1.1.2, hk.1.2⟩⟩⟩)))⟩; have n4_ : Aside0 (Kd.R k125 125 w63 w.heap.size (fun k_ => some k_ ≠ (v227 : Value).ownBlock ∧ some k_ ≠ (v231 : Value).ownBlock ∧ nbk k_ Ao42 t234.length co42 ∧ nbk k_ Ao52 t240.length co52) (.slice Ao62 t245.length co62) t245) := ⟨(by rw [hw]; exact (by (with_reducible repeat (first | apply Kd.R_alloc | apply Kd.R_drewN | apply Kd.R_drew)); exact Kd.R_mono (Kd.R_far (p := ⟨gb248, 1, none⟩) (Kd.R_far (p := ⟨gb248, 0, none⟩) (Kd.R_types HO247.out BK248.out (by decide)) (fun _ hk => hk.2) (.int .i16 t244)) (fun _ hk => hk.2) (.slice Ao62 t245.length co62)) (fun _ hk => ⟨hk.1.1.1.1.2, ⟨hk.1.1.1.2, ⟨hk.1.1.2, hk.1.2⟩⟩⟩)))⟩; have n5_ : Aside0 (w63.heap[gb221]? = some (.cells #[.int .i16 a0_0, .slice A0_1 l0_1.length c0_1] 41 (0, 0))) := ⟨(by rw [hw]; exact (by (with_reducible repeat (first | refine blk_drewN ?_ _ | refine blk_drew ?_ | refine blk_alloc ?_ _)); refine blk_far ?_ NB221_248.out _; (with_reducible repeat (first | refine blk_drewN ?_ _ | refine blk_drew ?_ | refine blk_alloc ?_ _)); refine blk_far ?_ NB221_248.out _; (with_reducible repeat (first | refine blk_drewN ?_ _ | refine blk_drew ?_ | refine blk_alloc ?_ _)); exact BK221.out))⟩; have n6_ : Aside0 (w63.heap[gb222]? = some (.cells #[.int .i16 a1_0, .slice A1_1 l1_1.length c1_1] 41 (0, 0))) := ⟨(by rw [hw]; exact (by (with_reducible repeat (first | refine blk_drewN ?_ _ | refine blk_drew ?_ | refine blk_alloc ?_ _)); refine blk_far ?_ NB222_248.out _; (with_reducible repeat (first | refine blk_drewN ?_ _ | refine blk_drew ?_ | refine blk_alloc ?_ _)); refine blk_far ?_ NB222_248.out _; (with_reducible repeat (first | refine blk_drewN ?_ _ | refine blk_drew ?_ | refine blk_alloc ?_ _)); exact BK222.out))⟩; have n7_ : Aside0 (w63.heap[gb238]? = some (.cells #[.int .i16 t233, .slice Ao42 t234.length co42] 45 (0, 0))) := ⟨(by rw [hw]; exact (by (with_reducible repeat (first | refine blk_drewN ?_ _ | refine blk_drew ?_ | refine blk_alloc ?_ _)); refine blk_far ?_ NB238_248.out _; (with_reducible repeat (first | refine blk_drewN ?_ _ | refine blk_drew ?_ | refine blk_alloc ?_ _)); refine blk_far ?_ NB238_248.out _; (with_reducible repeat (first | refine blk_drewN ?_ _ | refine blk_drew ?_ | refine blk_alloc ?_ _)); exact BK238.out))⟩; have n8_ : Aside0 (w63.heap[gb243]? = some (.cells #[.int .i16 t239, .slice Ao52 t240.length co52] 45 (0, 0))) := ⟨(by rw [hw]; exact (by (with_reducible repeat (first | refine blk_drewN ?_ _ | refine blk_drew ?_ | refine blk_alloc ?_ _)); refine blk_far ?_ NB243_248.out _; (with_reducible repeat (first | refine blk_drewN ?_ _ | refine blk_drew ?_ | refine blk_alloc ?_ _)); refine blk_far ?_ NB243_248.out _; (with_reducible repeat (first | refine blk_drewN ?_ _ | refine blk_drew ?_ | refine blk_alloc ?_ _)); exact BK243.out))⟩; have n9_ : Aside0 (w63.heap[gb248]? = some (.cells #[.int .i16 t244, .slice Ao62 t245.length co62] 45 (0, 0))) := ⟨(by rw [hw]; exact (by (with_reducible repeat (first | refine blk_drewN ?_ _ | refine blk_drew ?_ | refine blk_alloc ?_ _)); refine blk_put (cs := #[.int .i16 t244, .slice none 0 0]) ?_ 1 _ rfl; (with_reducible repeat (first | refine blk_drewN ?_ _ | refine blk_drew ?_ | refine blk_alloc ?_ _)); refine blk_put (cs := #[.int .i16 0, .slice none 0 0]) ?_ 0 _ rfl; (with_reducible repeat (first | refine blk_drewN ?_ _ | refine blk_drew ?_ | refine blk_alloc ?_ _)); exact BK248.out))⟩; have n10_ : Aside0 (Below w.heap.size w w63) := ⟨(by rw [hw]; exact a18_)⟩; clear hw; clear HO228; clear HO232; clear HO236; clear HO242; clear HO247; clear BK221; clear BK222; clear BK238; clear BK243; clear BK248; clear HB; have HO228 := n0_; have HO232 := n1_; have HO236 := n2_; have HO242 := n3_; have HO247 := n4_; have BK221 := n5_; have BK222 := n6_; have BK238 := n7_; have BK243 := n8_; have BK248 := n9_; have HB := n10_; clear n0_ n1_ n2_ n3_ n4_ n5_ n6_ n7_ n8_ n9_ n10_; have hcz64_0 : w63.cell? ⟨gb243, 0, none⟩ = some (.int .i16 t239) := (blk_cell BK243.out 0).trans rfl; have hcz64_1 : w63.cell? ⟨gb243, 1, none⟩ = some (.slice Ao52 t240.length co52) := (blk_cell BK243.out 1).trans rfl; have hfz64_0 := blk_frozen BK243.out 0; have hfz64_1 := blk_frozen BK243.out 1; have hcz65_0 : w63.cell? ⟨gb248, 0, none⟩ = some (.int .i16 t244) := (blk_cell BK248.out 0).trans rfl; have hcz65_1 : w63.cell? ⟨gb248, 1, none⟩ = some (.slice Ao62 t245.length co62) := (blk_cell BK248.out 1).trans rfl; have hfz65_0 := blk_frozen BK248.out 0; have hfz65_1 := blk_frozen BK248.out 1) | ((with_reducible refine gate_callee (f := 36) rfl ?_); refine goesL_ (some 42) rfl rfl Try.func36 (by kernel_rfl) rfl #[.agg #[.int .i16 t239, .slice Ao52 t240.length co52], .agg #[.int .i16 t244, .slice Ao62 t245.length co62]] rfl a6_ ?_; (with_reducible refine (impl_JoinPrograms.calls k t239 (fun k_ => some k_ = (.slice Ao52 t240.length co52 : Value).ownBlock) _ _ t240 t244 (fun k_ => some k_ = (.slice Ao62 t245.length co62 : Value).ownBlock) _ _ t245 t249 t250 t253 _ ?side1 ?side2 A24.out).mono ?_); (case side1 => exact Kd.R_V (Kd.R_tight rfl (Kd.R_types (Kd.R_types (Kd.R_types (Kd.R_types (Kd.R_types (HO242.out) BK221.out (by decide)) BK222.out (by decide)) BK238.out (by decide)) BK243.out (by decide)) BK248.out (by decide)))); (case side2 => exact Kd.R_V (Kd.R_tight rfl (Kd.R_types (Kd.R_types (Kd.R_types (Kd.R_types (Kd.R_types (HO247.out) BK221.out (by decide)) BK222.out (by decide)) BK238.out (by decide)) BK243.out (by decide)) BK248.out (by decide)))); rintro e w66 ⟨v251, rfl, ho0, hb⟩; refine ⟨_, rfl, ?_⟩; have n0_ := Aside0.mk (Kd.R_elder' a16_ (Kd.R_base ho0) hb); have n1_ := Aside0.mk (Kd.R_elder' a19_ (Kd.R_base ho0) hb); have n2_ := Aside0.mk (Kd.R_elder' a68_ (Kd.R_base ho0) hb); have n3_ := Aside0.mk (Kd.R_elder' a72_ (Kd.R_base ho0) hb); have n4_ := Aside0.mk (Kd.R_elder' a73_ (Kd.R_base ho0) hb); have n5_ := Aside0.mk (Kd.R_lower (Kd.R_new' (Kd.R_new' (Kd.R_new' (Kd.R_new' (Kd.R_new' (Kd.R_mono (ok' := fun k_ => True) ho0 (fun _ hk_ => trivial)) (Kd.R_lt a16_)) (Kd.R_lt a19_)) (Kd.R_lt a68_)) (Kd.R_lt a72_)) (Kd.R_lt a73_)) (below_size a18_)); have n6_ := Aside0.mk (blk_below (g := gb221) a2_ hb); have n7_ := Aside0.mk (blk_below (g := gb222) a3_ hb); have n8_ := Aside0.mk (blk_below (g := gb238) a4_ hb); have n9_ := Aside0.mk (blk_below (g := gb243) a7_ hb); have n10_ := Aside0.mk (blk_below (g := gb248) a8_ hb); have n11_ := Aside0.mk (below_step a18_ hb); clear HO228; clear HO232; clear HO236; clear HO242; clear HO247; clear BK221; clear BK222; clear BK238; clear BK243; clear BK248; clear HB; have HO228 := n0_; have HO232 := n1_; have HO236 := n2_; have HO242 := n3_; have HO247 := n4_; have HO252 := n5_; have BK221 := n6_; have BK222 := n7_; have BK238 := n8_; have BK243 := n9_; have BK248 := n10_; have HB := n11_; clear n0_ n1_ n2_ n3_ n4_ n5_ n6_ n7_ n8_ n9_ n10_ n11_; (try clear hb); (try clear hb2); (try clear hk); (try clear hi); (try clear ho0)) | ((with_reducible refine gate_dst (N := 10) rfl ?_); refine box_event ?hg (N := 10) ?hd (cs := #[.int .i16 0, .slice none 0 0]) (t := 45) ?hr ?_; (case hd => rfl); (case hg => rfl); (case hr => exact a101_); intro gb254 hg w67 hbox hb; have n0_ := Aside0.mk (Kd.R_below a16_ hb); have n1_ := Aside0.mk (Kd.R_below a19_ hb); have n2_ := Aside0.mk (Kd.R_below a68_ hb); have n3_ := Aside0.mk (Kd.R_below a72_ hb); have n4_ := Aside0.mk (Kd.R_below a73_ hb); have n5_ := Aside0.mk (Kd.R_below (by (with_reducible repeat (first | apply Kd.R_alloc | apply Kd.R_drewN | apply Kd.R_drew)); exact HO252.out) hb); have n6_ := Aside0.mk (blk_below (g := gb221) a2_ hb); have n7_ := Aside0.mk (blk_below (g := gb222) a3_ hb); have n8_ := Aside0.mk (blk_below (g := gb238) a4_ hb); have n9_ := Aside0.mk (blk_below (g := gb243) a7_ hb); have n10_ := Aside0.mk (blk_below (g := gb248) a8_ hb); have n11_ := Aside0.mk (below_step a18_ hb); have n12_ := Aside0.mk (hbox); have n13_ := Aside0.mk ((by rw [hg]; exact (below_size a18_) : w.heap.size ≤ gb254)); have n14_ := Aside0.mk ((by rw [hg]; exact (below_size a18_) : w.heap.size ≤ gb254)); have n15_ := Aside0.mk ((a77_ : gb221 ≠ gb254)); have n16_ := Aside0.mk ((a78_ : gb254 ≠ gb221)); have n17_ := Aside0.mk ((a79_ : gb222 ≠ gb254)); have n18_ := Aside0.mk ((a80_ : gb254 ≠ gb222)); have n19_ := Aside0.mk ((a81_ : gb238 ≠ gb254)); have n20_ := Aside0.mk ((a82_ : gb254 ≠ gb238)); have n21_ := Aside0.mk ((a93_ : gb243 ≠ gb254)); have n22_ := Aside0.mk ((a94_ : gb254 ≠ gb243)); have n23_ := Aside0.mk ((by rw [hg]; exact Nat.ne_of_lt (blk_lt (g := gb248) (o := .cells #[.int .i16 t244, .slice Ao62 t245.length co62] 45 (0, 0)) a8_) : gb248 ≠ gb254)); have n24_ := Aside0.mk ((by rw [hg]; exact Nat.ne_of_gt (blk_lt (g := gb248) (o := .cells #[.int .i16 t244, .slice Ao62 t245.length co62] 45 (0, 0)) a8_) : gb254 ≠ gb248)); clear HO228; clear HO232; clear HO236; clear HO242; clear HO247; clear HO252; clear BK221; clear BK222; clear BK238; clear BK243; clear BK248; clear HB; have HO228 := n0_; have HO232 := n1_; have HO236 := n2_; have HO242 := n3_; have HO247 := n4_; have HO252 := n5_; have BK221 := n6_; have BK222 := n7_; have BK238 := n8_; have BK243 := n9_; have BK248 := n10_; have HB := n11_; have BK254 := n12_; have GW254 := n13_; have GE254 := n14_; have NB221_254 := n15_; have NB254_221 := n16_; have NB222_254 := n17_; have NB254_222 := n18_; have NB238_254 := n19_; have NB254_238 := n20_; have NB243_254 := n21_; have NB254_243 := n22_; have NB248_254 := n23_; have NB254_248 := n24_; clear n0_ n1_ n2_ n3_ n4_ n5_ n6_ n7_ n8_ n9_ n10_ n11_ n12_ n13_ n14_ n15_ n16_ n17_ n18_ n19_ n20_ n21_ n22_ n23_ n24_; clear hb hbox hg; have hnb68 := NB254_221.out; have hnc68 := NB221_254.out; have hnb69 := NB254_222.out; have hnc69 := NB222_254.out; have hnb70 := NB254_238.out; have hnc70 := NB238_254.out; have hnb71 := NB254_243.out; have hnc71 := NB243_254.out; have hnb72 := NB254_248.out; have hnc72 := NB248_254.out; have hcz73_0 : w67.cell? ⟨gb254, 0, none⟩ = some (.int .i16 0) := (blk_cell BK254.out 0).trans rfl; have hcz73_1 : w67.cell? ⟨gb254, 1, none⟩ = some (.slice none 0 0) := (blk_cell BK254.out 1).trans rfl; have hfz73_0 := blk_frozen BK254.out 0; have hfz73_1 := blk_frozen BK254.out 1; obtain ⟨Ao74, co74, eo74⟩ := Kd.R_slice HO252.out; subst eo74))
   (try simp only [Act.put, List.setIfInBounds_toArray, List.set_cons_zero, List.set_cons_succ])
   go_cut [53] (fun v53 wc => ∃ (kq : Nat) (x53_24 : Bool), v53 = .bool x53_24 ∧ Aside0 (laws_FnExactJoinPrograms.j0 kq t237 t253 x53_24 a0_0 l0_1 a1_0 l1_1 t233 t234 t239 t240 t244 t245 t249 t250 = some r) ∧ Aside0 (kq ≤ k) ∧ Aside0 (Kd.R k125 125 wc w.heap.size (fun k_ => some k_ ≠ ((.slice Ao52 t240.length co52) : Value).ownBlock ∧ some k_ ≠ ((.slice Ao62 t245.length co62) : Value).ownBlock ∧ some k_ ≠ ((.slice Ao74 t250.length co74) : Value).ownBlock) (.slice Ao42 t234.length co42) t234) ∧ Aside0 (Kd.R k125 125 wc w.heap.size (fun k_ => some k_ ≠ ((.slice Ao42 t234.length co42) : Value).ownBlock ∧ some k_ ≠ ((.slice Ao62 t245.length co62) : Value).ownBlock ∧ some k_ ≠ ((.slice Ao74 t250.length co74) : Value).ownBlock) (.slice Ao52 t240.length co52) t240) ∧ Aside0 (Kd.R k125 125 wc w.heap.size (fun k_ => some k_ ≠ ((.slice Ao42 t234.length co42) : Value).ownBlock ∧ some k_ ≠ ((.slice Ao52 t240.length co52) : Value).ownBlock ∧ some k_ ≠ ((.slice Ao74 t250.length co74) : Value).ownBlock) (.slice Ao62 t245.length co62) t245) ∧ Aside0 (Kd.R k125 125 wc w.heap.size (fun k_ => some k_ ≠ ((.slice Ao42 t234.length co42) : Value).ownBlock ∧ some k_ ≠ ((.slice Ao52 t240.length co52) : Value).ownBlock ∧ some k_ ≠ ((.slice Ao62 t245.length co62) : Value).ownBlock) (.slice Ao74 t250.length co74) t250) ∧ Aside0 (wc.heap[gb221]? = some (.cells #[.int .i16 a0_0, (.slice A0_1 l0_1.length c0_1)] 41 (0, 0))) ∧ Aside0 (wc.heap[gb222]? = some (.cells #[.int .i16 a1_0, (.slice A1_1 l1_1.length c1_1)] 41 (0, 0))) ∧ Aside0 (wc.heap[gb238]? = some (.cells #[.int .i16 t233, (.slice Ao42 t234.length co42)] 45 (0, 0))) ∧ Aside0 (wc.heap[gb243]? = some (.cells #[.int .i16 t239, (.slice Ao52 t240.length co52)] 45 (0, 0))) ∧ Aside0 (wc.heap[gb248]? = some (.cells #[.int .i16 t244, (.slice Ao62 t245.length co62)] 45 (0, 0))) ∧ Aside0 (wc.heap[gb254]? = some (.cells #[.int .i16 t249, (.slice Ao74 t250.length co74)] 45 (0, 0))) ∧ Aside0 (Below w.heap.size w wc))
   case first =>
    have H := HC25.out
    clear HC25
    replace H := Option.bind_eq_some_iff.mp H
    obtain ⟨t255, A750, H⟩ := H
    replace H : (if t255 = true then (laws_FnExactJoinPrograms.j0 k t237 t253 (t253 != t237) a0_0 l0_1 a1_0 l1_1 t233 t234 t239 t240 t244 t245 t249 t250) else (laws_FnExactJoinPrograms.j0 k t237 t253 true a0_0 l0_1 a1_0 l1_1 t233 t234 t239 t240 t244 t245 t249 t250)) = some r := H
    have A75 := Aside0.mk A750
    clear A750
    by_cases c76 : t255 = true
    ·subst c76
     have H1 : (laws_FnExactJoinPrograms.j0 k t237 t253 (t253 != t237) a0_0 l0_1 a1_0 l1_1 t233 t234 t239 t240 t244 t245 t249 t250) = some r := by rw [if_pos rfl] at H; exact H
     clear H
     have H := H1
     clear H1
     have H' := Aside0.mk H
     clear H
     have hnb77 := NB254_221.out
     have hnc77 := NB221_254.out
     have hnb78 := NB254_222.out
     have hnc78 := NB222_254.out
     have hnb79 := NB254_238.out
     have hnc79 := NB238_254.out
     have hnb80 := NB254_243.out
     have hnc80 := NB243_254.out
     have hnb81 := NB254_248.out
     have hnc81 := NB248_254.out
     have hcz82_0 : w67.cell? ⟨gb254, 0, none⟩ = some (.int .i16 0) := (blk_cell BK254.out 0).trans rfl
     have hcz82_1 : w67.cell? ⟨gb254, 1, none⟩ = some (.slice none 0 0) := (blk_cell BK254.out 1).trans rfl
     have hfz82_0 := blk_frozen BK254.out 0
     have hfz82_1 := blk_frozen BK254.out 1
     have hnb83 := NB238_221.out
     have hnc83 := NB221_238.out
     have hnb84 := NB238_222.out
     have hnc84 := NB222_238.out
     have hnb85 := NB238_243.out
     have hnc85 := NB243_238.out
     have hnb86 := NB238_248.out
     have hnc86 := NB248_238.out
     have hcz87_0 : w67.cell? ⟨gb238, 0, none⟩ = some (.int .i16 t233) := (blk_cell BK238.out 0).trans rfl
     have hcz87_1 : w67.cell? ⟨gb238, 1, none⟩ = some (.slice Ao42 t234.length co42) := (blk_cell BK238.out 1).trans rfl
     have hfz87_0 := blk_frozen BK238.out 0
     have hfz87_1 := blk_frozen BK238.out 1
     go_wp2_with (first | ((with_reducible refine gate_callee (f := 32) rfl ?_); refine goesL_ (some 47) rfl rfl Try.func32 (by kernel_rfl) rfl #[.agg #[.int .i16 t249, .slice Ao74 t250.length co74], .agg #[.int .i16 t233, .slice Ao42 t234.length co42]] rfl a6_ ?_; (with_reducible refine (laws_eqProgram.calls k t249 _ _ t250 t233 _ _ t234 true _ ?side1 ?side2 ?side3 ?side4 A75.out).mono ?_); (case side1 => exact a106_); (case side2 => exact (Kd.R_reads' HO252.out).2.1); (case side3 => exact a107_); (case side4 => exact (Kd.R_reads' HO236.out).2.1); rintro e w88 ⟨rfl, hb⟩; refine ⟨_, rfl, ?_⟩; have n0_ := Aside0.mk (Kd.R_below a64_ hb); have n1_ := Aside0.mk (Kd.R_below a65_ hb); have n2_ := Aside0.mk (Kd.R_below a26_ hb); have n3_ := Aside0.mk (Kd.R_below a66_ hb); have n4_ := Aside0.mk (Kd.R_below a67_ hb); have n5_ := Aside0.mk (Kd.R_below a25_ hb); have n6_ := Aside0.mk (blk_below (g := gb221) (o := .cells #[.int .i16 a0_0, .slice A0_1 l0_1.length c0_1] 41 (0, 0)) a39_ hb); have n7_ := Aside0.mk (blk_below (g := gb222) (o := .cells #[.int .i16 a1_0, .slice A1_1 l1_1.length c1_1] 41 (0, 0)) a40_ hb); have n8_ := Aside0.mk (blk_below (g := gb238) (o := .cells #[.int .i16 t233, .slice Ao42 t234.length co42] 45 (0, 0)) a41_ hb); have n9_ := Aside0.mk (blk_below (g := gb243) (o := .cells #[.int .i16 t239, .slice Ao52 t240.length co52] 45 (0, 0)) a42_ hb); have n10_ := Aside0.mk (blk_below (g := gb248) (o := .cells #[.int .i16 t244, .slice Ao62 t245.length co62] 45 (0, 0)) a43_ hb); have n11_ := Aside0.mk (blk_below (g := gb254) (o := .cells #[.int .i16 t249, .slice Ao74 t250.length co74] 45 (0, 0)) a30_ hb); have n12_ := Aside0.mk (below_step a1_ hb); clear HO228; clear HO232; clear HO236; clear HO242; clear HO247; clear HO252; clear BK221; clear BK222; clear BK238; clear BK243; clear BK248; clear BK254; clear HB; have HO228 := n0_; have HO232 := n1_; have HO236 := n2_; have HO242 := n3_; have HO247 := n4_; have HO252 := n5_; have BK221 := n6_; have BK222 := n7_; have BK238 := n8_; have BK243 := n9_; have BK248 := n10_; have BK254 := n11_; have HB := n12_; clear n0_ n1_ n2_ n3_ n4_ n5_ n6_ n7_ n8_ n9_ n10_ n11_ n12_; (try clear hb); (try clear hb2); (try clear hk); (try clear hi)))
     go_meet
     case rel => exact ⟨_, ((t253 != t237)), a76_, H', ⟨by first | omega | exact Nat.le_refl _⟩, ⟨by (with_reducible repeat (first | apply Kd.R_alloc | apply Kd.R_drewN | apply Kd.R_drew)); exact Kd.R_mono HO236.out (fun _ hk => ⟨hk.1.2.2.1, ⟨hk.1.2.2.2, hk.2⟩⟩)⟩, ⟨by (with_reducible repeat (first | apply Kd.R_alloc | apply Kd.R_drewN | apply Kd.R_drew)); exact Kd.R_mono HO242.out (fun _ hk => ⟨hk.1.2.2.1, ⟨hk.1.2.2.2, hk.2⟩⟩)⟩, ⟨by (with_reducible repeat (first | apply Kd.R_alloc | apply Kd.R_drewN | apply Kd.R_drew)); exact Kd.R_mono HO247.out (fun _ hk => ⟨hk.1.2.2.1, ⟨hk.1.2.2.2, hk.2⟩⟩)⟩, ⟨by (with_reducible repeat (first | apply Kd.R_alloc | apply Kd.R_drewN | apply Kd.R_drew)); exact Kd.R_mono HO252.out (fun _ hk => ⟨hk.1.1.2, ⟨hk.1.2, hk.2⟩⟩)⟩, ⟨by (with_reducible repeat (first | refine blk_drewN ?_ _ | refine blk_drew ?_ | refine blk_alloc ?_ _)); exact BK221.out⟩, ⟨by (with_reducible repeat (first | refine blk_drewN ?_ _ | refine blk_drew ?_ | refine blk_alloc ?_ _)); exact BK222.out⟩, ⟨by (with_reducible repeat (first | refine blk_drewN ?_ _ | refine blk_drew ?_ | refine blk_alloc ?_ _)); exact BK238.out⟩, ⟨by (with_reducible repeat (first | refine blk_drewN ?_ _ | refine blk_drew ?_ | refine blk_alloc ?_ _)); exact BK243.out⟩, ⟨by (with_reducible repeat (first | refine blk_drewN ?_ _ | refine blk_drew ?_ | refine blk_alloc ?_ _)); exact BK248.out⟩, ⟨by (with_reducible repeat (first | refine blk_drewN ?_ _ | refine blk_drew ?_ | refine blk_alloc ?_ _)); exact BK254.out⟩, ⟨by repeat (first | (with_reducible first | exact HB.out | apply below_alloc | apply pw_below_drewN | apply below_drew1 | refine below_set ?_ GE221.out | refine below_set ?_ GE222.out | refine below_set ?_ GE238.out | refine below_set ?_ GE243.out | refine below_set ?_ GE248.out | refine below_set ?_ GE254.out) | exact HB.out)⟩⟩
    ·replace c76 := Bool.eq_false_iff.mpr c76
     subst c76
     have H1 : (laws_FnExactJoinPrograms.j0 k t237 t253 true a0_0 l0_1 a1_0 l1_1 t233 t234 t239 t240 t244 t245 t249 t250) = some r := by rw [if_neg (show ¬ (false = true) by decide)] at H; exact H
     clear H
     have H := H1
     clear H1
     have H' := Aside0.mk H
     clear H
     have hnb89 := NB254_221.out
     have hnc89 := NB221_254.out
     have hnb90 := NB254_222.out
     have hnc90 := NB222_254.out
     have hnb91 := NB254_238.out
     have hnc91 := NB238_254.out
     have hnb92 := NB254_243.out
     have hnc92 := NB243_254.out
     have hnb93 := NB254_248.out
     have hnc93 := NB248_254.out
     have hcz94_0 : w67.cell? ⟨gb254, 0, none⟩ = some (.int .i16 0) := (blk_cell BK254.out 0).trans rfl
     have hcz94_1 : w67.cell? ⟨gb254, 1, none⟩ = some (.slice none 0 0) := (blk_cell BK254.out 1).trans rfl
     have hfz94_0 := blk_frozen BK254.out 0
     have hfz94_1 := blk_frozen BK254.out 1
     have hnb95 := NB238_221.out
     have hnc95 := NB221_238.out
     have hnb96 := NB238_222.out
     have hnc96 := NB222_238.out
     have hnb97 := NB238_243.out
     have hnc97 := NB243_238.out
     have hnb98 := NB238_248.out
     have hnc98 := NB248_238.out
     have hcz99_0 : w67.cell? ⟨gb238, 0, none⟩ = some (.int .i16 t233) := (blk_cell BK238.out 0).trans rfl
     have hcz99_1 : w67.cell? ⟨gb238, 1, none⟩ = some (.slice Ao42 t234.length co42) := (blk_cell BK238.out 1).trans rfl
     have hfz99_0 := blk_frozen BK238.out 0
     have hfz99_1 := blk_frozen BK238.out 1
     go_wp2_with (first | ((with_reducible refine gate_callee (f := 32) rfl ?_); refine goesL_ (some 47) rfl rfl Try.func32 (by kernel_rfl) rfl #[.agg #[.int .i16 t249, .slice Ao74 t250.length co74], .agg #[.int .i16 t233, .slice Ao42 t234.length co42]] rfl a6_ ?_; (with_reducible refine (laws_eqProgram.calls k t249 _ _ t250 t233 _ _ t234 false _ ?side1 ?side2 ?side3 ?side4 A75.out).mono ?_); (case side1 => exact a106_); (case side2 => exact (Kd.R_reads' HO252.out).2.1); (case side3 => exact a107_); (case side4 => exact (Kd.R_reads' HO236.out).2.1); rintro e w100 ⟨rfl, hb⟩; refine ⟨_, rfl, ?_⟩; have n0_ := Aside0.mk (Kd.R_below a64_ hb); have n1_ := Aside0.mk (Kd.R_below a65_ hb); have n2_ := Aside0.mk (Kd.R_below a26_ hb); have n3_ := Aside0.mk (Kd.R_below a66_ hb); have n4_ := Aside0.mk (Kd.R_below a67_ hb); have n5_ := Aside0.mk (Kd.R_below a25_ hb); have n6_ := Aside0.mk (blk_below (g := gb221) (o := .cells #[.int .i16 a0_0, .slice A0_1 l0_1.length c0_1] 41 (0, 0)) a39_ hb); have n7_ := Aside0.mk (blk_below (g := gb222) (o := .cells #[.int .i16 a1_0, .slice A1_1 l1_1.length c1_1] 41 (0, 0)) a40_ hb); have n8_ := Aside0.mk (blk_below (g := gb238) (o := .cells #[.int .i16 t233, .slice Ao42 t234.length co42] 45 (0, 0)) a41_ hb); have n9_ := Aside0.mk (blk_below (g := gb243) (o := .cells #[.int .i16 t239, .slice Ao52 t240.length co52] 45 (0, 0)) a42_ hb); have n10_ := Aside0.mk (blk_below (g := gb248) (o := .cells #[.int .i16 t244, .slice Ao62 t245.length co62] 45 (0, 0)) a43_ hb); have n11_ := Aside0.mk (blk_below (g := gb254) (o := .cells #[.int .i16 t249, .slice Ao74 t250.length co74] 45 (0, 0)) a30_ hb); have n12_ := Aside0.mk (below_step a1_ hb); clear HO228; clear HO232; clear HO236; clear HO242; clear HO247; clear HO252; clear BK221; clear BK222; clear BK238; clear BK243; clear BK248; clear BK254; clear HB; have HO228 := n0_; have HO232 := n1_; have HO236 := n2_; have HO242 := n3_; have HO247 := n4_; have HO252 := n5_; have BK221 := n6_; have BK222 := n7_; have BK238 := n8_; have BK243 := n9_; have BK248 := n10_; have BK254 := n11_; have HB := n12_; clear n0_ n1_ n2_ n3_ n4_ n5_ n6_ n7_ n8_ n9_ n10_ n11_ n12_; (try clear hb); (try clear hb2); (try clear hk); (try clear hi)))
     go_meet
     case rel => exact ⟨_, (true), a76_, H', ⟨by first | omega | exact Nat.le_refl _⟩, ⟨by (with_reducible repeat (first | apply Kd.R_alloc | apply Kd.R_drewN | apply Kd.R_drew)); exact Kd.R_mono HO236.out (fun _ hk => ⟨hk.1.2.2.1, ⟨hk.1.2.2.2, hk.2⟩⟩)⟩, ⟨by (with_reducible repeat (first | apply Kd.R_alloc | apply Kd.R_drewN | apply Kd.R_drew)); exact Kd.R_mono HO242.out (fun _ hk => ⟨hk.1.2.2.1, ⟨hk.1.2.2.2, hk.2⟩⟩)⟩, ⟨by (with_reducible repeat (first | apply Kd.R_alloc | apply Kd.R_drewN | apply Kd.R_drew)); exact Kd.R_mono HO247.out (fun _ hk => ⟨hk.1.2.2.1, ⟨hk.1.2.2.2, hk.2⟩⟩)⟩, ⟨by (with_reducible repeat (first | apply Kd.R_alloc | apply Kd.R_drewN | apply Kd.R_drew)); exact Kd.R_mono HO252.out (fun _ hk => ⟨hk.1.1.2, ⟨hk.1.2, hk.2⟩⟩)⟩, ⟨by (with_reducible repeat (first | refine blk_drewN ?_ _ | refine blk_drew ?_ | refine blk_alloc ?_ _)); exact BK221.out⟩, ⟨by (with_reducible repeat (first | refine blk_drewN ?_ _ | refine blk_drew ?_ | refine blk_alloc ?_ _)); exact BK222.out⟩, ⟨by (with_reducible repeat (first | refine blk_drewN ?_ _ | refine blk_drew ?_ | refine blk_alloc ?_ _)); exact BK238.out⟩, ⟨by (with_reducible repeat (first | refine blk_drewN ?_ _ | refine blk_drew ?_ | refine blk_alloc ?_ _)); exact BK243.out⟩, ⟨by (with_reducible repeat (first | refine blk_drewN ?_ _ | refine blk_drew ?_ | refine blk_alloc ?_ _)); exact BK248.out⟩, ⟨by (with_reducible repeat (first | refine blk_drewN ?_ _ | refine blk_drew ?_ | refine blk_alloc ?_ _)); exact BK254.out⟩, ⟨by repeat (first | (with_reducible first | exact HB.out | apply below_alloc | apply pw_below_drewN | apply below_drew1 | refine below_set ?_ GE221.out | refine below_set ?_ GE222.out | refine below_set ?_ GE238.out | refine below_set ?_ GE243.out | refine below_set ?_ GE248.out | refine below_set ?_ GE254.out) | exact HB.out)⟩⟩
   case rest =>
    clear HC25
    try clear c1
    try clear p2
    try clear c3
    try clear c4
    try clear c5
    try clear c6
    try clear c7
    try clear c8
    try clear c9
    try clear c30
    try clear c32
    try clear c35
    try clear c36
    try clear c44
    try clear c48
    try clear c49
    try clear c50
    try clear c53
    try clear c57
    try clear c58
    try clear c59
    try clear c60
    try clear c68
    try clear c69
    try clear c70
    try clear c71
    try clear c72
    try clear c76
    try clear c77
    try clear c78
    try clear c79
    try clear c80
    try clear c81
    try clear c83
    try clear c84
    try clear c85
    try clear c86
    try clear c89
    try clear c90
    try clear c91
    try clear c92
    try clear c93
    try clear c95
    try clear c96
    try clear c97
    try clear c98
    try clear hcz45_0
    try clear hcz45_1
    try clear hcz51_0
    try clear hcz51_1
    try clear hcz54_0
    try clear hcz54_1
    try clear hcz61_0
    try clear hcz61_1
    try clear hcz64_0
    try clear hcz64_1
    try clear hcz65_0
    try clear hcz65_1
    try clear hcz73_0
    try clear hcz73_1
    try clear hcz82_0
    try clear hcz82_1
    try clear hcz87_0
    try clear hcz87_1
    try clear hcz94_0
    try clear hcz94_1
    try clear hcz99_0
    try clear hcz99_1
    try clear hfz45_0
    try clear hfz45_1
    try clear hfz51_0
    try clear hfz51_1
    try clear hfz54_0
    try clear hfz54_1
    try clear hfz61_0
    try clear hfz61_1
    try clear hfz64_0
    try clear hfz64_1
    try clear hfz65_0
    try clear hfz65_1
    try clear hfz73_0
    try clear hfz73_1
    try clear hfz82_0
    try clear hfz82_1
    try clear hfz87_0
    try clear hfz87_1
    try clear hfz94_0
    try clear hfz94_1
    try clear hfz99_0
    try clear hfz99_1
    obtain ⟨kq, x53_24, rfl, HA, HJ24, HO_239001, HO_244001, HO_249001, HO_255001, BK221, BK222, BK238, BK243, BK248, BK254, HB⟩ := hcut
    cases kq with
    | zero => exact absurd HA.out (by simp [laws_FnExactJoinPrograms.j0])
    | succ kj24 =>
     have H := HA.out
     clear HA
     simp only [laws_FnExactJoinPrograms.j0] at H
     by_cases c101 : x53_24 = true
     ·subst c101
      have H1 : (some false) = some r := by rw [if_pos rfl] at H; exact H
      clear H
      have H := H1
      clear H1
      obtain rfl := Option.some.inj H
      go_wp2
      go_ret
      exact ⟨by first | rfl | (simp [errW_none, errW_some] <;> rfl) | (simp [*, errW_none, errW_some] <;> rfl), by repeat (first | (with_reducible first | exact HB.out | apply below_alloc | apply pw_below_drewN | apply below_drew1 | refine below_set ?_ GE221.out | refine below_set ?_ GE222.out | refine below_set ?_ GE238.out | refine below_set ?_ GE243.out | refine below_set ?_ GE248.out | refine below_set ?_ GE254.out) | exact HB.out)⟩
     ·replace c101 := Bool.eq_false_iff.mpr c101
      subst c101
      have H1 : ((laws_toProgram.f kj24 a0_0 l0_1).bind fun bt256 => ((laws_eqProgram.f kj24 t239 t240 bt256.1 bt256.2).bind fun t260 => (if t260 = true then ((laws_toProgram.f kj24 a1_0 l1_1).bind fun bt261 => ((laws_eqProgram.f kj24 t244 t245 bt261.1 bt261.2).bind fun t265 => (if t265 = true then ((laws_markProgram.f kj24 t239 t240 1).bind fun bt266 => ((laws_markProgram.f kj24 t244 t245 bt266.1).bind fun bt268 => (if bt268.1 < 0 then (laws_FnExactJoinPrograms.j1 kj24 t237 true a0_0 l0_1 a1_0 l1_1 t233 t234 t249 t250) else ((laws_eqProgram.f kj24 t249 t250 t233 t234).bind fun t270 => (if t270 = true then (laws_FnExactJoinPrograms.j1 kj24 t237 (t253 != t237) a0_0 l0_1 a1_0 l1_1 t233 t234 t249 t250) else (laws_FnExactJoinPrograms.j1 kj24 t237 true a0_0 l0_1 a1_0 l1_1 t233 t234 t249 t250)))))) else (some false)))) else (some false)))) = some r := by rw [if_neg (show ¬ (false = true) by decide)] at H; exact H
      clear H
      have H := H1
      clear H1
      replace H := Option.bind_eq_some_iff.mp H
      obtain ⟨⟨t256, t257⟩, A1020, H⟩ := H
      replace H : ((laws_eqProgram.f kj24 t239 t240 t256 t257).bind fun t260 => (if t260 = true then ((laws_toProgram.f kj24 a1_0 l1_1).bind fun bt261 => ((laws_eqProgram.f kj24 t244 t245 bt261.1 bt261.2).bind fun t265 => (if t265 = true then ((laws_markProgram.f kj24 t239 t240 1).bind fun bt266 => ((laws_markProgram.f kj24 t244 t245 bt266.1).bind fun bt268 => (if bt268.1 < 0 then (laws_FnExactJoinPrograms.j1 kj24 t237 true a0_0 l0_1 a1_0 l1_1 t233 t234 t249 t250) else ((laws_eqProgram.f kj24 t249 t250 t233 t234).bind fun t270 => (if t270 = true then (laws_FnExactJoinPrograms.j1 kj24 t237 (t253 != t237) a0_0 l0_1 a1_0 l1_1 t233 t234 t249 t250) else (laws_FnExactJoinPrograms.j1 kj24 t237 true a0_0 l0_1 a1_0 l1_1 t233 t234 t249 t250)))))) else (some false)))) else (some false))) = some r := H
      have A102 := Aside0.mk A1020
      clear A1020
      replace H := Option.bind_eq_some_iff.mp H
      obtain ⟨t260, A1030, H⟩ := H
      replace H : (if t260 = true then ((laws_toProgram.f kj24 a1_0 l1_1).bind fun bt261 => ((laws_eqProgram.f kj24 t244 t245 bt261.1 bt261.2).bind fun t265 => (if t265 = true then ((laws_markProgram.f kj24 t239 t240 1).bind fun bt266 => ((laws_markProgram.f kj24 t244 t245 bt266.1).bind fun bt268 => (if bt268.1 < 0 then (laws_FnExactJoinPrograms.j1 kj24 t237 true a0_0 l0_1 a1_0 l1_1 t233 t234 t249 t250) else ((laws_eqProgram.f kj24 t249 t250 t233 t234).bind fun t270 => (if t270 = true then (laws_FnExactJoinPrograms.j1 kj24 t237 (t253 != t237) a0_0 l0_1 a1_0 l1_1 t233 t234 t249 t250) else (laws_FnExactJoinPrograms.j1 kj24 t237 true a0_0 l0_1 a1_0 l1_1 t233 t234 t249 t250)))))) else (some false)))) else (some false)) = some r := H
      have A103 := Aside0.mk A1030
      clear A1030
      by_cases c104 : t260 = true
      ·subst c104
       have H1 : ((laws_toProgram.f kj24 a1_0 l1_1).bind fun bt261 => ((laws_eqProgram.f kj24 t244 t245 bt261.1 bt261.2).bind fun t265 => (if t265 = true then ((laws_markProgram.f kj24 t239 t240 1).bind fun bt266 => ((laws_markProgram.f kj24 t244 t245 bt266.1).bind fun bt268 => (if bt268.1 < 0 then (laws_FnExactJoinPrograms.j1 kj24 t237 true a0_0 l0_1 a1_0 l1_1 t233 t234 t249 t250) else ((laws_eqProgram.f kj24 t249 t250 t233 t234).bind fun t270 => (if t270 = true then (laws_FnExactJoinPrograms.j1 kj24 t237 (t253 != t237) a0_0 l0_1 a1_0 l1_1 t233 t234 t249 t250) else (laws_FnExactJoinPrograms.j1 kj24 t237 true a0_0 l0_1 a1_0 l1_1 t233 t234 t249 t250)))))) else (some false)))) = some r := by rw [if_pos rfl] at H; exact H
       clear H
       have H := H1
       clear H1
       replace H := Option.bind_eq_some_iff.mp H
       obtain ⟨⟨t261, t262⟩, A1050, H⟩ := H
       replace H : ((laws_eqProgram.f kj24 t244 t245 t261 t262).bind fun t265 => (if t265 = true then ((laws_markProgram.f kj24 t239 t240 1).bind fun bt266 => ((laws_markProgram.f kj24 t244 t245 bt266.1).bind fun bt268 => (if bt268.1 < 0 then (laws_FnExactJoinPrograms.j1 kj24 t237 true a0_0 l0_1 a1_0 l1_1 t233 t234 t249 t250) else ((laws_eqProgram.f kj24 t249 t250 t233 t234).bind fun t270 => (if t270 = true then (laws_FnExactJoinPrograms.j1 kj24 t237 (t253 != t237) a0_0 l0_1 a1_0 l1_1 t233 t234 t249 t250) else (laws_FnExactJoinPrograms.j1 kj24 t237 true a0_0 l0_1 a1_0 l1_1 t233 t234 t249 t250)))))) else (some false))) = some r := H
       have A105 := Aside0.mk A1050
       clear A1050
       replace H := Option.bind_eq_some_iff.mp H
       obtain ⟨t265, A1060, H⟩ := H
       replace H : (if t265 = true then ((laws_markProgram.f kj24 t239 t240 1).bind fun bt266 => ((laws_markProgram.f kj24 t244 t245 bt266.1).bind fun bt268 => (if bt268.1 < 0 then (laws_FnExactJoinPrograms.j1 kj24 t237 true a0_0 l0_1 a1_0 l1_1 t233 t234 t249 t250) else ((laws_eqProgram.f kj24 t249 t250 t233 t234).bind fun t270 => (if t270 = true then (laws_FnExactJoinPrograms.j1 kj24 t237 (t253 != t237) a0_0 l0_1 a1_0 l1_1 t233 t234 t249 t250) else (laws_FnExactJoinPrograms.j1 kj24 t237 true a0_0 l0_1 a1_0 l1_1 t233 t234 t249 t250)))))) else (some false)) = some r := H
       have A106 := Aside0.mk A1060
       clear A1060
       by_cases c107 : t265 = true
       ·subst c107
        have H1 : ((laws_markProgram.f kj24 t239 t240 1).bind fun bt266 => ((laws_markProgram.f kj24 t244 t245 bt266.1).bind fun bt268 => (if bt268.1 < 0 then (laws_FnExactJoinPrograms.j1 kj24 t237 true a0_0 l0_1 a1_0 l1_1 t233 t234 t249 t250) else ((laws_eqProgram.f kj24 t249 t250 t233 t234).bind fun t270 => (if t270 = true then (laws_FnExactJoinPrograms.j1 kj24 t237 (t253 != t237) a0_0 l0_1 a1_0 l1_1 t233 t234 t249 t250) else (laws_FnExactJoinPrograms.j1 kj24 t237 true a0_0 l0_1 a1_0 l1_1 t233 t234 t249 t250)))))) = some r := by rw [if_pos rfl] at H; exact H
        clear H
        have H := H1
        clear H1
        replace H := Option.bind_eq_some_iff.mp H
        obtain ⟨⟨t266, t267⟩, A1080, H⟩ := H
        replace H : ((laws_markProgram.f kj24 t244 t245 t266).bind fun bt268 => (if bt268.1 < 0 then (laws_FnExactJoinPrograms.j1 kj24 t237 true a0_0 l0_1 a1_0 l1_1 t233 t234 t249 t250) else ((laws_eqProgram.f kj24 t249 t250 t233 t234).bind fun t270 => (if t270 = true then (laws_FnExactJoinPrograms.j1 kj24 t237 (t253 != t237) a0_0 l0_1 a1_0 l1_1 t233 t234 t249 t250) else (laws_FnExactJoinPrograms.j1 kj24 t237 true a0_0 l0_1 a1_0 l1_1 t233 t234 t249 t250))))) = some r := H
        have A108 := Aside0.mk A1080
        clear A1080
        replace H := Option.bind_eq_some_iff.mp H
        obtain ⟨⟨t268, t269⟩, A1090, H⟩ := H
        replace H : (if t268 < 0 then (laws_FnExactJoinPrograms.j1 kj24 t237 true a0_0 l0_1 a1_0 l1_1 t233 t234 t249 t250) else ((laws_eqProgram.f kj24 t249 t250 t233 t234).bind fun t270 => (if t270 = true then (laws_FnExactJoinPrograms.j1 kj24 t237 (t253 != t237) a0_0 l0_1 a1_0 l1_1 t233 t234 t249 t250) else (laws_FnExactJoinPrograms.j1 kj24 t237 true a0_0 l0_1 a1_0 l1_1 t233 t234 t249 t250)))) = some r := H
        have A109 := Aside0.mk A1090
        clear A1090
        have HC110 := Aside0.mk H
        clear H
        try go_wp2
        have n0_ := Aside0.mk (Kd.R_drew HO_239001.out)
        have n1_ := Aside0.mk (Kd.R_drew HO_244001.out)
        have n2_ := Aside0.mk (Kd.R_drew HO_249001.out)
        have n3_ := Aside0.mk (Kd.R_drew HO_255001.out)
        have n4_ := Aside0.mk (blk_drew BK221.out)
        have n5_ := Aside0.mk (blk_drew BK222.out)
        have n6_ := Aside0.mk (blk_drew BK238.out)
        have n7_ := Aside0.mk (blk_drew BK243.out)
        have n8_ := Aside0.mk (blk_drew BK248.out)
        have n9_ := Aside0.mk (blk_drew BK254.out)
        have n10_ := Aside0.mk (below_drew1 HB.out)
        clear HO_239001 HO_244001 HO_249001 HO_255001 BK221 BK222 BK238 BK243 BK248 BK254 HB; have HO_239001 := n0_; have HO_244001 := n1_; have HO_249001 := n2_; have HO_255001 := n3_; have BK221 := n4_; have BK222 := n5_; have BK238 := n6_; have BK243 := n7_; have BK248 := n8_; have BK254 := n9_; have HB := n10_; clear n0_ n1_ n2_ n3_ n4_ n5_ n6_ n7_ n8_ n9_ n10_
        refine start_ (n := 5) (S := fun w' => w'.cell? ⟨gb243, 0, none⟩ = some (.int .i16 t239) ∧ w'.cell? ⟨gb243, 1, none⟩ = some (.slice Ao52 t240.length co52) ∧ w'.cell? ⟨gb221, 0, none⟩ = some (.int .i16 a0_0) ∧ w'.cell? ⟨gb221, 1, none⟩ = some (.slice A0_1 l0_1.length c0_1)) (ds := []) #[false, false, false, false, false] (by kernel_rfl) rfl rfl ⟨(blk_cell BK243.out 0).trans rfl, (blk_cell BK243.out 1).trans rfl, (blk_cell BK221.out 0).trans rfl, (blk_cell BK221.out 1).trans rfl⟩ (fun hHeld => ?_)
        generalize wc.drew = w111 at HO_239001 HO_244001 HO_249001 HO_255001 BK221 BK222 BK238 BK243 BK248 BK254 HB hHeld ⊢
        refine take_ (i := 0) (N := some 54) (v := ?_) (a' := ?_) #[true, false, false, false, false] rfl rfl (by kernel_rfl) (fun _ _ _ h => h) (Or.inl ⟨by rfl, ?_⟩) hHeld ?_ ?_
        rotate_left
        ·rintro w' ⟨s0, s1, s2, s3⟩
         go_simp; with_reducible rfl
        rotate_left
        ·simp only [Act.put, List.setIfInBounds_toArray, List.set_cons_zero, List.set_cons_succ, i64_w, i32_w]
         rfl
        refine take_ (i := 1) (N := some 55) (v := ?_) (a' := ?_) #[true, true, false, false, false] rfl rfl (by kernel_rfl) (fun _ _ _ h => h) (Or.inl ⟨by rfl, ?_⟩) hHeld ?_ ?_
        rotate_left
        ·rintro w' ⟨s0, s1, s2, s3⟩
         go_simp; with_reducible rfl
        rotate_left
        ·simp only [Act.put, List.setIfInBounds_toArray, List.set_cons_zero, List.set_cons_succ, i64_w, i32_w]
         rfl
        refine one_ (i := 2) (N := some 56) #[true, true, true, false, false] rfl rfl (by kernel_rfl) (by decide) (fun K hK => ?_)
        refine goes_ Try.func30 (by kernel_rfl) rfl #[.agg #[.int .i16 a0_0, .slice A0_1 l0_1.length c0_1]] (by rfl) rfl rfl a6_ ?_
        with_reducible refine (laws_toProgram.calls kj24 a0_0 _ _ l0_1 t256 t257 _ ?side1 ?side2 A102.out).mono ?_
        (case side1 => exact a95_); (case side2 => exact HC0_1.out)
        rintro e w112 ⟨v258, rfl, ho0, hb⟩
        refine ⟨_, rfl, ?_⟩
        have n0_ := Aside0.mk (Kd.R_elder' a11_ (Kd.R_base ho0) hb)
        have n1_ := Aside0.mk (Kd.R_elder' a12_ (Kd.R_base ho0) hb)
        have n2_ := Aside0.mk (Kd.R_elder' a13_ (Kd.R_base ho0) hb)
        have n3_ := Aside0.mk (Kd.R_elder' a14_ (Kd.R_base ho0) hb)
        have n4_ := Aside0.mk (Kd.R_lower (Kd.R_new' (Kd.R_new' (Kd.R_new' (Kd.R_new' ho0 (Kd.R_lt a11_)) (Kd.R_lt a12_)) (Kd.R_lt a13_)) (Kd.R_lt a14_)) (below_size a1_))
        have n5_ := Aside0.mk (blk_below (g := gb221) a2_ hb)
        have n6_ := Aside0.mk (blk_below (g := gb222) a3_ hb)
        have n7_ := Aside0.mk (blk_below (g := gb238) a4_ hb)
        have n8_ := Aside0.mk (blk_below (g := gb243) a7_ hb)
        have n9_ := Aside0.mk (blk_below (g := gb248) a8_ hb)
        have n10_ := Aside0.mk (blk_below (g := gb254) a9_ hb)
        have n11_ := Aside0.mk (below_step a1_ hb)
        clear HO_239001 HO_244001 HO_249001 HO_255001 BK221 BK222 BK238 BK243 BK248 BK254 HB; have HO_239001 := n0_; have HO_244001 := n1_; have HO_249001 := n2_; have HO_255001 := n3_; have HO259 := n4_; have BK221 := n5_; have BK222 := n6_; have BK238 := n7_; have BK243 := n8_; have BK248 := n9_; have BK254 := n10_; have HB := n11_; clear n0_ n1_ n2_ n3_ n4_ n5_ n6_ n7_ n8_ n9_ n10_ n11_; (try clear hb); (try clear hb2); (try clear hk); (try clear hi); (try clear ho0)
        obtain ⟨Ao113, co113, eo113⟩ := Kd.R_slice HO259.out
        (first | subst eo113 | (injection eo113 with f1_ f2_ f3_; have f4_ := f1_.symm; have f5_ := f3_.symm; clear f1_ f2_ f3_; subst f4_; subst f5_))
        refine hK.out _ _ ⟨(blk_cell BK243.out 0).trans rfl, (blk_cell BK243.out 1).trans rfl, (blk_cell BK221.out 0).trans rfl, (blk_cell BK221.out 1).trans rfl⟩ (fun hHeld => ?_)
        clear hK K; refine norm_ (a' := ?_) ?_ ?_; rotate_left
        ·show Act.put _ (some 56) _ = _
         simp only [Act.put, List.setIfInBounds_toArray, List.set_cons_zero, List.set_cons_succ, i64_w, i32_w]
         rfl
        refine one_ (i := 3) (N := some 57) #[true, true, true, true, false] rfl rfl (by kernel_rfl) (by decide) (fun K hK => ?_)
        refine goes_ Try.func32 (by kernel_rfl) rfl #[.agg #[.int .i16 t239, .slice Ao52 t240.length co52], .agg #[.int .i16 t256, .slice Ao113 t257.length co113]] (by rfl) rfl rfl a6_ ?_
        with_reducible refine (laws_eqProgram.calls kj24 t239 _ _ t240 t256 _ _ t257 true _ ?side1 ?side2 ?side3 ?side4 A103.out).mono ?_
        (case side1 => exact a108_)
        (case side2 => exact (Kd.R_reads' HO_244001.out).2.1)
        (case side3 => exact a109_)
        (case side4 => exact (Kd.R_reads' HO259.out).2.1)
        rintro e w114 ⟨rfl, hb⟩
        refine ⟨_, rfl, ?_⟩
        have n0_ := Aside0.mk (Kd.R_below a11_ hb)
        have n1_ := Aside0.mk (Kd.R_below a12_ hb)
        have n2_ := Aside0.mk (Kd.R_below a13_ hb)
        have n3_ := Aside0.mk (Kd.R_below a14_ hb)
        have n4_ := Aside0.mk (Kd.R_below a28_ hb)
        have n5_ := Aside0.mk (blk_below (g := gb221) a2_ hb)
        have n6_ := Aside0.mk (blk_below (g := gb222) a3_ hb)
        have n7_ := Aside0.mk (blk_below (g := gb238) a4_ hb)
        have n8_ := Aside0.mk (blk_below (g := gb243) a7_ hb)
        have n9_ := Aside0.mk (blk_below (g := gb248) a8_ hb)
        have n10_ := Aside0.mk (blk_below (g := gb254) a9_ hb)
        have n11_ := Aside0.mk (below_step a1_ hb)
        clear HO_239001 HO_244001 HO_249001 HO_255001 HO259 BK221 BK222 BK238 BK243 BK248 BK254 HB; have HO_239001 := n0_; have HO_244001 := n1_; have HO_249001 := n2_; have HO_255001 := n3_; have HO259 := n4_; have BK221 := n5_; have BK222 := n6_; have BK238 := n7_; have BK243 := n8_; have BK248 := n9_; have BK254 := n10_; have HB := n11_; clear n0_ n1_ n2_ n3_ n4_ n5_ n6_ n7_ n8_ n9_ n10_ n11_; (try clear hb); (try clear hb2); (try clear hk); (try clear hi)
        refine hK.out _ _ ⟨(blk_cell BK243.out 0).trans rfl, (blk_cell BK243.out 1).trans rfl, (blk_cell BK221.out 0).trans rfl, (blk_cell BK221.out 1).trans rfl⟩ (fun hHeld => ?_)
        clear hK K; refine norm_ (a' := ?_) ?_ ?_; rotate_left
        ·show Act.put _ (some 57) _ = _
         simp only [Act.put, List.setIfInBounds_toArray, List.set_cons_zero, List.set_cons_succ, i64_w, i32_w]
         rfl
        refine pure_ (i := 4) (N := some 58) (v := ?_) (a' := ?_) #[true, true, true, true, true] rfl rfl (by kernel_rfl) (fun _ _ _ h => h) (Or.inl ⟨by rfl, ?_⟩) ?_ ?_
        rotate_left
        ·intro w'
         go_simp; with_reducible rfl
        rotate_left
        ·simp only [Act.put, List.setIfInBounds_toArray, List.set_cons_zero, List.set_cons_succ, i64_w, i32_w]
         rfl
        refine done_ (by kernel_rfl) ?_
        try go_wp2
        have n0_ := Aside0.mk (Kd.R_drew HO_239001.out)
        have n1_ := Aside0.mk (Kd.R_drew HO_244001.out)
        have n2_ := Aside0.mk (Kd.R_drew HO_249001.out)
        have n3_ := Aside0.mk (Kd.R_drew HO_255001.out)
        have n4_ := Aside0.mk (Kd.R_drew HO259.out)
        have n5_ := Aside0.mk (blk_drew BK221.out)
        have n6_ := Aside0.mk (blk_drew BK222.out)
        have n7_ := Aside0.mk (blk_drew BK238.out)
        have n8_ := Aside0.mk (blk_drew BK243.out)
        have n9_ := Aside0.mk (blk_drew BK248.out)
        have n10_ := Aside0.mk (blk_drew BK254.out)
        have n11_ := Aside0.mk (below_drew1 HB.out)
        clear HO_239001 HO_244001 HO_249001 HO_255001 HO259 BK221 BK222 BK238 BK243 BK248 BK254 HB; have HO_239001 := n0_; have HO_244001 := n1_; have HO_249001 := n2_; have HO_255001 := n3_; have HO259 := n4_; have BK221 := n5_; have BK222 := n6_; have BK238 := n7_; have BK243 := n8_; have BK248 := n9_; have BK254 := n10_; have HB := n11_; clear n0_ n1_ n2_ n3_ n4_ n5_ n6_ n7_ n8_ n9_ n10_ n11_
        refine start_ (n := 5) (S := fun w' => w'.cell? ⟨gb248, 0, none⟩ = some (.int .i16 t244) ∧ w'.cell? ⟨gb248, 1, none⟩ = some (.slice Ao62 t245.length co62) ∧ w'.cell? ⟨gb222, 0, none⟩ = some (.int .i16 a1_0) ∧ w'.cell? ⟨gb222, 1, none⟩ = some (.slice A1_1 l1_1.length c1_1)) (ds := []) #[false, false, false, false, false] (by kernel_rfl) rfl rfl ⟨(blk_cell BK248.out 0).trans rfl, (blk_cell BK248.out 1).trans rfl, (blk_cell BK222.out 0).trans rfl, (blk_cell BK222.out 1).trans rfl⟩ (fun hHeld => ?_)
        generalize w114.drew = w115 at HO_239001 HO_244001 HO_249001 HO_255001 HO259 BK221 BK222 BK238 BK243 BK248 BK254 HB hHeld ⊢
        refine take_ (i := 0) (N := some 59) (v := ?_) (a' := ?_) #[true, false, false, false, false] rfl rfl (by kernel_rfl) (fun _ _ _ h => h) (Or.inl ⟨by rfl, ?_⟩) hHeld ?_ ?_
        rotate_left
        ·rintro w' ⟨s0, s1, s2, s3⟩
         go_simp; with_reducible rfl
        rotate_left
        ·simp only [Act.put, List.setIfInBounds_toArray, List.set_cons_zero, List.set_cons_succ, i64_w, i32_w]
         rfl
        refine take_ (i := 1) (N := some 60) (v := ?_) (a' := ?_) #[true, true, false, false, false] rfl rfl (by kernel_rfl) (fun _ _ _ h => h) (Or.inl ⟨by rfl, ?_⟩) hHeld ?_ ?_
        rotate_left
        ·rintro w' ⟨s0, s1, s2, s3⟩
         go_simp; with_reducible rfl
        rotate_left
        ·simp only [Act.put, List.setIfInBounds_toArray, List.set_cons_zero, List.set_cons_succ, i64_w, i32_w]
         rfl
        refine one_ (i := 2) (N := some 61) #[true, true, true, false, false] rfl rfl (by kernel_rfl) (by decide) (fun K hK => ?_)
        refine goes_ Try.func30 (by kernel_rfl) rfl #[.agg #[.int .i16 a1_0, .slice A1_1 l1_1.length c1_1]] (by rfl) rfl rfl a6_ ?_
        with_reducible refine (laws_toProgram.calls kj24 a1_0 _ _ l1_1 t261 t262 _ ?side1 ?side2 A105.out).mono ?_
        (case side1 => exact a96_); (case side2 => exact HC1_1.out)
        rintro e w116 ⟨v263, rfl, ho0, hb⟩
        refine ⟨_, rfl, ?_⟩
        have n0_ := Aside0.mk (Kd.R_elder' a11_ (Kd.R_base ho0) hb)
        have n1_ := Aside0.mk (Kd.R_elder' a12_ (Kd.R_base ho0) hb)
        have n2_ := Aside0.mk (Kd.R_elder' a13_ (Kd.R_base ho0) hb)
        have n3_ := Aside0.mk (Kd.R_elder' a14_ (Kd.R_base ho0) hb)
        have n4_ := Aside0.mk (Kd.R_elder' a28_ (Kd.R_base ho0) hb)
        have n5_ := Aside0.mk (Kd.R_lower (Kd.R_new' (Kd.R_new' (Kd.R_new' (Kd.R_new' (Kd.R_new' ho0 (Kd.R_lt a11_)) (Kd.R_lt a12_)) (Kd.R_lt a13_)) (Kd.R_lt a14_)) (Kd.R_lt a28_)) (below_size a1_))
        have n6_ := Aside0.mk (blk_below (g := gb221) a2_ hb)
        have n7_ := Aside0.mk (blk_below (g := gb222) a3_ hb)
        have n8_ := Aside0.mk (blk_below (g := gb238) a4_ hb)
        have n9_ := Aside0.mk (blk_below (g := gb243) a7_ hb)
        have n10_ := Aside0.mk (blk_below (g := gb248) a8_ hb)
        have n11_ := Aside0.mk (blk_below (g := gb254) a9_ hb)
        have n12_ := Aside0.mk (below_step a1_ hb)
        clear HO_239001 HO_244001 HO_249001 HO_255001 HO259 BK221 BK222 BK238 BK243 BK248 BK254 HB; have HO_239001 := n0_; have HO_244001 := n1_; have HO_249001 := n2_; have HO_255001 := n3_; have HO259 := n4_; have HO264 := n5_; have BK221 := n6_; have BK222 := n7_; have BK238 := n8_; have BK243 := n9_; have BK248 := n10_; have BK254 := n11_; have HB := n12_; clear n0_ n1_ n2_ n3_ n4_ n5_ n6_ n7_ n8_ n9_ n10_ n11_ n12_; (try clear hb); (try clear hb2); (try clear hk); (try clear hi); (try clear ho0)
        obtain ⟨Ao117, co117, eo117⟩ := Kd.R_slice HO264.out
        (first | subst eo117 | (injection eo117 with f1_ f2_ f3_; have f4_ := f1_.symm; have f5_ := f3_.symm; clear f1_ f2_ f3_; subst f4_; subst f5_))
        refine hK.out _ _ ⟨(blk_cell BK248.out 0).trans rfl, (blk_cell BK248.out 1).trans rfl, (blk_cell BK222.out 0).trans rfl, (blk_cell BK222.out 1).trans rfl⟩ (fun hHeld => ?_)
        clear hK K; refine norm_ (a' := ?_) ?_ ?_; rotate_left
        ·show Act.put _ (some 61) _ = _
         simp only [Act.put, List.setIfInBounds_toArray, List.set_cons_zero, List.set_cons_succ, i64_w, i32_w]
         rfl
        refine one_ (i := 3) (N := some 62) #[true, true, true, true, false] rfl rfl (by kernel_rfl) (by decide) (fun K hK => ?_)
        refine goes_ Try.func32 (by kernel_rfl) rfl #[.agg #[.int .i16 t244, .slice Ao62 t245.length co62], .agg #[.int .i16 t261, .slice Ao117 t262.length co117]] (by rfl) rfl rfl a6_ ?_
        with_reducible refine (laws_eqProgram.calls kj24 t244 _ _ t245 t261 _ _ t262 true _ ?side1 ?side2 ?side3 ?side4 A106.out).mono ?_
        (case side1 => exact a110_)
        (case side2 => exact (Kd.R_reads' HO_249001.out).2.1)
        (case side3 => exact a112_)
        (case side4 => exact (Kd.R_reads' HO264.out).2.1)
        rintro e w118 ⟨rfl, hb⟩
        refine ⟨_, rfl, ?_⟩
        have n0_ := Aside0.mk (Kd.R_below a11_ hb)
        have n1_ := Aside0.mk (Kd.R_below a12_ hb)
        have n2_ := Aside0.mk (Kd.R_below a13_ hb)
        have n3_ := Aside0.mk (Kd.R_below a14_ hb)
        have n4_ := Aside0.mk (Kd.R_below a28_ hb)
        have n5_ := Aside0.mk (Kd.R_below a74_ hb)
        have n6_ := Aside0.mk (blk_below (g := gb221) a2_ hb)
        have n7_ := Aside0.mk (blk_below (g := gb222) a3_ hb)
        have n8_ := Aside0.mk (blk_below (g := gb238) a4_ hb)
        have n9_ := Aside0.mk (blk_below (g := gb243) a7_ hb)
        have n10_ := Aside0.mk (blk_below (g := gb248) a8_ hb)
        have n11_ := Aside0.mk (blk_below (g := gb254) a9_ hb)
        have n12_ := Aside0.mk (below_step a1_ hb)
        clear HO_239001 HO_244001 HO_249001 HO_255001 HO259 HO264 BK221 BK222 BK238 BK243 BK248 BK254 HB; have HO_239001 := n0_; have HO_244001 := n1_; have HO_249001 := n2_; have HO_255001 := n3_; have HO259 := n4_; have HO264 := n5_; have BK221 := n6_; have BK222 := n7_; have BK238 := n8_; have BK243 := n9_; have BK248 := n10_; have BK254 := n11_; have HB := n12_; clear n0_ n1_ n2_ n3_ n4_ n5_ n6_ n7_ n8_ n9_ n10_ n11_ n12_; (try clear hb); (try clear hb2); (try clear hk); (try clear hi)
        refine hK.out _ _ ⟨(blk_cell BK248.out 0).trans rfl, (blk_cell BK248.out 1).trans rfl, (blk_cell BK222.out 0).trans rfl, (blk_cell BK222.out 1).trans rfl⟩ (fun hHeld => ?_)
        clear hK K; refine norm_ (a' := ?_) ?_ ?_; rotate_left
        ·show Act.put _ (some 62) _ = _
         simp only [Act.put, List.setIfInBounds_toArray, List.set_cons_zero, List.set_cons_succ, i64_w, i32_w]
         rfl
        refine pure_ (i := 4) (N := some 63) (v := ?_) (a' := ?_) #[true, true, true, true, true] rfl rfl (by kernel_rfl) (fun _ _ _ h => h) (Or.inl ⟨by rfl, ?_⟩) ?_ ?_
        rotate_left
        ·intro w'
         go_simp; with_reducible rfl
        rotate_left
        ·simp only [Act.put, List.setIfInBounds_toArray, List.set_cons_zero, List.set_cons_succ, i64_w, i32_w]
         rfl
        refine done_ (by kernel_rfl) ?_
        have hnb119 := NB243_221.out
        have hnc119 := NB221_243.out
        have hnb120 := NB243_222.out
        have hnc120 := NB222_243.out
        have hnb121 := NB243_238.out
        have hnc121 := NB238_243.out
        have hnb122 := NB243_248.out
        have hnc122 := NB248_243.out
        have hnb123 := NB243_254.out
        have hnc123 := NB254_243.out
        have hcz124_0 : w118.cell? ⟨gb243, 0, none⟩ = some (.int .i16 t239) := (blk_cell BK243.out 0).trans rfl
        have hcz124_1 : w118.cell? ⟨gb243, 1, none⟩ = some (.slice Ao52 t240.length co52) := (blk_cell BK243.out 1).trans rfl
        have hfz124_0 := blk_frozen BK243.out 0
        have hfz124_1 := blk_frozen BK243.out 1
        go_upto_region 21 with (first | ((with_reducible refine gate_callee (f := 33) rfl ?_); refine goesL_ (some 66) rfl rfl Try.func33 (by kernel_rfl) rfl #[.agg #[.int .i16 t239, .slice Ao52 t240.length co52], .int .i64 1] rfl a6_ ?_; (with_reducible refine (laws_markProgram.calls kj24 t239 (fun k_ => some k_ = (.slice Ao52 t240.length co52 : Value).ownBlock) (.slice Ao52 t240.length co52) t240 1 t266 t267 w _ ?side1 ?side2 A108.out).mono ?_); (case side1 => exact a97_); (case side2 => exact Kd.R_tight rfl HO_244001.out); rintro e w125 ⟨rfl, hy0, hb, hkp⟩; refine ⟨_, rfl, ?_⟩; have n0_ := Aside0.mk (Kd.R_mono (ok' := fun k_ => nbk k_ Ao52 t240.length co52 ∧ nbk k_ Ao62 t245.length co62 ∧ nbk k_ Ao74 t250.length co74 ∧ nbk k_ Ao113 t257.length co113 ∧ nbk k_ Ao117 t262.length co117) (Kd.R_keptB (HO_239001.out) hkp (fun k_ hk_ hs_ => (hk_.1.1.1) hs_)) (fun k_ hk_ => ⟨hk_.1.1.1.1, hk_.1.1.1.2.1, hk_.1.1.1.2.2, hk_.1.1.2, hk_.1.2⟩)); have n1_ := Aside0.mk (Kd.R_reok rfl hy0 (fun k_ e_ => HO_244001.out.1 k_ e_)); have n2_ := Aside0.mk (Kd.R_mono (ok' := fun k_ => nbk k_ Ao42 t234.length co42 ∧ nbk k_ Ao52 t240.length co52 ∧ nbk k_ Ao74 t250.length co74 ∧ nbk k_ Ao113 t257.length co113 ∧ nbk k_ Ao117 t262.length co117) (Kd.R_keptB (HO_249001.out) hkp (fun k_ hk_ hs_ => (hk_.1.1.2.1) hs_)) (fun k_ hk_ => ⟨hk_.1.1.1.1, hk_.1.1.1.2.1, hk_.1.1.1.2.2, hk_.1.1.2, hk_.1.2⟩)); have n3_ := Aside0.mk (Kd.R_mono (ok' := fun k_ => nbk k_ Ao42 t234.length co42 ∧ nbk k_ Ao52 t240.length co52 ∧ nbk k_ Ao62 t245.length co62 ∧ nbk k_ Ao113 t257.length co113 ∧ nbk k_ Ao117 t262.length co117) (Kd.R_keptB (HO_255001.out) hkp (fun k_ hk_ hs_ => (hk_.1.1.2.1) hs_)) (fun k_ hk_ => ⟨hk_.1.1.1.1, hk_.1.1.1.2.1, hk_.1.1.1.2.2, hk_.1.1.2, hk_.1.2⟩)); have n4_ := Aside0.mk (blk_kept a2_ hkp (fun hs_ => (fun e_ => (Kd.R_ne HO_244001.out BK221.out (by decide)) e_) hs_)); have n5_ := Aside0.mk (blk_kept a3_ hkp (fun hs_ => (fun e_ => (Kd.R_ne HO_244001.out BK222.out (by decide)) e_) hs_)); have n6_ := Aside0.mk (blk_kept a4_ hkp (fun hs_ => (fun e_ => (Kd.R_ne HO_244001.out BK238.out (by decide)) e_) hs_)); have n7_ := Aside0.mk (blk_kept a7_ hkp (fun hs_ => (fun e_ => (Kd.R_ne HO_244001.out BK243.out (by decide)) e_) hs_)); have n8_ := Aside0.mk (blk_kept a8_ hkp (fun hs_ => (fun e_ => (Kd.R_ne HO_244001.out BK248.out (by decide)) e_) hs_)); have n9_ := Aside0.mk (blk_kept a9_ hkp (fun hs_ => (fun e_ => (Kd.R_ne HO_244001.out BK254.out (by decide)) e_) hs_)); have n10_ := Aside0.mk (Kd.R_mono (ok' := fun k_ => nbk k_ Ao42 t234.length co42 ∧ nbk k_ Ao52 t240.length co52 ∧ nbk k_ Ao62 t245.length co62 ∧ nbk k_ Ao74 t250.length co74 ∧ nbk k_ Ao117 t262.length co117) (Kd.R_keptB (HO259.out) hkp (fun k_ hk_ hs_ => (hk_.1.1.1.2) hs_)) (fun k_ hk_ => ⟨hk_.1.1.1.1.1.2, hk_.1.1.1.1.2, hk_.1.1.1.2, hk_.1.1.2, hk_.1.2⟩)); have n11_ := Aside0.mk (Kd.R_mono (ok' := fun k_ => nbk k_ Ao42 t234.length co42 ∧ nbk k_ Ao52 t240.length co52 ∧ nbk k_ Ao62 t245.length co62 ∧ nbk k_ Ao74 t250.length co74 ∧ nbk k_ Ao113 t257.length co113) (Kd.R_keptB (HO264.out) hkp (fun k_ hk_ hs_ => (hk_.1.1.1.2) hs_)) (fun k_ hk_ => ⟨hk_.1.1.1.1.1.2, hk_.1.1.1.1.2, hk_.1.1.1.2, hk_.1.1.2, hk_.1.2⟩)); have n12_ := Aside0.mk (hb); clear HO_239001; clear HO_244001; clear HO_249001; clear HO_255001; clear BK221; clear BK222; clear BK238; clear BK243; clear BK248; clear BK254; clear HO259; clear HO264; clear HB; have HO_239001 := n0_; have HO_244001 := n1_; have HO_249001 := n2_; have HO_255001 := n3_; have BK221 := n4_; have BK222 := n5_; have BK238 := n6_; have BK243 := n7_; have BK248 := n8_; have BK254 := n9_; have HO259 := n10_; have HO264 := n11_; have HB := n12_; clear n0_ n1_ n2_ n3_ n4_ n5_ n6_ n7_ n8_ n9_ n10_ n11_ n12_; (try clear hb); (try clear hkp); (try clear hy0); have hnb126 := NB248_221.out; have hnc126 := NB221_248.out; have hnb127 := NB248_222.out; have hnc127 := NB222_248.out; have hnb128 := NB248_238.out; have hnc128 := NB238_248.out; have hnb129 := NB248_254.out; have hnc129 := NB254_248.out; have hcz130_0 : w125.cell? ⟨gb248, 0, none⟩ = some (.int .i16 t244) := (blk_cell BK248.out 0).trans rfl; have hcz130_1 : w125.cell? ⟨gb248, 1, none⟩ = some (.slice Ao62 t245.length co62) := (blk_cell BK248.out 1).trans rfl; have hfz130_0 := blk_frozen BK248.out 0; have hfz130_1 := blk_frozen BK248.out 1) | ((with_reducible refine gate_callee (f := 33) rfl ?_); refine goesL_ (some 69) rfl rfl Try.func33 (by kernel_rfl) rfl #[.agg #[.int .i16 t244, .slice Ao62 t245.length co62], .int .i64 t266] rfl a6_ ?_; (with_reducible refine (laws_markProgram.calls kj24 t244 (fun k_ => some k_ = (.slice Ao62 t245.length co62 : Value).ownBlock) (.slice Ao62 t245.length co62) t245 t266 t268 t269 w _ ?side1 ?side2 A109.out).mono ?_); (case side1 => exact a97_); (case side2 => exact Kd.R_tight rfl HO_249001.out); rintro e w131 ⟨rfl, hy0, hb, hkp⟩; refine ⟨_, rfl, ?_⟩; have n0_ := Aside0.mk (Kd.R_mono (ok' := fun k_ => nbk k_ Ao52 t240.length co52 ∧ nbk k_ Ao62 t245.length co62 ∧ nbk k_ Ao74 t250.length co74 ∧ nbk k_ Ao113 t257.length co113 ∧ nbk k_ Ao117 t262.length co117) (Kd.R_keptB (HO_239001.out) hkp (fun k_ hk_ hs_ => (hk_.2.1) hs_)) (fun k_ hk_ => ⟨hk_.1.1, hk_.1.2.1, hk_.1.2.2.1, hk_.1.2.2.2.1, hk_.1.2.2.2.2⟩)); have n1_ := Aside0.mk (Kd.R_mono (ok' := fun k_ => nbk k_ Ao42 t234.length co42 ∧ nbk k_ Ao62 t245.length co62 ∧ nbk k_ Ao74 t250.length co74 ∧ nbk k_ Ao113 t257.length co113 ∧ nbk k_ Ao117 t262.length co117) (Kd.R_keptB (HO_244001.out) hkp (fun k_ hk_ hs_ => (hk_.1.1.2.1) hs_)) (fun k_ hk_ => ⟨hk_.1.1.1.1, hk_.1.1.1.2.1, hk_.1.1.1.2.2, hk_.1.1.2, hk_.1.2⟩)); have n2_ := Aside0.mk (Kd.R_reok rfl hy0 (fun k_ e_ => HO_249001.out.1 k_ e_)); have n3_ := Aside0.mk (Kd.R_mono (ok' := fun k_ => nbk k_ Ao42 t234.length co42 ∧ nbk k_ Ao52 t240.length co52 ∧ nbk k_ Ao62 t245.length co62 ∧ nbk k_ Ao113 t257.length co113 ∧ nbk k_ Ao117 t262.length co117) (Kd.R_keptB (HO_255001.out) hkp (fun k_ hk_ hs_ => (hk_.2.2.1) hs_)) (fun k_ hk_ => ⟨hk_.1.1, hk_.1.2.1, hk_.1.2.2.1, hk_.1.2.2.2.1, hk_.1.2.2.2.2⟩)); have n4_ := Aside0.mk (blk_kept a2_ hkp (fun hs_ => (fun e_ => (Kd.R_ne HO_249001.out BK221.out (by decide)) e_) hs_)); have n5_ := Aside0.mk (blk_kept a3_ hkp (fun hs_ => (fun e_ => (Kd.R_ne HO_249001.out BK222.out (by decide)) e_) hs_)); have n6_ := Aside0.mk (blk_kept a4_ hkp (fun hs_ => (fun e_ => (Kd.R_ne HO_249001.out BK238.out (by decide)) e_) hs_)); have n7_ := Aside0.mk (blk_kept a7_ hkp (fun hs_ => (fun e_ => (Kd.R_ne HO_249001.out BK243.out (by decide)) e_) hs_)); have n8_ := Aside0.mk (blk_kept a8_ hkp (fun hs_ => (fun e_ => (Kd.R_ne HO_249001.out BK248.out (by decide)) e_) hs_)); have n9_ := Aside0.mk (blk_kept a9_ hkp (fun hs_ => (fun e_ => (Kd.R_ne HO_249001.out BK254.out (by decide)) e_) hs_)); have n10_ := Aside0.mk (Kd.R_mono (ok' := fun k_ => nbk k_ Ao42 t234.length co42 ∧ nbk k_ Ao52 t240.length co52 ∧ nbk k_ Ao62 t245.length co62 ∧ nbk k_ Ao74 t250.length co74 ∧ nbk k_ Ao117 t262.length co117) (Kd.R_keptB (HO259.out) hkp (fun k_ hk_ hs_ => (hk_.2.2.1) hs_)) (fun k_ hk_ => ⟨hk_.1.1, hk_.1.2.1, hk_.1.2.2.1, hk_.1.2.2.2.1, hk_.1.2.2.2.2⟩)); have n11_ := Aside0.mk (Kd.R_mono (ok' := fun k_ => nbk k_ Ao42 t234.length co42 ∧ nbk k_ Ao52 t240.length co52 ∧ nbk k_ Ao62 t245.length co62 ∧ nbk k_ Ao74 t250.length co74 ∧ nbk k_ Ao113 t257.length co113) (Kd.R_keptB (HO264.out) hkp (fun k_ hk_ hs_ => (hk_.2.2.1) hs_)) (fun k_ hk_ => ⟨hk_.1.1, hk_.1.2.1, hk_.1.2.2.1, hk_.1.2.2.2.1, hk_.1.2.2.2.2⟩)); have n12_ := Aside0.mk (hb); clear HO_239001; clear HO_244001; clear HO_249001; clear HO_255001; clear BK221; clear BK222; clear BK238; clear BK243; clear BK248; clear BK254; clear HO259; clear HO264; clear HB; have HO_239001 := n0_; have HO_244001 := n1_; have HO_249001 := n2_; have HO_255001 := n3_; have BK221 := n4_; have BK222 := n5_; have BK238 := n6_; have BK243 := n7_; have BK248 := n8_; have BK254 := n9_; have HO259 := n10_; have HO264 := n11_; have HB := n12_; clear n0_ n1_ n2_ n3_ n4_ n5_ n6_ n7_ n8_ n9_ n10_ n11_ n12_; (try clear hb); (try clear hkp); (try clear hy0)))
        (try simp only [Act.put, List.setIfInBounds_toArray, List.set_cons_zero, List.set_cons_succ])
        go_cut [82] (fun v82 wc => ∃ (kq : Nat) (x82_109 : Bool), v82 = .bool x82_109 ∧ Aside0 (laws_FnExactJoinPrograms.j1 kq t237 x82_109 a0_0 l0_1 a1_0 l1_1 t233 t234 t249 t250 = some r) ∧ Aside0 (kq ≤ kj24) ∧ Aside0 (Kd.R k125 125 wc w.heap.size (fun k_ => some k_ ≠ ((.slice Ao52 t240.length co52) : Value).ownBlock ∧ some k_ ≠ ((.slice Ao62 t245.length co62) : Value).ownBlock ∧ some k_ ≠ ((.slice Ao74 t250.length co74) : Value).ownBlock) (.slice Ao42 t234.length co42) t234) ∧ Aside0 (Kd.R k125 125 wc w.heap.size (fun k_ => some k_ ≠ ((.slice Ao42 t234.length co42) : Value).ownBlock ∧ some k_ ≠ ((.slice Ao62 t245.length co62) : Value).ownBlock ∧ some k_ ≠ ((.slice Ao74 t250.length co74) : Value).ownBlock) (.slice Ao52 t240.length co52) t267) ∧ Aside0 (Kd.R k125 125 wc w.heap.size (fun k_ => some k_ ≠ ((.slice Ao42 t234.length co42) : Value).ownBlock ∧ some k_ ≠ ((.slice Ao52 t240.length co52) : Value).ownBlock ∧ some k_ ≠ ((.slice Ao74 t250.length co74) : Value).ownBlock) (.slice Ao62 t245.length co62) t269) ∧ Aside0 (Kd.R k125 125 wc w.heap.size (fun k_ => some k_ ≠ ((.slice Ao42 t234.length co42) : Value).ownBlock ∧ some k_ ≠ ((.slice Ao52 t240.length co52) : Value).ownBlock ∧ some k_ ≠ ((.slice Ao62 t245.length co62) : Value).ownBlock) (.slice Ao74 t250.length co74) t250) ∧ Aside0 (wc.heap[gb221]? = some (.cells #[.int .i16 a0_0, (.slice A0_1 l0_1.length c0_1)] 41 (0, 0))) ∧ Aside0 (wc.heap[gb222]? = some (.cells #[.int .i16 a1_0, (.slice A1_1 l1_1.length c1_1)] 41 (0, 0))) ∧ Aside0 (wc.heap[gb238]? = some (.cells #[.int .i16 t233, (.slice Ao42 t234.length co42)] 45 (0, 0))) ∧ Aside0 (wc.heap[gb243]? = some (.cells #[.int .i16 t239, (.slice Ao52 t240.length co52)] 45 (0, 0))) ∧ Aside0 (wc.heap[gb248]? = some (.cells #[.int .i16 t244, (.slice Ao62 t245.length co62)] 45 (0, 0))) ∧ Aside0 (wc.heap[gb254]? = some (.cells #[.int .i16 t249, (.slice Ao74 t250.length co74)] 45 (0, 0))) ∧ Aside0 (Below w.heap.size w wc))
        case first =>
         have H := HC110.out
         clear HC110
         by_cases c132 : t268 < 0
         ·rw [if_pos c132] at H
          have c132b0 : decide (t268 < 0) = true := decide_eq_true c132
          clear c132
          (first | rw [c132b0] | (simp only [i64_w, i32_w]; rw [c132b0]) | skip)
          have H' := Aside0.mk H
          clear H
          go_wp2
          go_meet
          case rel => exact ⟨_, (true), a76_, H', ⟨by have := HJ24.out; first | omega | exact Nat.le_refl _⟩, ⟨by (with_reducible repeat (first | apply Kd.R_alloc | apply Kd.R_drewN | apply Kd.R_drew)); exact Kd.R_mono HO_239001.out (fun _ hk => ⟨hk.1, ⟨hk.2.1, hk.2.2.1⟩⟩)⟩, ⟨by (with_reducible repeat (first | apply Kd.R_alloc | apply Kd.R_drewN | apply Kd.R_drew)); exact Kd.R_mono HO_244001.out (fun _ hk => ⟨hk.1, ⟨hk.2.1, hk.2.2.1⟩⟩)⟩, ⟨by (with_reducible repeat (first | apply Kd.R_alloc | apply Kd.R_drewN | apply Kd.R_drew)); exact Kd.R_mono HO_249001.out (fun _ hk => ⟨hk.1, ⟨hk.2.1, hk.2.2.1⟩⟩)⟩, ⟨by (with_reducible repeat (first | apply Kd.R_alloc | apply Kd.R_drewN | apply Kd.R_drew)); exact Kd.R_mono HO_255001.out (fun _ hk => ⟨hk.1, ⟨hk.2.1, hk.2.2.1⟩⟩)⟩, ⟨by (with_reducible repeat (first | refine blk_drewN ?_ _ | refine blk_drew ?_ | refine blk_alloc ?_ _)); exact BK221.out⟩, ⟨by (with_reducible repeat (first | refine blk_drewN ?_ _ | refine blk_drew ?_ | refine blk_alloc ?_ _)); exact BK222.out⟩, ⟨by (with_reducible repeat (first | refine blk_drewN ?_ _ | refine blk_drew ?_ | refine blk_alloc ?_ _)); exact BK238.out⟩, ⟨by (with_reducible repeat (first | refine blk_drewN ?_ _ | refine blk_drew ?_ | refine blk_alloc ?_ _)); exact BK243.out⟩, ⟨by (with_reducible repeat (first | refine blk_drewN ?_ _ | refine blk_drew ?_ | refine blk_alloc ?_ _)); exact BK248.out⟩, ⟨by (with_reducible repeat (first | refine blk_drewN ?_ _ | refine blk_drew ?_ | refine blk_alloc ?_ _)); exact BK254.out⟩, ⟨by repeat (first | (with_reducible first | exact HB.out | apply below_alloc | apply pw_below_drewN | apply below_drew1 | refine below_set ?_ GE221.out | refine below_set ?_ GE222.out | refine below_set ?_ GE238.out | refine below_set ?_ GE243.out | refine below_set ?_ GE248.out | refine below_set ?_ GE254.out) | exact HB.out)⟩⟩
         ·rw [if_neg c132] at H
          have c132b0 : decide (t268 < 0) = false := decide_eq_false c132
          clear c132
          (first | rw [c132b0] | (simp only [i64_w, i32_w]; rw [c132b0]) | skip)
          replace H := Option.bind_eq_some_iff.mp H
          obtain ⟨t270, A1330, H⟩ := H
          replace H : (if t270 = true then (laws_FnExactJoinPrograms.j1 kj24 t237 (t253 != t237) a0_0 l0_1 a1_0 l1_1 t233 t234 t249 t250) else (laws_FnExactJoinPrograms.j1 kj24 t237 true a0_0 l0_1 a1_0 l1_1 t233 t234 t249 t250)) = some r := H
          have A133 := Aside0.mk A1330
          clear A1330
          by_cases c134 : t270 = true
          ·subst c134
           have H1 : (laws_FnExactJoinPrograms.j1 kj24 t237 (t253 != t237) a0_0 l0_1 a1_0 l1_1 t233 t234 t249 t250) = some r := by rw [if_pos rfl] at H; exact H
           clear H
           have H := H1
           clear H1
           have H' := Aside0.mk H
           clear H
           have hnb135 := NB254_221.out
           have hnc135 := NB221_254.out
           have hnb136 := NB254_222.out
           have hnc136 := NB222_254.out
           have hnb137 := NB254_238.out
           have hnc137 := NB238_254.out
           have hnb138 := NB254_243.out
           have hnc138 := NB243_254.out
           have hnb139 := NB254_248.out
           have hnc139 := NB248_254.out
           have hcz140_0 : w131.cell? ⟨gb254, 0, none⟩ = some (.int .i16 t249) := (blk_cell BK254.out 0).trans rfl
           have hcz140_1 : w131.cell? ⟨gb254, 1, none⟩ = some (.slice Ao74 t250.length co74) := (blk_cell BK254.out 1).trans rfl
           have hfz140_0 := blk_frozen BK254.out 0
           have hfz140_1 := blk_frozen BK254.out 1
           have hnb141 := NB238_221.out
           have hnc141 := NB221_238.out
           have hnb142 := NB238_222.out
           have hnc142 := NB222_238.out
           have hnb143 := NB238_243.out
           have hnc143 := NB243_238.out
           have hnb144 := NB238_248.out
           have hnc144 := NB248_238.out
           have hcz145_0 : w131.cell? ⟨gb238, 0, none⟩ = some (.int .i16 t233) := (blk_cell BK238.out 0).trans rfl
           have hcz145_1 : w131.cell? ⟨gb238, 1, none⟩ = some (.slice Ao42 t234.length co42) := (blk_cell BK238.out 1).trans rfl
           have hfz145_0 := blk_frozen BK238.out 0
           have hfz145_1 := blk_frozen BK238.out 1
           go_wp2_with (first | (go_at_call 32; (with_reducible refine (laws_eqProgram.calls kj24 t249 _ _ t250 t233 _ _ t234 true _ ?side1 ?side2 ?side3 ?side4 A133.out).mono ?_); (case side1 => exact a98_); (case side2 => exact (Kd.R_reads' HO_255001.out).2.1); (case side3 => exact a111_); (case side4 => exact (Kd.R_reads' HO_239001.out).2.1); rintro e w146 ⟨rfl, hb⟩; have n0_ := Aside0.mk (Kd.R_below a11_ hb); have n1_ := Aside0.mk (Kd.R_below a12_ hb); have n2_ := Aside0.mk (Kd.R_below a13_ hb); have n3_ := Aside0.mk (Kd.R_below a14_ hb); have n4_ := Aside0.mk (Kd.R_below a28_ hb); have n5_ := Aside0.mk (Kd.R_below a74_ hb); have n6_ := Aside0.mk (blk_below (g := gb221) a2_ hb); have n7_ := Aside0.mk (blk_below (g := gb222) a3_ hb); have n8_ := Aside0.mk (blk_below (g := gb238) a4_ hb); have n9_ := Aside0.mk (blk_below (g := gb243) a7_ hb); have n10_ := Aside0.mk (blk_below (g := gb248) a8_ hb); have n11_ := Aside0.mk (blk_below (g := gb254) a9_ hb); have n12_ := Aside0.mk (below_step a1_ hb); clear HO_239001; clear HO_244001; clear HO_249001; clear HO_255001; clear HO259; clear HO264; clear BK221; clear BK222; clear BK238; clear BK243; clear BK248; clear BK254; clear HB; have HO_239001 := n0_; have HO_244001 := n1_; have HO_249001 := n2_; have HO_255001 := n3_; have HO259 := n4_; have HO264 := n5_; have BK221 := n6_; have BK222 := n7_; have BK238 := n8_; have BK243 := n9_; have BK248 := n10_; have BK254 := n11_; have HB := n12_; clear n0_ n1_ n2_ n3_ n4_ n5_ n6_ n7_ n8_ n9_ n10_ n11_ n12_; (try clear hb); (try clear hb2); (try clear hk); (try clear hi)))
           go_meet
           case rel => exact ⟨_, ((t253 != t237)), a76_, H', ⟨by have := HJ24.out; first | omega | exact Nat.le_refl _⟩, ⟨by (with_reducible repeat (first | apply Kd.R_alloc | apply Kd.R_drewN | apply Kd.R_drew)); exact Kd.R_mono HO_239001.out (fun _ hk => ⟨hk.1, ⟨hk.2.1, hk.2.2.1⟩⟩)⟩, ⟨by (with_reducible repeat (first | apply Kd.R_alloc | apply Kd.R_drewN | apply Kd.R_drew)); exact Kd.R_mono HO_244001.out (fun _ hk => ⟨hk.1, ⟨hk.2.1, hk.2.2.1⟩⟩)⟩, ⟨by (with_reducible repeat (first | apply Kd.R_alloc | apply Kd.R_drewN | apply Kd.R_drew)); exact Kd.R_mono HO_249001.out (fun _ hk => ⟨hk.1, ⟨hk.2.1, hk.2.2.1⟩⟩)⟩, ⟨by (with_reducible repeat (first | apply Kd.R_alloc | apply Kd.R_drewN | apply Kd.R_drew)); exact Kd.R_mono HO_255001.out (fun _ hk => ⟨hk.1, ⟨hk.2.1, hk.2.2.1⟩⟩)⟩, ⟨by (with_reducible repeat (first | refine blk_drewN ?_ _ | refine blk_drew ?_ | refine blk_alloc ?_ _)); exact BK221.out⟩, ⟨by (with_reducible repeat (first | refine blk_drewN ?_ _ | refine blk_drew ?_ | refine blk_alloc ?_ _)); exact BK222.out⟩, ⟨by (with_reducible repeat (first | refine blk_drewN ?_ _ | refine blk_drew ?_ | refine blk_alloc ?_ _)); exact BK238.out⟩, ⟨by (with_reducible repeat (first | refine blk_drewN ?_ _ | refine blk_drew ?_ | refine blk_alloc ?_ _)); exact BK243.out⟩, ⟨by (with_reducible repeat (first | refine blk_drewN ?_ _ | refine blk_drew ?_ | refine blk_alloc ?_ _)); exact BK248.out⟩, ⟨by (with_reducible repeat (first | refine blk_drewN ?_ _ | refine blk_drew ?_ | refine blk_alloc ?_ _)); exact BK254.out⟩, ⟨by repeat (first | (with_reducible first | exact HB.out | apply below_alloc | apply pw_below_drewN | apply below_drew1 | refine below_set ?_ GE221.out | refine below_set ?_ GE222.out | refine below_set ?_ GE238.out | refine below_set ?_ GE243.out | refine below_set ?_ GE248.out | refine below_set ?_ GE254.out) | exact HB.out)⟩⟩
          ·replace c134 := Bool.eq_false_iff.mpr c134
           subst c134
           have H1 : (laws_FnExactJoinPrograms.j1 kj24 t237 true a0_0 l0_1 a1_0 l1_1 t233 t234 t249 t250) = some r := by rw [if_neg (show ¬ (false = true) by decide)] at H; exact H
           clear H
           have H := H1
           clear H1
           have H' := Aside0.mk H
           clear H
           have hnb147 := NB254_221.out
           have hnc147 := NB221_254.out
           have hnb148 := NB254_222.out
           have hnc148 := NB222_254.out
           have hnb149 := NB254_238.out
           have hnc149 := NB238_254.out
           have hnb150 := NB254_243.out
           have hnc150 := NB243_254.out
           have hnb151 := NB254_248.out
           have hnc151 := NB248_254.out
           have hcz152_0 : w131.cell? ⟨gb254, 0, none⟩ = some (.int .i16 t249) := (blk_cell BK254.out 0).trans rfl
           have hcz152_1 : w131.cell? ⟨gb254, 1, none⟩ = some (.slice Ao74 t250.length co74) := (blk_cell BK254.out 1).trans rfl
           have hfz152_0 := blk_frozen BK254.out 0
           have hfz152_1 := blk_frozen BK254.out 1
           have hnb153 := NB238_221.out
           have hnc153 := NB221_238.out
           have hnb154 := NB238_222.out
           have hnc154 := NB222_238.out
           have hnb155 := NB238_243.out
           have hnc155 := NB243_238.out
           have hnb156 := NB238_248.out
           have hnc156 := NB248_238.out
           have hcz157_0 : w131.cell? ⟨gb238, 0, none⟩ = some (.int .i16 t233) := (blk_cell BK238.out 0).trans rfl
           have hcz157_1 : w131.cell? ⟨gb238, 1, none⟩ = some (.slice Ao42 t234.length co42) := (blk_cell BK238.out 1).trans rfl
           have hfz157_0 := blk_frozen BK238.out 0
           have hfz157_1 := blk_frozen BK238.out 1
           go_wp2_with (first | (go_at_call 32; (with_reducible refine (laws_eqProgram.calls kj24 t249 _ _ t250 t233 _ _ t234 false _ ?side1 ?side2 ?side3 ?side4 A133.out).mono ?_); (case side1 => exact a98_); (case side2 => exact (Kd.R_reads' HO_255001.out).2.1); (case side3 => exact a111_); (case side4 => exact (Kd.R_reads' HO_239001.out).2.1); rintro e w158 ⟨rfl, hb⟩; have n0_ := Aside0.mk (Kd.R_below a11_ hb); have n1_ := Aside0.mk (Kd.R_below a12_ hb); have n2_ := Aside0.mk (Kd.R_below a13_ hb); have n3_ := Aside0.mk (Kd.R_below a14_ hb); have n4_ := Aside0.mk (Kd.R_below a28_ hb); have n5_ := Aside0.mk (Kd.R_below a74_ hb); have n6_ := Aside0.mk (blk_below (g := gb221) a2_ hb); have n7_ := Aside0.mk (blk_below (g := gb222) a3_ hb); have n8_ := Aside0.mk (blk_below (g := gb238) a4_ hb); have n9_ := Aside0.mk (blk_below (g := gb243) a7_ hb); have n10_ := Aside0.mk (blk_below (g := gb248) a8_ hb); have n11_ := Aside0.mk (blk_below (g := gb254) a9_ hb); have n12_ := Aside0.mk (below_step a1_ hb); clear HO_239001; clear HO_244001; clear HO_249001; clear HO_255001; clear HO259; clear HO264; clear BK221; clear BK222; clear BK238; clear BK243; clear BK248; clear BK254; clear HB; have HO_239001 := n0_; have HO_244001 := n1_; have HO_249001 := n2_; have HO_255001 := n3_; have HO259 := n4_; have HO264 := n5_; have BK221 := n6_; have BK222 := n7_; have BK238 := n8_; have BK243 := n9_; have BK248 := n10_; have BK254 := n11_; have HB := n12_; clear n0_ n1_ n2_ n3_ n4_ n5_ n6_ n7_ n8_ n9_ n10_ n11_ n12_; (try clear hb); (try clear hb2); (try clear hk); (try clear hi)))
           go_meet
           case rel => exact ⟨_, (true), a76_, H', ⟨by have := HJ24.out; first | omega | exact Nat.le_refl _⟩, ⟨by (with_reducible repeat (first | apply Kd.R_alloc | apply Kd.R_drewN | apply Kd.R_drew)); exact Kd.R_mono HO_239001.out (fun _ hk => ⟨hk.1, ⟨hk.2.1, hk.2.2.1⟩⟩)⟩, ⟨by (with_reducible repeat (first | apply Kd.R_alloc | apply Kd.R_drewN | apply Kd.R_drew)); exact Kd.R_mono HO_244001.out (fun _ hk => ⟨hk.1, ⟨hk.2.1, hk.2.2.1⟩⟩)⟩, ⟨by (with_reducible repeat (first | apply Kd.R_alloc | apply Kd.R_drewN | apply Kd.R_drew)); exact Kd.R_mono HO_249001.out (fun _ hk => ⟨hk.1, ⟨hk.2.1, hk.2.2.1⟩⟩)⟩, ⟨by (with_reducible repeat (first | apply Kd.R_alloc | apply Kd.R_drewN | apply Kd.R_drew)); exact Kd.R_mono HO_255001.out (fun _ hk => ⟨hk.1, ⟨hk.2.1, hk.2.2.1⟩⟩)⟩, ⟨by (with_reducible repeat (first | refine blk_drewN ?_ _ | refine blk_drew ?_ | refine blk_alloc ?_ _)); exact BK221.out⟩, ⟨by (with_reducible repeat (first | refine blk_drewN ?_ _ | refine blk_drew ?_ | refine blk_alloc ?_ _)); exact BK222.out⟩, ⟨by (with_reducible repeat (first | refine blk_drewN ?_ _ | refine blk_drew ?_ | refine blk_alloc ?_ _)); exact BK238.out⟩, ⟨by (with_reducible repeat (first | refine blk_drewN ?_ _ | refine blk_drew ?_ | refine blk_alloc ?_ _)); exact BK243.out⟩, ⟨by (with_reducible repeat (first | refine blk_drewN ?_ _ | refine blk_drew ?_ | refine blk_alloc ?_ _)); exact BK248.out⟩, ⟨by (with_reducible repeat (first | refine blk_drewN ?_ _ | refine blk_drew ?_ | refine blk_alloc ?_ _)); exact BK254.out⟩, ⟨by repeat (first | (with_reducible first | exact HB.out | apply below_alloc | apply pw_below_drewN | apply below_drew1 | refine below_set ?_ GE221.out | refine below_set ?_ GE222.out | refine below_set ?_ GE238.out | refine below_set ?_ GE243.out | refine below_set ?_ GE248.out | refine below_set ?_ GE254.out) | exact HB.out)⟩⟩
        case rest =>
         clear HC110
         try clear c1
         try clear p2
         try clear c3
         try clear c8
         try clear c9
         try clear c10
         try clear c11
         try clear c12
         try clear c13
         try clear c14
         try clear c15
         try clear c30
         try clear c32
         try clear c33
         try clear c83
         try clear c84
         try clear c85
         try clear c86
         try clear c89
         try clear c90
         try clear c91
         try clear c92
         try clear c93
         try clear c95
         try clear c96
         try clear c97
         try clear c98
         try clear c101
         try clear c104
         try clear c107
         try clear c119
         try clear c120
         try clear c121
         try clear c122
         try clear c123
         try clear c126
         try clear c127
         try clear c128
         try clear c129
         try clear c132
         try clear c132b0
         try clear c134
         try clear c135
         try clear c136
         try clear c137
         try clear c138
         try clear c139
         try clear c141
         try clear c142
         try clear c143
         try clear c144
         try clear c147
         try clear c148
         try clear c149
         try clear c150
         try clear c151
         try clear c153
         try clear c154
         try clear c155
         try clear c156
         try clear hcz124_0
         try clear hcz124_1
         try clear hcz130_0
         try clear hcz130_1
         try clear hcz140_0
         try clear hcz140_1
         try clear hcz145_0
         try clear hcz145_1
         try clear hcz152_0
         try clear hcz152_1
         try clear hcz157_0
         try clear hcz157_1
         try clear hcz45_0
         try clear hcz45_1
         try clear hcz51_0
         try clear hcz51_1
         try clear hcz54_0
         try clear hcz54_1
         try clear hcz61_0
         try clear hcz61_1
         try clear hcz64_0
         try clear hcz64_1
         try clear hcz65_0
         try clear hcz65_1
         try clear hcz73_0
         try clear hcz73_1
         try clear hcz82_0
         try clear hcz82_1
         try clear hcz87_0
         try clear hcz87_1
         try clear hcz94_0
         try clear hcz94_1
         try clear hcz99_0
         try clear hcz99_1
         try clear hfz124_0
         try clear hfz124_1
         try clear hfz130_0
         try clear hfz130_1
         try clear hfz140_0
         try clear hfz140_1
         try clear hfz145_0
         try clear hfz145_1
         try clear hfz152_0
         try clear hfz152_1
         try clear hfz157_0
         try clear hfz157_1
         try clear hfz45_0
         try clear hfz45_1
         try clear hfz51_0
         try clear hfz51_1
         try clear hfz54_0
         try clear hfz54_1
         try clear hfz61_0
         try clear hfz61_1
         try clear hfz64_0
         try clear hfz64_1
         try clear hfz65_0
         try clear hfz65_1
         try clear hfz73_0
         try clear hfz73_1
         try clear hfz82_0
         try clear hfz82_1
         try clear hfz87_0
         try clear hfz87_1
         try clear hfz94_0
         try clear hfz94_1
         try clear hfz99_0
         try clear hfz99_1
         obtain ⟨kq, x82_109, rfl, HA, HJ109, HO_239001, HO_244001, HO_249001, HO_255001, BK221, BK222, BK238, BK243, BK248, BK254, HB⟩ := hcut
         have hl244001_109 := (Kd.R_reads' HO_244001.out).1
         rw [hl244001_109] at HO_244001
         (try simp only [hl244001_109])
         (try simp only [hl244001_109] at BK221)
         (try simp only [hl244001_109] at BK222)
         (try simp only [hl244001_109] at BK238)
         (try simp only [hl244001_109] at BK243)
         (try simp only [hl244001_109] at BK248)
         (try simp only [hl244001_109] at BK254)
         (try simp only [hl244001_109] at HO_239001)
         (try simp only [hl244001_109] at HO_249001)
         (try simp only [hl244001_109] at HO_255001)
         have hl249001_109 := (Kd.R_reads' HO_249001.out).1
         rw [hl249001_109] at HO_249001
         (try simp only [hl249001_109])
         (try simp only [hl249001_109] at BK221)
         (try simp only [hl249001_109] at BK222)
         (try simp only [hl249001_109] at BK238)
         (try simp only [hl249001_109] at BK243)
         (try simp only [hl249001_109] at BK248)
         (try simp only [hl249001_109] at BK254)
         (try simp only [hl249001_109] at HO_239001)
         (try simp only [hl249001_109] at HO_244001)
         (try simp only [hl249001_109] at HO_255001)
         cases kq with
         | zero => exact absurd HA.out (by simp [laws_FnExactJoinPrograms.j1])
         | succ kj109 =>
          have H := HA.out
          clear HA
          simp only [laws_FnExactJoinPrograms.j1] at H
          by_cases c159 : x82_109 = true
          ·subst c159
           have H1 : (some false) = some r := by rw [if_pos rfl] at H; exact H
           clear H
           have H := H1
           clear H1
           obtain rfl := Option.some.inj H
           go_wp2
           go_ret
           exact ⟨by first | rfl | (simp [errW_none, errW_some] <;> rfl) | (simp [*, errW_none, errW_some] <;> rfl), by repeat (first | (with_reducible first | exact HB.out | apply below_alloc | apply pw_below_drewN | apply below_drew1 | refine below_set ?_ GE221.out | refine below_set ?_ GE222.out | refine below_set ?_ GE238.out | refine below_set ?_ GE243.out | refine below_set ?_ GE248.out | refine below_set ?_ GE254.out) | exact HB.out)⟩
          ·replace c159 := Bool.eq_false_iff.mpr c159
           subst c159
           have H1 : ((laws_markProgram.f kj109 t249 t250 1).bind fun bt271 => ((laws_heldProgram.f kj109 t249 bt271.2 1).bind fun t273 => (if t273 < 0 then (some false) else (if t273 = bt271.1 then ((laws_toProgram.f kj109 a0_0 l0_1).bind fun bt274 => ((laws_toProgram.f kj109 a1_0 l1_1).bind fun bt278 => ((impl_JoinPrograms.f kj109 bt274.1 bt274.2 bt278.1 bt278.2).bind fun bt282 => ((laws_eqProgram.f kj109 bt282.1 bt282.2.1 t233 t234).bind fun t288 => (if t288 = true then (laws_FnExactJoinPrograms.j2 kj109 bt271.1 (bt282.2.2 != t237) t249 bt271.2) else (laws_FnExactJoinPrograms.j2 kj109 bt271.1 true t249 bt271.2)))))) else (some false))))) = some r := by rw [if_neg (show ¬ (false = true) by decide)] at H; exact H
           clear H
           have H := H1
           clear H1
           replace H := Option.bind_eq_some_iff.mp H
           obtain ⟨⟨t271, t272⟩, A1600, H⟩ := H
           replace H : ((laws_heldProgram.f kj109 t249 t272 1).bind fun t273 => (if t273 < 0 then (some false) else (if t273 = t271 then ((laws_toProgram.f kj109 a0_0 l0_1).bind fun bt274 => ((laws_toProgram.f kj109 a1_0 l1_1).bind fun bt278 => ((impl_JoinPrograms.f kj109 bt274.1 bt274.2 bt278.1 bt278.2).bind fun bt282 => ((laws_eqProgram.f kj109 bt282.1 bt282.2.1 t233 t234).bind fun t288 => (if t288 = true then (laws_FnExactJoinPrograms.j2 kj109 t271 (bt282.2.2 != t237) t249 t272) else (laws_FnExactJoinPrograms.j2 kj109 t271 true t249 t272)))))) else (some false)))) = some r := H
           have A160 := Aside0.mk A1600
           clear A1600
           replace H := Option.bind_eq_some_iff.mp H
           obtain ⟨t273, A1610, H⟩ := H
           replace H : (if t273 < 0 then (some false) else (if t273 = t271 then ((laws_toProgram.f kj109 a0_0 l0_1).bind fun bt274 => ((laws_toProgram.f kj109 a1_0 l1_1).bind fun bt278 => ((impl_JoinPrograms.f kj109 bt274.1 bt274.2 bt278.1 bt278.2).bind fun bt282 => ((laws_eqProgram.f kj109 bt282.1 bt282.2.1 t233 t234).bind fun t288 => (if t288 = true then (laws_FnExactJoinPrograms.j2 kj109 t271 (bt282.2.2 != t237) t249 t272) else (laws_FnExactJoinPrograms.j2 kj109 t271 true t249 t272)))))) else (some false))) = some r := H
           have A161 := Aside0.mk A1610
           clear A1610
           by_cases c162 : t273 < 0
           ·rw [if_pos c162] at H
            have c162b0 : decide (t273 < 0) = true := decide_eq_true c162
            clear c162
            obtain rfl := Option.some.inj H
            have hnb163 := NB254_221.out
            have hnc163 := NB221_254.out
            have hnb164 := NB254_222.out
            have hnc164 := NB222_254.out
            have hnb165 := NB254_238.out
            have hnc165 := NB238_254.out
            have hnb166 := NB254_243.out
            have hnc166 := NB243_254.out
            have hnb167 := NB254_248.out
            have hnc167 := NB248_254.out
            have hcz168_0 : wc.cell? ⟨gb254, 0, none⟩ = some (.int .i16 t249) := (blk_cell BK254.out 0).trans rfl
            have hcz168_1 : wc.cell? ⟨gb254, 1, none⟩ = some (.slice Ao74 t250.length co74) := (blk_cell BK254.out 1).trans rfl
            have hfz168_0 := blk_frozen BK254.out 0
            have hfz168_1 := blk_frozen BK254.out 1
            go_wp2_with (first | ((with_reducible refine gate_callee (f := 33) rfl ?_); refine goesL_ (some 85) rfl rfl Try.func33 (by kernel_rfl) rfl #[.agg #[.int .i16 t249, .slice Ao74 t250.length co74], .int .i64 1] rfl a6_ ?_; (with_reducible refine (laws_markProgram.calls kj109 t249 (fun k_ => some k_ = (.slice Ao74 t250.length co74 : Value).ownBlock) (.slice Ao74 t250.length co74) t250 1 t271 t272 w _ ?side1 ?side2 A160.out).mono ?_); (case side1 => exact a97_); (case side2 => exact Kd.R_tight rfl HO_255001.out); rintro e w169 ⟨rfl, hy0, hb, hkp⟩; refine ⟨_, rfl, ?_⟩; have n0_ := Aside0.mk (Kd.R_mono (ok' := fun k_ => nbk k_ Ao52 t267.length co52 ∧ nbk k_ Ao62 t269.length co62 ∧ nbk k_ Ao74 t250.length co74) (Kd.R_keptB (HO_239001.out) hkp (fun k_ hk_ hs_ => (hk_.2.2) hs_)) (fun k_ hk_ => ⟨hk_.1.1, hk_.1.2.1, hk_.1.2.2⟩)); have n1_ := Aside0.mk (Kd.R_mono (ok' := fun k_ => nbk k_ Ao42 t234.length co42 ∧ nbk k_ Ao62 t269.length co62 ∧ nbk k_ Ao74 t250.length co74) (Kd.R_keptB (HO_244001.out) hkp (fun k_ hk_ hs_ => (hk_.2.2) hs_)) (fun k_ hk_ => ⟨hk_.1.1, hk_.1.2.1, hk_.1.2.2⟩)); have n2_ := Aside0.mk (Kd.R_mono (ok' := fun k_ => nbk k_ Ao42 t234.length co42 ∧ nbk k_ Ao52 t267.length co52 ∧ nbk k_ Ao74 t250.length co74) (Kd.R_keptB (HO_249001.out) hkp (fun k_ hk_ hs_ => (hk_.2.2) hs_)) (fun k_ hk_ => ⟨hk_.1.1, hk_.1.2.1, hk_.1.2.2⟩)); have n3_ := Aside0.mk (Kd.R_reok rfl hy0 (fun k_ e_ => HO_255001.out.1 k_ e_)); have n4_ := Aside0.mk (blk_kept a2_ hkp (fun hs_ => (fun e_ => (Kd.R_ne HO_255001.out BK221.out (by decide)) e_) hs_)); have n5_ := Aside0.mk (blk_kept a3_ hkp (fun hs_ => (fun e_ => (Kd.R_ne HO_255001.out BK222.out (by decide)) e_) hs_)); have n6_ := Aside0.mk (blk_kept a4_ hkp (fun hs_ => (fun e_ => (Kd.R_ne HO_255001.out BK238.out (by decide)) e_) hs_)); have n7_ := Aside0.mk (blk_kept a7_ hkp (fun hs_ => (fun e_ => (Kd.R_ne HO_255001.out BK243.out (by decide)) e_) hs_)); have n8_ := Aside0.mk (blk_kept a8_ hkp (fun hs_ => (fun e_ => (Kd.R_ne HO_255001.out BK248.out (by decide)) e_) hs_)); have n9_ := Aside0.mk (blk_kept a9_ hkp (fun hs_ => (fun e_ => (Kd.R_ne HO_255001.out BK254.out (by decide)) e_) hs_)); have n10_ := Aside0.mk (hb); clear HO_239001; clear HO_244001; clear HO_249001; clear HO_255001; clear BK221; clear BK222; clear BK238; clear BK243; clear BK248; clear BK254; clear HB; have HO_239001 := n0_; have HO_244001 := n1_; have HO_249001 := n2_; have HO_255001 := n3_; have BK221 := n4_; have BK222 := n5_; have BK238 := n6_; have BK243 := n7_; have BK248 := n8_; have BK254 := n9_; have HB := n10_; clear n0_ n1_ n2_ n3_ n4_ n5_ n6_ n7_ n8_ n9_ n10_; (try clear hb); (try clear hkp); (try clear hy0); have hcz170_0 : w169.cell? ⟨gb254, 0, none⟩ = some (.int .i16 t249) := (blk_cell BK254.out 0).trans rfl; have hcz170_1 : w169.cell? ⟨gb254, 1, none⟩ = some (.slice Ao74 t250.length co74) := (blk_cell BK254.out 1).trans rfl; have hfz170_0 := blk_frozen BK254.out 0; have hfz170_1 := blk_frozen BK254.out 1) | ((with_reducible refine gate_callee (f := 34) rfl ?_); refine goesL_ (some 88) rfl rfl Try.func34 (by kernel_rfl) rfl #[.agg #[.int .i16 t249, .slice Ao74 t272.length co74], .int .i64 1] rfl a51_ ?_; (with_reducible refine (laws_heldProgram.calls kj109 t249 _ _ t272 1 t273 _ ?side1 ?side2 A161.out).mono ?_); (case side1 => exact a98_); (case side2 => exact a113_); rintro e w171 ⟨rfl, hb⟩; refine ⟨_, rfl, ?_⟩; have n0_ := Aside0.mk (Kd.R_below a11_ hb); have n1_ := Aside0.mk (Kd.R_below a12_ hb); have n2_ := Aside0.mk (Kd.R_below a13_ hb); have n3_ := Aside0.mk (Kd.R_below a14_ hb); have n4_ := Aside0.mk (blk_below (g := gb221) a2_ hb); have n5_ := Aside0.mk (blk_below (g := gb222) a3_ hb); have n6_ := Aside0.mk (blk_below (g := gb238) a4_ hb); have n7_ := Aside0.mk (blk_below (g := gb243) a7_ hb); have n8_ := Aside0.mk (blk_below (g := gb248) a8_ hb); have n9_ := Aside0.mk (blk_below (g := gb254) a9_ hb); have n10_ := Aside0.mk (below_step a1_ hb); clear HO_239001; clear HO_244001; clear HO_249001; clear HO_255001; clear BK221; clear BK222; clear BK238; clear BK243; clear BK248; clear BK254; clear HB; have HO_239001 := n0_; have HO_244001 := n1_; have HO_249001 := n2_; have HO_255001 := n3_; have BK221 := n4_; have BK222 := n5_; have BK238 := n6_; have BK243 := n7_; have BK248 := n8_; have BK254 := n9_; have HB := n10_; clear n0_ n1_ n2_ n3_ n4_ n5_ n6_ n7_ n8_ n9_ n10_; (try clear hb); (try clear hb2); (try clear hk); (try clear hi)))
            go_ret
            exact ⟨by first | rfl | (simp [errW_none, errW_some] <;> rfl) | (simp [*, errW_none, errW_some] <;> rfl), by repeat (first | (with_reducible first | exact HB.out | apply below_alloc | apply pw_below_drewN | apply below_drew1 | refine below_set ?_ GE221.out | refine below_set ?_ GE222.out | refine below_set ?_ GE238.out | refine below_set ?_ GE243.out | refine below_set ?_ GE248.out | refine below_set ?_ GE254.out) | exact HB.out)⟩
           ·rw [if_neg c162] at H
            have c162b0 : decide (t273 < 0) = false := decide_eq_false c162
            clear c162
            by_cases c172 : t273 = t271
            ·rw [if_pos c172] at H
             have c172b0 : (t273 == t271) = true := beq_iff_eq.mpr c172
             have c172b1 : (t273 != t271) = false := bne_eq_false_iff_eq.mpr c172
             clear c172
             replace H := Option.bind_eq_some_iff.mp H
             obtain ⟨⟨t274, t275⟩, A1730, H⟩ := H
             replace H : ((laws_toProgram.f kj109 a1_0 l1_1).bind fun bt278 => ((impl_JoinPrograms.f kj109 t274 t275 bt278.1 bt278.2).bind fun bt282 => ((laws_eqProgram.f kj109 bt282.1 bt282.2.1 t233 t234).bind fun t288 => (if t288 = true then (laws_FnExactJoinPrograms.j2 kj109 t271 (bt282.2.2 != t237) t249 t272) else (laws_FnExactJoinPrograms.j2 kj109 t271 true t249 t272))))) = some r := H
             have A173 := Aside0.mk A1730
             clear A1730
             replace H := Option.bind_eq_some_iff.mp H
             obtain ⟨⟨t278, t279⟩, A1740, H⟩ := H
             replace H : ((impl_JoinPrograms.f kj109 t274 t275 t278 t279).bind fun bt282 => ((laws_eqProgram.f kj109 bt282.1 bt282.2.1 t233 t234).bind fun t288 => (if t288 = true then (laws_FnExactJoinPrograms.j2 kj109 t271 (bt282.2.2 != t237) t249 t272) else (laws_FnExactJoinPrograms.j2 kj109 t271 true t249 t272)))) = some r := H
             have A174 := Aside0.mk A1740
             clear A1740
             replace H := Option.bind_eq_some_iff.mp H
             obtain ⟨⟨t282, t283, t286⟩, A1750, H⟩ := H
             replace H : ((laws_eqProgram.f kj109 t282 t283 t233 t234).bind fun t288 => (if t288 = true then (laws_FnExactJoinPrograms.j2 kj109 t271 (t286 != t237) t249 t272) else (laws_FnExactJoinPrograms.j2 kj109 t271 true t249 t272))) = some r := H
             have A175 := Aside0.mk A1750
             clear A1750
             have HC176 := Aside0.mk H
             clear H
             have hnb177 := NB254_221.out
             have hnc177 := NB221_254.out
             have hnb178 := NB254_222.out
             have hnc178 := NB222_254.out
             have hnb179 := NB254_238.out
             have hnc179 := NB238_254.out
             have hnb180 := NB254_243.out
             have hnc180 := NB243_254.out
             have hnb181 := NB254_248.out
             have hnc181 := NB248_254.out
             have hcz182_0 : wc.cell? ⟨gb254, 0, none⟩ = some (.int .i16 t249) := (blk_cell BK254.out 0).trans rfl
             have hcz182_1 : wc.cell? ⟨gb254, 1, none⟩ = some (.slice Ao74 t250.length co74) := (blk_cell BK254.out 1).trans rfl
             have hfz182_0 := blk_frozen BK254.out 0
             have hfz182_1 := blk_frozen BK254.out 1
             try go_wp2_with (first | ((with_reducible refine gate_callee (f := 33) rfl ?_); refine goesL_ (some 85) rfl rfl Try.func33 (by kernel_rfl) rfl #[.agg #[.int .i16 t249, .slice Ao74 t250.length co74], .int .i64 1] rfl a6_ ?_; (with_reducible refine (laws_markProgram.calls kj109 t249 (fun k_ => some k_ = (.slice Ao74 t250.length co74 : Value).ownBlock) (.slice Ao74 t250.length co74) t250 1 t271 t272 w _ ?side1 ?side2 A160.out).mono ?_); (case side1 => exact a97_); (case side2 => exact Kd.R_tight rfl HO_255001.out); rintro e w183 ⟨rfl, hy0, hb, hkp⟩; refine ⟨_, rfl, ?_⟩; have n0_ := Aside0.mk (Kd.R_mono (ok' := fun k_ => nbk k_ Ao52 t267.length co52 ∧ nbk k_ Ao62 t269.length co62 ∧ nbk k_ Ao74 t250.length co74) (Kd.R_keptB (HO_239001.out) hkp (fun k_ hk_ hs_ => (hk_.2.2) hs_)) (fun k_ hk_ => ⟨hk_.1.1, hk_.1.2.1, hk_.1.2.2⟩)); have n1_ := Aside0.mk (Kd.R_mono (ok' := fun k_ => nbk k_ Ao42 t234.length co42 ∧ nbk k_ Ao62 t269.length co62 ∧ nbk k_ Ao74 t250.length co74) (Kd.R_keptB (HO_244001.out) hkp (fun k_ hk_ hs_ => (hk_.2.2) hs_)) (fun k_ hk_ => ⟨hk_.1.1, hk_.1.2.1, hk_.1.2.2⟩)); have n2_ := Aside0.mk (Kd.R_mono (ok' := fun k_ => nbk k_ Ao42 t234.length co42 ∧ nbk k_ Ao52 t267.length co52 ∧ nbk k_ Ao74 t250.length co74) (Kd.R_keptB (HO_249001.out) hkp (fun k_ hk_ hs_ => (hk_.2.2) hs_)) (fun k_ hk_ => ⟨hk_.1.1, hk_.1.2.1, hk_.1.2.2⟩)); have n3_ := Aside0.mk (Kd.R_reok rfl hy0 (fun k_ e_ => HO_255001.out.1 k_ e_)); have n4_ := Aside0.mk (blk_kept a2_ hkp (fun hs_ => (fun e_ => (Kd.R_ne HO_255001.out BK221.out (by decide)) e_) hs_)); have n5_ := Aside0.mk (blk_kept a3_ hkp (fun hs_ => (fun e_ => (Kd.R_ne HO_255001.out BK222.out (by decide)) e_) hs_)); have n6_ := Aside0.mk (blk_kept a4_ hkp (fun hs_ => (fun e_ => (Kd.R_ne HO_255001.out BK238.out (by decide)) e_) hs_)); have n7_ := Aside0.mk (blk_kept a7_ hkp (fun hs_ => (fun e_ => (Kd.R_ne HO_255001.out BK243.out (by decide)) e_) hs_)); have n8_ := Aside0.mk (blk_kept a8_ hkp (fun hs_ => (fun e_ => (Kd.R_ne HO_255001.out BK248.out (by decide)) e_) hs_)); have n9_ := Aside0.mk (blk_kept a9_ hkp (fun hs_ => (fun e_ => (Kd.R_ne HO_255001.out BK254.out (by decide)) e_) hs_)); have n10_ := Aside0.mk (hb); clear HO_239001; clear HO_244001; clear HO_249001; clear HO_255001; clear BK221; clear BK222; clear BK238; clear BK243; clear BK248; clear BK254; clear HB; have HO_239001 := n0_; have HO_244001 := n1_; have HO_249001 := n2_; have HO_255001 := n3_; have BK221 := n4_; have BK222 := n5_; have BK238 := n6_; have BK243 := n7_; have BK248 := n8_; have BK254 := n9_; have HB := n10_; clear n0_ n1_ n2_ n3_ n4_ n5_ n6_ n7_ n8_ n9_ n10_; (try clear hb); (try clear hkp); (try clear hy0); have hcz184_0 : w183.cell? ⟨gb254, 0, none⟩ = some (.int .i16 t249) := (blk_cell BK254.out 0).trans rfl; have hcz184_1 : w183.cell? ⟨gb254, 1, none⟩ = some (.slice Ao74 t250.length co74) := (blk_cell BK254.out 1).trans rfl; have hfz184_0 := blk_frozen BK254.out 0; have hfz184_1 := blk_frozen BK254.out 1) | ((with_reducible refine gate_callee (f := 34) rfl ?_); refine goesL_ (some 88) rfl rfl Try.func34 (by kernel_rfl) rfl #[.agg #[.int .i16 t249, .slice Ao74 t272.length co74], .int .i64 1] rfl a51_ ?_; (with_reducible refine (laws_heldProgram.calls kj109 t249 _ _ t272 1 t273 _ ?side1 ?side2 A161.out).mono ?_); (case side1 => exact a98_); (case side2 => exact a113_); rintro e w185 ⟨rfl, hb⟩; refine ⟨_, rfl, ?_⟩; have n0_ := Aside0.mk (Kd.R_below a11_ hb); have n1_ := Aside0.mk (Kd.R_below a12_ hb); have n2_ := Aside0.mk (Kd.R_below a13_ hb); have n3_ := Aside0.mk (Kd.R_below a14_ hb); have n4_ := Aside0.mk (blk_below (g := gb221) a2_ hb); have n5_ := Aside0.mk (blk_below (g := gb222) a3_ hb); have n6_ := Aside0.mk (blk_below (g := gb238) a4_ hb); have n7_ := Aside0.mk (blk_below (g := gb243) a7_ hb); have n8_ := Aside0.mk (blk_below (g := gb248) a8_ hb); have n9_ := Aside0.mk (blk_below (g := gb254) a9_ hb); have n10_ := Aside0.mk (below_step a1_ hb); clear HO_239001; clear HO_244001; clear HO_249001; clear HO_255001; clear BK221; clear BK222; clear BK238; clear BK243; clear BK248; clear BK254; clear HB; have HO_239001 := n0_; have HO_244001 := n1_; have HO_249001 := n2_; have HO_255001 := n3_; have BK221 := n4_; have BK222 := n5_; have BK238 := n6_; have BK243 := n7_; have BK248 := n8_; have BK254 := n9_; have HB := n10_; clear n0_ n1_ n2_ n3_ n4_ n5_ n6_ n7_ n8_ n9_ n10_; (try clear hb); (try clear hb2); (try clear hk); (try clear hi)))
             have n0_ := Aside0.mk (Kd.R_drew HO_239001.out)
             have n1_ := Aside0.mk (Kd.R_drew HO_244001.out)
             have n2_ := Aside0.mk (Kd.R_drew HO_249001.out)
             have n3_ := Aside0.mk (Kd.R_drew HO_255001.out)
             have n4_ := Aside0.mk (blk_drew BK221.out)
             have n5_ := Aside0.mk (blk_drew BK222.out)
             have n6_ := Aside0.mk (blk_drew BK238.out)
             have n7_ := Aside0.mk (blk_drew BK243.out)
             have n8_ := Aside0.mk (blk_drew BK248.out)
             have n9_ := Aside0.mk (blk_drew BK254.out)
             have n10_ := Aside0.mk (below_drew1 HB.out)
             clear HO_239001 HO_244001 HO_249001 HO_255001 BK221 BK222 BK238 BK243 BK248 BK254 HB; have HO_239001 := n0_; have HO_244001 := n1_; have HO_249001 := n2_; have HO_255001 := n3_; have BK221 := n4_; have BK222 := n5_; have BK238 := n6_; have BK243 := n7_; have BK248 := n8_; have BK254 := n9_; have HB := n10_; clear n0_ n1_ n2_ n3_ n4_ n5_ n6_ n7_ n8_ n9_ n10_
             refine start_ (n := 11) (S := fun w' => w'.cell? ⟨gb221, 0, none⟩ = some (.int .i16 a0_0) ∧ w'.cell? ⟨gb221, 1, none⟩ = some (.slice A0_1 l0_1.length c0_1) ∧ w'.cell? ⟨gb222, 0, none⟩ = some (.int .i16 a1_0) ∧ w'.cell? ⟨gb222, 1, none⟩ = some (.slice A1_1 l1_1.length c1_1)) (ds := []) #[false, false, false, false, false, false, false, false, false, false, false] (by kernel_rfl) rfl rfl ⟨(blk_cell BK221.out 0).trans rfl, (blk_cell BK221.out 1).trans rfl, (blk_cell BK222.out 0).trans rfl, (blk_cell BK222.out 1).trans rfl⟩ (fun hHeld => ?_); refine with_tabW laws_FnExactJoinPrograms.tab31 laws_FnExactJoinPrograms.bits31 (fun HT_ HW_ => ?_)
             generalize w185.drew = w186 at HO_239001 HO_244001 HO_249001 HO_255001 BK221 BK222 BK238 BK243 BK248 BK254 HB hHeld ⊢
             refine take_ (i := 0) (N := some 95) (v := ?_) (a' := ?_) #[true, false, false, false, false, false, false, false, false, false, false] rfl rfl (take_ofW HT_.out HW_.out (by kernel_rfl)) (fun _ _ _ h => h) (Or.inl ⟨by rfl, ?_⟩) hHeld ?_ ?_
             rotate_left
             ·rintro w' ⟨s0, s1, s2, s3⟩
              go_simp; with_reducible rfl
             rotate_left
             ·simp only [Act.put, List.setIfInBounds_toArray, List.set_cons_zero, List.set_cons_succ, i64_w, i32_w]
              rfl
             refine take_ (i := 2) (N := some 97) (v := ?_) (a' := ?_) #[true, false, true, false, false, false, false, false, false, false, false] rfl rfl (take_ofW HT_.out HW_.out (by kernel_rfl)) (fun _ _ _ h => h) (Or.inl ⟨by rfl, ?_⟩) hHeld ?_ ?_
             rotate_left
             ·rintro w' ⟨s0, s1, s2, s3⟩
              go_simp; with_reducible rfl
             rotate_left
             ·simp only [Act.put, List.setIfInBounds_toArray, List.set_cons_zero, List.set_cons_succ, i64_w, i32_w]
              rfl
             refine join_ (σ := Value × Value × Value × Nat) 2 #[true, true, true, true, true, true, true, true, true, false, false] (fun s_ => [(96, .agg #[.int .i16 t274, s_.1]), (98, .agg #[.int .i16 t278, s_.2.1]), (99, .tuple #[.agg #[.int .i16 t282, s_.2.2.1], .int .i64 t286]), (15, .pointer (some ⟨s_.2.2.2, 0, none⟩)), (94, .tuple #[.agg #[.int .i16 t282, s_.2.2.1], .int .i64 t286]), (100, .agg #[.int .i16 t282, s_.2.2.1]), (101, .int .i64 t286)]) (fun s_ w' => (w'.cell? ⟨gb221, 0, none⟩ = some (.int .i16 a0_0) ∧ w'.cell? ⟨gb221, 1, none⟩ = some (.slice A0_1 l0_1.length c0_1) ∧ w'.cell? ⟨gb222, 0, none⟩ = some (.int .i16 a1_0) ∧ w'.cell? ⟨gb222, 1, none⟩ = some (.slice A1_1 l1_1.length c1_1)) ∧ (Kd.R k125 125 w' w.heap.size (fun k_ => some k_ ≠ (s_.2.1 : Value).ownBlock ∧ some k_ ≠ (s_.2.2.1 : Value).ownBlock ∧ nbk k_ Ao42 t234.length co42 ∧ nbk k_ Ao52 t267.length co52 ∧ nbk k_ Ao62 t269.length co62 ∧ nbk k_ Ao74 t250.length co74) s_.1 t275) ∧ (Kd.R k125 125 w' w.heap.size (fun k_ => some k_ ≠ (s_.1 : Value).ownBlock ∧ some k_ ≠ (s_.2.2.1 : Value).ownBlock ∧ nbk k_ Ao42 t234.length co42 ∧ nbk k_ Ao52 t267.length co52 ∧ nbk k_ Ao62 t269.length co62 ∧ nbk k_ Ao74 t250.length co74) s_.2.1 t279) ∧ (Kd.R k125 125 w' w.heap.size (fun k_ => some k_ ≠ (s_.1 : Value).ownBlock ∧ some k_ ≠ (s_.2.1 : Value).ownBlock ∧ nbk k_ Ao42 t234.length co42 ∧ nbk k_ Ao52 t267.length co52 ∧ nbk k_ Ao62 t269.length co62 ∧ nbk k_ Ao74 t250.length co74) s_.2.2.1 t283) ∧ (Kd.R k125 125 w' w.heap.size (fun k_ => some k_ ≠ (s_.1 : Value).ownBlock ∧ some k_ ≠ (s_.2.1 : Value).ownBlock ∧ some k_ ≠ (s_.2.2.1 : Value).ownBlock ∧ nbk k_ Ao52 t267.length co52 ∧ nbk k_ Ao62 t269.length co62 ∧ nbk k_ Ao74 t250.length co74) (.slice Ao42 t234.length co42) t234) ∧ (Kd.R k125 125 w' w.heap.size (fun k_ => some k_ ≠ (s_.1 : Value).ownBlock ∧ some k_ ≠ (s_.2.1 : Value).ownBlock ∧ some k_ ≠ (s_.2.2.1 : Value).ownBlock ∧ nbk k_ Ao42 t234.length co42 ∧ nbk k_ Ao62 t269.length co62 ∧ nbk k_ Ao74 t250.length co74) (.slice Ao52 t267.length co52) t267) ∧ (Kd.R k125 125 w' w.heap.size (fun k_ => some k_ ≠ (s_.1 : Value).ownBlock ∧ some k_ ≠ (s_.2.1 : Value).ownBlock ∧ some k_ ≠ (s_.2.2.1 : Value).ownBlock ∧ nbk k_ Ao42 t234.length co42 ∧ nbk k_ Ao52 t267.length co52 ∧ nbk k_ Ao74 t250.length co74) (.slice Ao62 t269.length co62) t269) ∧ (Kd.R k125 125 w' w.heap.size (fun k_ => some k_ ≠ (s_.1 : Value).ownBlock ∧ some k_ ≠ (s_.2.1 : Value).ownBlock ∧ some k_ ≠ (s_.2.2.1 : Value).ownBlock ∧ nbk k_ Ao42 t234.length co42 ∧ nbk k_ Ao52 t267.length co52 ∧ nbk k_ Ao62 t269.length co62) (.slice Ao74 t250.length co74) t272) ∧ (w'.heap[gb221]? = some (.cells #[.int .i16 a0_0, .slice A0_1 l0_1.length c0_1] 41 (0, 0))) ∧ (w'.heap[gb222]? = some (.cells #[.int .i16 a1_0, .slice A1_1 l1_1.length c1_1] 41 (0, 0))) ∧ (w'.heap[gb238]? = some (.cells #[.int .i16 t233, .slice Ao42 t234.length co42] 45 (0, 0))) ∧ (w'.heap[gb243]? = some (.cells #[.int .i16 t239, .slice Ao52 t267.length co52] 45 (0, 0))) ∧ (w'.heap[gb248]? = some (.cells #[.int .i16 t244, .slice Ao62 t269.length co62] 45 (0, 0))) ∧ (w'.heap[gb254]? = some (.cells #[.int .i16 t249, .slice Ao74 t250.length co74] 45 (0, 0))) ∧ (w'.heap[s_.2.2.2]? = some (.cells #[.int .i16 0, .slice none 0 0] 45 (0, 0))) ∧ (w.heap.size ≤ s_.2.2.2) ∧ (w.heap.size ≤ s_.2.2.2) ∧ (gb221 ≠ s_.2.2.2) ∧ (s_.2.2.2 ≠ gb221) ∧ (gb222 ≠ s_.2.2.2) ∧ (s_.2.2.2 ≠ gb222) ∧ (gb238 ≠ s_.2.2.2) ∧ (s_.2.2.2 ≠ gb238) ∧ (gb243 ≠ s_.2.2.2) ∧ (s_.2.2.2 ≠ gb243) ∧ (gb248 ≠ s_.2.2.2) ∧ (s_.2.2.2 ≠ gb248) ∧ (gb254 ≠ s_.2.2.2) ∧ (s_.2.2.2 ≠ gb254) ∧ (Below w.heap.size w w')) ?_ ?_
             rotate_left
             ·intro hCont
              refine two_ (i := 1) (j := 8) (Ni := some 96) (Nj := some 15) #[true, true, true, false, false, false, false, false, false, false, false] #[true, false, true, false, false, false, false, false, true, false, false] rfl rfl rfl rfl (two_of HT_.out (by kernel_rfl)) (by decide) (by decide) (fun K hK => ?_) (fun K hK => ?_)
              ·refine goes_ Try.func30 (by kernel_rfl) rfl #[.agg #[.int .i16 a0_0, .slice A0_1 l0_1.length c0_1]] (by rfl) rfl rfl a6_ ?_
               with_reducible refine (laws_toProgram.calls kj109 a0_0 _ _ l0_1 t274 t275 _ ?side1 ?side2 A173.out).mono ?_
               (case side1 => exact a95_); (case side2 => exact HC0_1.out)
               rintro e w187 ⟨v276, rfl, ho0, hb⟩
               refine ⟨_, rfl, ?_⟩
               have n0_ := Aside0.mk (Kd.R_elder' a11_ (Kd.R_base ho0) hb)
               have n1_ := Aside0.mk (Kd.R_elder' a12_ (Kd.R_base ho0) hb)
               have n2_ := Aside0.mk (Kd.R_elder' a13_ (Kd.R_base ho0) hb)
               have n3_ := Aside0.mk (Kd.R_elder' a14_ (Kd.R_base ho0) hb)
               have n4_ := Aside0.mk (Kd.R_lower (Kd.R_new' (Kd.R_new' (Kd.R_new' (Kd.R_new' ho0 (Kd.R_lt a11_)) (Kd.R_lt a12_)) (Kd.R_lt a13_)) (Kd.R_lt a14_)) (below_size a1_))
               have n5_ := Aside0.mk (blk_below (g := gb221) a2_ hb)
               have n6_ := Aside0.mk (blk_below (g := gb222) a3_ hb)
               have n7_ := Aside0.mk (blk_below (g := gb238) a4_ hb)
               have n8_ := Aside0.mk (blk_below (g := gb243) a7_ hb)
               have n9_ := Aside0.mk (blk_below (g := gb248) a8_ hb)
               have n10_ := Aside0.mk (blk_below (g := gb254) a9_ hb)
               have n11_ := Aside0.mk (below_step a1_ hb)
               clear HO_239001 HO_244001 HO_249001 HO_255001 BK221 BK222 BK238 BK243 BK248 BK254 HB; have HO_239001 := n0_; have HO_244001 := n1_; have HO_249001 := n2_; have HO_255001 := n3_; have HO277 := n4_; have BK221 := n5_; have BK222 := n6_; have BK238 := n7_; have BK243 := n8_; have BK248 := n9_; have BK254 := n10_; have HB := n11_; clear n0_ n1_ n2_ n3_ n4_ n5_ n6_ n7_ n8_ n9_ n10_ n11_; (try clear hb); (try clear hb2); (try clear hk); (try clear hi); (try clear ho0)
               refine hK.out _ _ ⟨(blk_cell BK221.out 0).trans rfl, (blk_cell BK221.out 1).trans rfl, (blk_cell BK222.out 0).trans rfl, (blk_cell BK222.out 1).trans rfl⟩ (fun hHeld => ?_)
               clear hK K; refine norm_ (a' := ?_) ?_ ?_; rotate_left
               ·show Act.put _ (some 96) _ = _
                simp only [Act.put, List.setIfInBounds_toArray, List.set_cons_zero, List.set_cons_succ, i64_w, i32_w]
                rfl
               refine two_ (i := 3) (j := 8) (Ni := some 98) (Nj := some 15) #[true, true, true, true, false, false, false, false, false, false, false] #[true, true, true, false, false, false, false, false, true, false, false] rfl rfl rfl rfl (two_of HT_.out (by kernel_rfl)) (by decide) (by decide) (fun K hK => ?_) (fun K hK => ?_)
               ·refine goes_ Try.func30 (by kernel_rfl) rfl #[.agg #[.int .i16 a1_0, .slice A1_1 l1_1.length c1_1]] (by rfl) rfl rfl a6_ ?_
                with_reducible refine (laws_toProgram.calls kj109 a1_0 _ _ l1_1 t278 t279 _ ?side1 ?side2 A174.out).mono ?_
                (case side1 => exact a96_); (case side2 => exact HC1_1.out)
                rintro e w188 ⟨v280, rfl, ho0, hb⟩
                refine ⟨_, rfl, ?_⟩
                have n0_ := Aside0.mk (Kd.R_elder' a11_ (Kd.R_base ho0) hb)
                have n1_ := Aside0.mk (Kd.R_elder' a12_ (Kd.R_base ho0) hb)
                have n2_ := Aside0.mk (Kd.R_elder' a13_ (Kd.R_base ho0) hb)
                have n3_ := Aside0.mk (Kd.R_elder' a14_ (Kd.R_base ho0) hb)
                have n4_ := Aside0.mk (Kd.R_elder' a17_ (Kd.R_base ho0) hb)
                have n5_ := Aside0.mk (Kd.R_lower (Kd.R_new' (Kd.R_new' (Kd.R_new' (Kd.R_new' (Kd.R_new' ho0 (Kd.R_lt a11_)) (Kd.R_lt a12_)) (Kd.R_lt a13_)) (Kd.R_lt a14_)) (Kd.R_lt a17_)) (below_size a1_))
                have n6_ := Aside0.mk (blk_below (g := gb221) a2_ hb)
                have n7_ := Aside0.mk (blk_below (g := gb222) a3_ hb)
                have n8_ := Aside0.mk (blk_below (g := gb238) a4_ hb)
                have n9_ := Aside0.mk (blk_below (g := gb243) a7_ hb)
                have n10_ := Aside0.mk (blk_below (g := gb248) a8_ hb)
                have n11_ := Aside0.mk (blk_below (g := gb254) a9_ hb)
                have n12_ := Aside0.mk (below_step a1_ hb)
                clear HO_239001 HO_244001 HO_249001 HO_255001 HO277 BK221 BK222 BK238 BK243 BK248 BK254 HB; have HO_239001 := n0_; have HO_244001 := n1_; have HO_249001 := n2_; have HO_255001 := n3_; have HO277 := n4_; have HO281 := n5_; have BK221 := n6_; have BK222 := n7_; have BK238 := n8_; have BK243 := n9_; have BK248 := n10_; have BK254 := n11_; have HB := n12_; clear n0_ n1_ n2_ n3_ n4_ n5_ n6_ n7_ n8_ n9_ n10_ n11_ n12_; (try clear hb); (try clear hb2); (try clear hk); (try clear hi); (try clear ho0)
                obtain ⟨Ao189, co189, eo189⟩ := Kd.R_slice HO277.out
                (first | subst eo189 | (injection eo189 with f1_ f2_ f3_; have f4_ := f1_.symm; have f5_ := f3_.symm; clear f1_ f2_ f3_; subst f4_; subst f5_))
                obtain ⟨Ao190, co190, eo190⟩ := Kd.R_slice HO281.out
                (first | subst eo190 | (injection eo190 with f1_ f2_ f3_; have f4_ := f1_.symm; have f5_ := f3_.symm; clear f1_ f2_ f3_; subst f4_; subst f5_))
                refine hK.out _ _ ⟨(blk_cell BK221.out 0).trans rfl, (blk_cell BK221.out 1).trans rfl, (blk_cell BK222.out 0).trans rfl, (blk_cell BK222.out 1).trans rfl⟩ (fun hHeld => ?_)
                clear hK K; refine norm_ (a' := ?_) ?_ ?_; rotate_left
                ·show Act.put _ (some 98) _ = _
                 simp only [Act.put, List.setIfInBounds_toArray, List.set_cons_zero, List.set_cons_succ, i64_w, i32_w]
                 rfl
                refine two_ (i := 4) (j := 8) (Ni := some 99) (Nj := some 15) #[true, true, true, true, true, false, false, false, false, false, false] #[true, true, true, true, false, false, false, false, true, false, false] rfl rfl rfl rfl (two_of HT_.out (by kernel_rfl)) (by decide) (by decide) (fun K hK => ?_) (fun K hK => ?_)
                ·refine goes_ Try.func36 (by kernel_rfl) rfl #[.agg #[.int .i16 t274, .slice Ao189 t275.length co189], .agg #[.int .i16 t278, .slice Ao190 t279.length co190]] (by rfl) rfl rfl a6_ ?_
                 with_reducible refine (impl_JoinPrograms.calls kj109 t274 (fun k_ => some k_ = (.slice Ao189 t275.length co189 : Value).ownBlock) _ _ t275 t278 (fun k_ => some k_ = (.slice Ao190 t279.length co190 : Value).ownBlock) _ _ t279 t282 t283 t286 _ ?side1 ?side2 A175.out).mono ?_
                 (case side1 => exact Kd.R_V (Kd.R_tight rfl (Kd.R_types (Kd.R_types (Kd.R_types (Kd.R_types (Kd.R_types (Kd.R_types (HO277.out) BK221.out (by decide)) BK222.out (by decide)) BK238.out (by decide)) BK243.out (by decide)) BK248.out (by decide)) BK254.out (by decide))))
                 (case side2 => exact Kd.R_V (Kd.R_tight rfl (Kd.R_types (Kd.R_types (Kd.R_types (Kd.R_types (Kd.R_types (Kd.R_types (HO281.out) BK221.out (by decide)) BK222.out (by decide)) BK238.out (by decide)) BK243.out (by decide)) BK248.out (by decide)) BK254.out (by decide))))
                 rintro e w191 ⟨v284, rfl, ho0, hb⟩
                 refine ⟨_, rfl, ?_⟩
                 have n0_ := Aside0.mk (Kd.R_elder' a11_ (Kd.R_base ho0) hb)
                 have n1_ := Aside0.mk (Kd.R_elder' a12_ (Kd.R_base ho0) hb)
                 have n2_ := Aside0.mk (Kd.R_elder' a13_ (Kd.R_base ho0) hb)
                 have n3_ := Aside0.mk (Kd.R_elder' a14_ (Kd.R_base ho0) hb)
                 have n4_ := Aside0.mk (Kd.R_elder' a17_ (Kd.R_base ho0) hb)
                 have n5_ := Aside0.mk (Kd.R_elder' a29_ (Kd.R_base ho0) hb)
                 have n6_ := Aside0.mk (Kd.R_lower (Kd.R_new' (Kd.R_new' (Kd.R_new' (Kd.R_new' (Kd.R_new' (Kd.R_new' (Kd.R_mono (ok' := fun k_ => True) ho0 (fun _ hk_ => trivial)) (Kd.R_lt a11_)) (Kd.R_lt a12_)) (Kd.R_lt a13_)) (Kd.R_lt a14_)) (Kd.R_lt a17_)) (Kd.R_lt a29_)) (below_size a1_))
                 have n7_ := Aside0.mk (blk_below (g := gb221) a2_ hb)
                 have n8_ := Aside0.mk (blk_below (g := gb222) a3_ hb)
                 have n9_ := Aside0.mk (blk_below (g := gb238) a4_ hb)
                 have n10_ := Aside0.mk (blk_below (g := gb243) a7_ hb)
                 have n11_ := Aside0.mk (blk_below (g := gb248) a8_ hb)
                 have n12_ := Aside0.mk (blk_below (g := gb254) a9_ hb)
                 have n13_ := Aside0.mk (below_step a1_ hb)
                 clear HO_239001 HO_244001 HO_249001 HO_255001 HO277 HO281 BK221 BK222 BK238 BK243 BK248 BK254 HB; have HO_239001 := n0_; have HO_244001 := n1_; have HO_249001 := n2_; have HO_255001 := n3_; have HO277 := n4_; have HO281 := n5_; have HO285 := n6_; have BK221 := n7_; have BK222 := n8_; have BK238 := n9_; have BK243 := n10_; have BK248 := n11_; have BK254 := n12_; have HB := n13_; clear n0_ n1_ n2_ n3_ n4_ n5_ n6_ n7_ n8_ n9_ n10_ n11_ n12_ n13_; (try clear hb); (try clear hb2); (try clear hk); (try clear hi); (try clear ho0)
                 refine hK.out _ _ ⟨(blk_cell BK221.out 0).trans rfl, (blk_cell BK221.out 1).trans rfl, (blk_cell BK222.out 0).trans rfl, (blk_cell BK222.out 1).trans rfl⟩ (fun hHeld => ?_)
                 clear hK K; refine norm_ (a' := ?_) ?_ ?_; rotate_left
                 ·show Act.put _ (some 99) _ = _
                  simp only [Act.put, List.setIfInBounds_toArray, List.set_cons_zero, List.set_cons_succ, i64_w, i32_w]
                  rfl
                 refine pure_ (i := 5) (N := some 94) (v := ?_) (a' := ?_) #[true, true, true, true, true, true, false, false, false, false, false] rfl rfl (any_of HT_.out (by kernel_rfl)) (fun _ _ _ h => h) (Or.inl ⟨by rfl, ?_⟩) ?_ ?_
                 rotate_left
                 ·intro w'
                  go_simp; with_reducible rfl
                 rotate_left
                 ·simp only [Act.put, List.setIfInBounds_toArray, List.set_cons_zero, List.set_cons_succ, i64_w, i32_w]
                  rfl
                 refine pure_ (i := 6) (N := some 100) (v := ?_) (a' := ?_) #[true, true, true, true, true, true, true, false, false, false, false] rfl rfl (any_of HT_.out (by kernel_rfl)) (fun _ _ _ h => h) (Or.inl ⟨by rfl, ?_⟩) ?_ ?_
                 rotate_left
                 ·intro w'
                  go_simp; with_reducible rfl
                 rotate_left
                 ·simp only [Act.put, List.setIfInBounds_toArray, List.set_cons_zero, List.set_cons_succ, i64_w, i32_w]
                  rfl
                 refine pure_ (i := 7) (N := some 101) (v := ?_) (a' := ?_) #[true, true, true, true, true, true, true, true, false, false, false] rfl rfl (any_of HT_.out (by kernel_rfl)) (fun _ _ _ h => h) (Or.inl ⟨by rfl, ?_⟩) ?_ ?_
                 rotate_left
                 ·intro w'
                  go_simp; with_reducible rfl
                 rotate_left
                 ·simp only [Act.put, List.setIfInBounds_toArray, List.set_cons_zero, List.set_cons_succ, i64_w, i32_w]
                  rfl
                 refine one_ (i := 8) (N := some 15) #[true, true, true, true, true, true, true, true, true, false, false] rfl rfl (one_of HT_.out (by kernel_rfl)) (by decide) (fun K hK => ?_)
                 refine box_step ?hg (N := 15) ?hd (cs := #[.int .i16 0, .slice none 0 0]) (t := 45) ?hr ?_; (case hd => rfl); (case hg => rfl); (case hr => exact a101_)
                 intro gb287 hg w192 hbox hb
                 have n0_ := Aside0.mk (Kd.R_below a11_ hb)
                 have n1_ := Aside0.mk (Kd.R_below a12_ hb)
                 have n2_ := Aside0.mk (Kd.R_below a13_ hb)
                 have n3_ := Aside0.mk (Kd.R_below a14_ hb)
                 have n4_ := Aside0.mk (Kd.R_below a17_ hb)
                 have n5_ := Aside0.mk (Kd.R_below a29_ hb)
                 have n6_ := Aside0.mk (Kd.R_below (by (with_reducible repeat (first | apply Kd.R_alloc | apply Kd.R_drewN | apply Kd.R_drew)); exact HO285.out) hb)
                 have n7_ := Aside0.mk (blk_below (g := gb221) a2_ hb)
                 have n8_ := Aside0.mk (blk_below (g := gb222) a3_ hb)
                 have n9_ := Aside0.mk (blk_below (g := gb238) a4_ hb)
                 have n10_ := Aside0.mk (blk_below (g := gb243) a7_ hb)
                 have n11_ := Aside0.mk (blk_below (g := gb248) a8_ hb)
                 have n12_ := Aside0.mk (blk_below (g := gb254) a9_ hb)
                 have n13_ := Aside0.mk (below_step a1_ hb)
                 have n14_ := Aside0.mk (hbox)
                 have n15_ := Aside0.mk ((a90_ : w.heap.size ≤ gb287))
                 have n16_ := Aside0.mk ((a90_ : w.heap.size ≤ gb287))
                 have n17_ := Aside0.mk ((a77_ : gb221 ≠ gb287))
                 have n18_ := Aside0.mk ((a78_ : gb287 ≠ gb221))
                 have n19_ := Aside0.mk ((a79_ : gb222 ≠ gb287))
                 have n20_ := Aside0.mk ((a80_ : gb287 ≠ gb222))
                 have n21_ := Aside0.mk ((a81_ : gb238 ≠ gb287))
                 have n22_ := Aside0.mk ((a82_ : gb287 ≠ gb238))
                 have n23_ := Aside0.mk ((a83_ : gb243 ≠ gb287))
                 have n24_ := Aside0.mk ((a84_ : gb287 ≠ gb243))
                 have n25_ := Aside0.mk ((a85_ : gb248 ≠ gb287))
                 have n26_ := Aside0.mk ((a86_ : gb287 ≠ gb248))
                 have n27_ := Aside0.mk ((a87_ : gb254 ≠ gb287))
                 have n28_ := Aside0.mk ((a88_ : gb287 ≠ gb254))
                 clear HO_239001 HO_244001 HO_249001 HO_255001 HO277 HO281 HO285 BK221 BK222 BK238 BK243 BK248 BK254 HB; have HO_239001 := n0_; have HO_244001 := n1_; have HO_249001 := n2_; have HO_255001 := n3_; have HO277 := n4_; have HO281 := n5_; have HO285 := n6_; have BK221 := n7_; have BK222 := n8_; have BK238 := n9_; have BK243 := n10_; have BK248 := n11_; have BK254 := n12_; have HB := n13_; have BK287 := n14_; have GW287 := n15_; have GE287 := n16_; have NB221_287 := n17_; have NB287_221 := n18_; have NB222_287 := n19_; have NB287_222 := n20_; have NB238_287 := n21_; have NB287_238 := n22_; have NB243_287 := n23_; have NB287_243 := n24_; have NB248_287 := n25_; have NB287_248 := n26_; have NB254_287 := n27_; have NB287_254 := n28_; clear n0_ n1_ n2_ n3_ n4_ n5_ n6_ n7_ n8_ n9_ n10_ n11_ n12_ n13_ n14_ n15_ n16_ n17_ n18_ n19_ n20_ n21_ n22_ n23_ n24_ n25_ n26_ n27_ n28_ hb hbox hg
                 refine hK.out _ _ ⟨(blk_cell BK221.out 0).trans rfl, (blk_cell BK221.out 1).trans rfl, (blk_cell BK222.out 0).trans rfl, (blk_cell BK222.out 1).trans rfl⟩ (fun hHeld => ?_)
                 clear hK K; refine norm_ (a' := ?_) ?_ ?_; rotate_left
                 ·show Act.put _ (some 15) _ = _
                  simp only [Act.put, List.setIfInBounds_toArray, List.set_cons_zero, List.set_cons_succ, i64_w, i32_w]
                  rfl
                 exact norm_ a50_ (hCont (.slice Ao189 t275.length co189, .slice Ao190 t279.length co190, v284, gb287) _ ⟨hHeld, a36_, a37_, a38_, a32_, a33_, a34_, a35_, a2_, a3_, a4_, a7_, a8_, a9_, a21_, GW287.out, GE287.out, NB221_287.out, NB287_221.out, NB222_287.out, NB287_222.out, NB238_287.out, NB287_238.out, NB243_287.out, NB287_243.out, NB248_287.out, NB287_248.out, NB254_287.out, NB287_254.out, a5_⟩)
                ·refine box_step ?hg (N := 15) ?hd (cs := #[.int .i16 0, .slice none 0 0]) (t := 45) ?hr ?_; (case hd => rfl); (case hg => rfl); (case hr => exact a101_)
                 intro gb287 hg w189 hbox hb
                 have n0_ := Aside0.mk (Kd.R_below a11_ hb)
                 have n1_ := Aside0.mk (Kd.R_below a12_ hb)
                 have n2_ := Aside0.mk (Kd.R_below a13_ hb)
                 have n3_ := Aside0.mk (Kd.R_below a14_ hb)
                 have n4_ := Aside0.mk (Kd.R_below a17_ hb)
                 have n5_ := Aside0.mk (Kd.R_below a29_ hb)
                 have n6_ := Aside0.mk (blk_below (g := gb221) a2_ hb)
                 have n7_ := Aside0.mk (blk_below (g := gb222) a3_ hb)
                 have n8_ := Aside0.mk (blk_below (g := gb238) a4_ hb)
                 have n9_ := Aside0.mk (blk_below (g := gb243) a7_ hb)
                 have n10_ := Aside0.mk (blk_below (g := gb248) a8_ hb)
                 have n11_ := Aside0.mk (blk_below (g := gb254) a9_ hb)
                 have n12_ := Aside0.mk (below_step a1_ hb)
                 have n13_ := Aside0.mk (hbox)
                 have n14_ := Aside0.mk ((a90_ : w.heap.size ≤ gb287))
                 have n15_ := Aside0.mk ((a90_ : w.heap.size ≤ gb287))
                 have n16_ := Aside0.mk ((a77_ : gb221 ≠ gb287))
                 have n17_ := Aside0.mk ((a78_ : gb287 ≠ gb221))
                 have n18_ := Aside0.mk ((a79_ : gb222 ≠ gb287))
                 have n19_ := Aside0.mk ((a80_ : gb287 ≠ gb222))
                 have n20_ := Aside0.mk ((a81_ : gb238 ≠ gb287))
                 have n21_ := Aside0.mk ((a82_ : gb287 ≠ gb238))
                 have n22_ := Aside0.mk ((a83_ : gb243 ≠ gb287))
                 have n23_ := Aside0.mk ((a84_ : gb287 ≠ gb243))
                 have n24_ := Aside0.mk ((a85_ : gb248 ≠ gb287))
                 have n25_ := Aside0.mk ((a86_ : gb287 ≠ gb248))
                 have n26_ := Aside0.mk ((a87_ : gb254 ≠ gb287))
                 have n27_ := Aside0.mk ((a88_ : gb287 ≠ gb254))
                 clear HO_239001 HO_244001 HO_249001 HO_255001 HO277 HO281 BK221 BK222 BK238 BK243 BK248 BK254 HB; have HO_239001 := n0_; have HO_244001 := n1_; have HO_249001 := n2_; have HO_255001 := n3_; have HO277 := n4_; have HO281 := n5_; have BK221 := n6_; have BK222 := n7_; have BK238 := n8_; have BK243 := n9_; have BK248 := n10_; have BK254 := n11_; have HB := n12_; have BK287 := n13_; have GW287 := n14_; have GE287 := n15_; have NB221_287 := n16_; have NB287_221 := n17_; have NB222_287 := n18_; have NB287_222 := n19_; have NB238_287 := n20_; have NB287_238 := n21_; have NB243_287 := n22_; have NB287_243 := n23_; have NB248_287 := n24_; have NB287_248 := n25_; have NB254_287 := n26_; have NB287_254 := n27_; clear n0_ n1_ n2_ n3_ n4_ n5_ n6_ n7_ n8_ n9_ n10_ n11_ n12_ n13_ n14_ n15_ n16_ n17_ n18_ n19_ n20_ n21_ n22_ n23_ n24_ n25_ n26_ n27_ hb hbox hg
                 obtain ⟨Ao190, co190, eo190⟩ := Kd.R_slice HO277.out
                 (first | subst eo190 | (injection eo190 with f1_ f2_ f3_; have f4_ := f1_.symm; have f5_ := f3_.symm; clear f1_ f2_ f3_; subst f4_; subst f5_))
                 obtain ⟨Ao191, co191, eo191⟩ := Kd.R_slice HO281.out
                 (first | subst eo191 | (injection eo191 with f1_ f2_ f3_; have f4_ := f1_.symm; have f5_ := f3_.symm; clear f1_ f2_ f3_; subst f4_; subst f5_))
                 refine hK.out _ _ ⟨(blk_cell BK221.out 0).trans rfl, (blk_cell BK221.out 1).trans rfl, (blk_cell BK222.out 0).trans rfl, (blk_cell BK222.out 1).trans rfl⟩ (fun hHeld => ?_)
                 clear hK K; refine norm_ (a' := ?_) ?_ ?_; rotate_left
                 ·show Act.put _ (some 15) _ = _
                  simp only [Act.put, List.setIfInBounds_toArray, List.set_cons_zero, List.set_cons_succ, i64_w, i32_w]
                  rfl
                 refine one_ (i := 4) (N := some 99) #[true, true, true, true, true, false, false, false, true, false, false] rfl rfl (one_of HT_.out (by kernel_rfl)) (by decide) (fun K hK => ?_)
                 refine goes_ Try.func36 (by kernel_rfl) rfl #[.agg #[.int .i16 t274, .slice Ao190 t275.length co190], .agg #[.int .i16 t278, .slice Ao191 t279.length co191]] (by rfl) rfl rfl a6_ ?_
                 with_reducible refine (impl_JoinPrograms.calls kj109 t274 (fun k_ => some k_ = (.slice Ao190 t275.length co190 : Value).ownBlock) _ _ t275 t278 (fun k_ => some k_ = (.slice Ao191 t279.length co191 : Value).ownBlock) _ _ t279 t282 t283 t286 _ ?side1 ?side2 A175.out).mono ?_
                 (case side1 => exact a99_); (case side2 => exact a100_)
                 rintro e w192 ⟨v284, rfl, ho0, hb⟩
                 refine ⟨_, rfl, ?_⟩
                 have n0_ := Aside0.mk (Kd.R_elder' a11_ (Kd.R_base ho0) hb)
                 have n1_ := Aside0.mk (Kd.R_elder' a12_ (Kd.R_base ho0) hb)
                 have n2_ := Aside0.mk (Kd.R_elder' a13_ (Kd.R_base ho0) hb)
                 have n3_ := Aside0.mk (Kd.R_elder' a14_ (Kd.R_base ho0) hb)
                 have n4_ := Aside0.mk (Kd.R_elder' a17_ (Kd.R_base ho0) hb)
                 have n5_ := Aside0.mk (Kd.R_elder' a29_ (Kd.R_base ho0) hb)
                 have n6_ := Aside0.mk (Kd.R_lower (Kd.R_new' (Kd.R_new' (Kd.R_new' (Kd.R_new' (Kd.R_new' (Kd.R_new' (Kd.R_mono (ok' := fun k_ => True) ho0 (fun _ hk_ => trivial)) (Kd.R_lt a11_)) (Kd.R_lt a12_)) (Kd.R_lt a13_)) (Kd.R_lt a14_)) (Kd.R_lt a17_)) (Kd.R_lt a29_)) (below_size a5_))
                 have n7_ := Aside0.mk (blk_below (g := gb221) a2_ hb)
                 have n8_ := Aside0.mk (blk_below (g := gb222) a3_ hb)
                 have n9_ := Aside0.mk (blk_below (g := gb238) a4_ hb)
                 have n10_ := Aside0.mk (blk_below (g := gb243) a7_ hb)
                 have n11_ := Aside0.mk (blk_below (g := gb248) a8_ hb)
                 have n12_ := Aside0.mk (blk_below (g := gb254) a9_ hb)
                 have n13_ := Aside0.mk (blk_below (g := gb287) a21_ hb)
                 have n14_ := Aside0.mk (below_step a5_ hb)
                 clear HO_239001 HO_244001 HO_249001 HO_255001 HO277 HO281 BK221 BK222 BK238 BK243 BK248 BK254 BK287 HB; have HO_239001 := n0_; have HO_244001 := n1_; have HO_249001 := n2_; have HO_255001 := n3_; have HO277 := n4_; have HO281 := n5_; have HO285 := n6_; have BK221 := n7_; have BK222 := n8_; have BK238 := n9_; have BK243 := n10_; have BK248 := n11_; have BK254 := n12_; have BK287 := n13_; have HB := n14_; clear n0_ n1_ n2_ n3_ n4_ n5_ n6_ n7_ n8_ n9_ n10_ n11_ n12_ n13_ n14_; (try clear hb); (try clear hb2); (try clear hk); (try clear hi); (try clear ho0)
                 refine hK.out _ _ ⟨(blk_cell BK221.out 0).trans rfl, (blk_cell BK221.out 1).trans rfl, (blk_cell BK222.out 0).trans rfl, (blk_cell BK222.out 1).trans rfl⟩ (fun hHeld => ?_)
                 clear hK K; refine norm_ (a' := ?_) ?_ ?_; rotate_left
                 ·show Act.put _ (some 99) _ = _
                  simp only [Act.put, List.setIfInBounds_toArray, List.set_cons_zero, List.set_cons_succ, i64_w, i32_w]
                  rfl
                 refine pure_ (i := 5) (N := some 94) (v := ?_) (a' := ?_) #[true, true, true, true, true, true, false, false, true, false, false] rfl rfl (any_of HT_.out (by kernel_rfl)) (fun _ _ _ h => h) (Or.inl ⟨by rfl, ?_⟩) ?_ ?_
                 rotate_left
                 ·intro w'
                  go_simp; with_reducible rfl
                 rotate_left
                 ·simp only [Act.put, List.setIfInBounds_toArray, List.set_cons_zero, List.set_cons_succ, i64_w, i32_w]
                  rfl
                 refine pure_ (i := 6) (N := some 100) (v := ?_) (a' := ?_) #[true, true, true, true, true, true, true, false, true, false, false] rfl rfl (any_of HT_.out (by kernel_rfl)) (fun _ _ _ h => h) (Or.inl ⟨by rfl, ?_⟩) ?_ ?_
                 rotate_left
                 ·intro w'
                  go_simp; with_reducible rfl
                 rotate_left
                 ·simp only [Act.put, List.setIfInBounds_toArray, List.set_cons_zero, List.set_cons_succ, i64_w, i32_w]
                  rfl
                 refine pure_ (i := 7) (N := some 101) (v := ?_) (a' := ?_) #[true, true, true, true, true, true, true, true, true, false, false] rfl rfl (any_of HT_.out (by kernel_rfl)) (fun _ _ _ h => h) (Or.inl ⟨by rfl, ?_⟩) ?_ ?_
                 rotate_left
                 ·intro w'
                  go_simp; with_reducible rfl
                 rotate_left
                 ·simp only [Act.put, List.setIfInBounds_toArray, List.set_cons_zero, List.set_cons_succ, i64_w, i32_w]
                  rfl
                 exact norm_ a50_ (hCont (.slice Ao190 t275.length co190, .slice Ao191 t279.length co191, v284, gb287) _ ⟨hHeld, a36_, a37_, a38_, a32_, a33_, a34_, a35_, a2_, a3_, a4_, a7_, a8_, a9_, a21_, GW287.out, GE287.out, NB221_287.out, NB287_221.out, NB222_287.out, NB287_222.out, NB238_287.out, NB287_238.out, NB243_287.out, NB287_243.out, NB248_287.out, NB287_248.out, NB254_287.out, NB287_254.out, a5_⟩)
               ·refine box_step ?hg (N := 15) ?hd (cs := #[.int .i16 0, .slice none 0 0]) (t := 45) ?hr ?_; (case hd => rfl); (case hg => rfl); (case hr => exact a101_)
                intro gb287 hg w188 hbox hb
                have n0_ := Aside0.mk (Kd.R_below a11_ hb)
                have n1_ := Aside0.mk (Kd.R_below a12_ hb)
                have n2_ := Aside0.mk (Kd.R_below a13_ hb)
                have n3_ := Aside0.mk (Kd.R_below a14_ hb)
                have n4_ := Aside0.mk (Kd.R_below a17_ hb)
                have n5_ := Aside0.mk (blk_below (g := gb221) a2_ hb)
                have n6_ := Aside0.mk (blk_below (g := gb222) a3_ hb)
                have n7_ := Aside0.mk (blk_below (g := gb238) a4_ hb)
                have n8_ := Aside0.mk (blk_below (g := gb243) a7_ hb)
                have n9_ := Aside0.mk (blk_below (g := gb248) a8_ hb)
                have n10_ := Aside0.mk (blk_below (g := gb254) a9_ hb)
                have n11_ := Aside0.mk (below_step a1_ hb)
                have n12_ := Aside0.mk (hbox)
                have n13_ := Aside0.mk ((a90_ : w.heap.size ≤ gb287))
                have n14_ := Aside0.mk ((a90_ : w.heap.size ≤ gb287))
                have n15_ := Aside0.mk ((a77_ : gb221 ≠ gb287))
                have n16_ := Aside0.mk ((a78_ : gb287 ≠ gb221))
                have n17_ := Aside0.mk ((a79_ : gb222 ≠ gb287))
                have n18_ := Aside0.mk ((a80_ : gb287 ≠ gb222))
                have n19_ := Aside0.mk ((a81_ : gb238 ≠ gb287))
                have n20_ := Aside0.mk ((a82_ : gb287 ≠ gb238))
                have n21_ := Aside0.mk ((a83_ : gb243 ≠ gb287))
                have n22_ := Aside0.mk ((a84_ : gb287 ≠ gb243))
                have n23_ := Aside0.mk ((a85_ : gb248 ≠ gb287))
                have n24_ := Aside0.mk ((a86_ : gb287 ≠ gb248))
                have n25_ := Aside0.mk ((a87_ : gb254 ≠ gb287))
                have n26_ := Aside0.mk ((a88_ : gb287 ≠ gb254))
                clear HO_239001 HO_244001 HO_249001 HO_255001 HO277 BK221 BK222 BK238 BK243 BK248 BK254 HB; have HO_239001 := n0_; have HO_244001 := n1_; have HO_249001 := n2_; have HO_255001 := n3_; have HO277 := n4_; have BK221 := n5_; have BK222 := n6_; have BK238 := n7_; have BK243 := n8_; have BK248 := n9_; have BK254 := n10_; have HB := n11_; have BK287 := n12_; have GW287 := n13_; have GE287 := n14_; have NB221_287 := n15_; have NB287_221 := n16_; have NB222_287 := n17_; have NB287_222 := n18_; have NB238_287 := n19_; have NB287_238 := n20_; have NB243_287 := n21_; have NB287_243 := n22_; have NB248_287 := n23_; have NB287_248 := n24_; have NB254_287 := n25_; have NB287_254 := n26_; clear n0_ n1_ n2_ n3_ n4_ n5_ n6_ n7_ n8_ n9_ n10_ n11_ n12_ n13_ n14_ n15_ n16_ n17_ n18_ n19_ n20_ n21_ n22_ n23_ n24_ n25_ n26_ hb hbox hg
                refine hK.out _ _ ⟨(blk_cell BK221.out 0).trans rfl, (blk_cell BK221.out 1).trans rfl, (blk_cell BK222.out 0).trans rfl, (blk_cell BK222.out 1).trans rfl⟩ (fun hHeld => ?_)
                clear hK K; refine norm_ (a' := ?_) ?_ ?_; rotate_left
                ·show Act.put _ (some 15) _ = _
                 simp only [Act.put, List.setIfInBounds_toArray, List.set_cons_zero, List.set_cons_succ, i64_w, i32_w]
                 rfl
                refine one_ (i := 3) (N := some 98) #[true, true, true, true, false, false, false, false, true, false, false] rfl rfl (one_of HT_.out (by kernel_rfl)) (by decide) (fun K hK => ?_)
                refine goes_ Try.func30 (by kernel_rfl) rfl #[.agg #[.int .i16 a1_0, .slice A1_1 l1_1.length c1_1]] (by rfl) rfl rfl a6_ ?_
                with_reducible refine (laws_toProgram.calls kj109 a1_0 _ _ l1_1 t278 t279 _ ?side1 ?side2 A174.out).mono ?_
                (case side1 => exact a96_); (case side2 => exact HC1_1.out)
                rintro e w189 ⟨v280, rfl, ho0, hb⟩
                refine ⟨_, rfl, ?_⟩
                have n0_ := Aside0.mk (Kd.R_elder' a11_ (Kd.R_base ho0) hb)
                have n1_ := Aside0.mk (Kd.R_elder' a12_ (Kd.R_base ho0) hb)
                have n2_ := Aside0.mk (Kd.R_elder' a13_ (Kd.R_base ho0) hb)
                have n3_ := Aside0.mk (Kd.R_elder' a14_ (Kd.R_base ho0) hb)
                have n4_ := Aside0.mk (Kd.R_elder' a17_ (Kd.R_base ho0) hb)
                have n5_ := Aside0.mk (Kd.R_lower (Kd.R_new' (Kd.R_new' (Kd.R_new' (Kd.R_new' (Kd.R_new' ho0 (Kd.R_lt a11_)) (Kd.R_lt a12_)) (Kd.R_lt a13_)) (Kd.R_lt a14_)) (Kd.R_lt a17_)) (below_size a5_))
                have n6_ := Aside0.mk (blk_below (g := gb221) a2_ hb)
                have n7_ := Aside0.mk (blk_below (g := gb222) a3_ hb)
                have n8_ := Aside0.mk (blk_below (g := gb238) a4_ hb)
                have n9_ := Aside0.mk (blk_below (g := gb243) a7_ hb)
                have n10_ := Aside0.mk (blk_below (g := gb248) a8_ hb)
                have n11_ := Aside0.mk (blk_below (g := gb254) a9_ hb)
                have n12_ := Aside0.mk (blk_below (g := gb287) a21_ hb)
                have n13_ := Aside0.mk (below_step a5_ hb)
                clear HO_239001 HO_244001 HO_249001 HO_255001 HO277 BK221 BK222 BK238 BK243 BK248 BK254 BK287 HB; have HO_239001 := n0_; have HO_244001 := n1_; have HO_249001 := n2_; have HO_255001 := n3_; have HO277 := n4_; have HO281 := n5_; have BK221 := n6_; have BK222 := n7_; have BK238 := n8_; have BK243 := n9_; have BK248 := n10_; have BK254 := n11_; have BK287 := n12_; have HB := n13_; clear n0_ n1_ n2_ n3_ n4_ n5_ n6_ n7_ n8_ n9_ n10_ n11_ n12_ n13_; (try clear hb); (try clear hb2); (try clear hk); (try clear hi); (try clear ho0)
                obtain ⟨Ao190, co190, eo190⟩ := Kd.R_slice HO277.out
                (first | subst eo190 | (injection eo190 with f1_ f2_ f3_; have f4_ := f1_.symm; have f5_ := f3_.symm; clear f1_ f2_ f3_; subst f4_; subst f5_))
                obtain ⟨Ao191, co191, eo191⟩ := Kd.R_slice HO281.out
                (first | subst eo191 | (injection eo191 with f1_ f2_ f3_; have f4_ := f1_.symm; have f5_ := f3_.symm; clear f1_ f2_ f3_; subst f4_; subst f5_))
                refine hK.out _ _ ⟨(blk_cell BK221.out 0).trans rfl, (blk_cell BK221.out 1).trans rfl, (blk_cell BK222.out 0).trans rfl, (blk_cell BK222.out 1).trans rfl⟩ (fun hHeld => ?_)
                clear hK K; refine norm_ (a' := ?_) ?_ ?_; rotate_left
                ·show Act.put _ (some 98) _ = _
                 simp only [Act.put, List.setIfInBounds_toArray, List.set_cons_zero, List.set_cons_succ, i64_w, i32_w]
                 rfl
                refine one_ (i := 4) (N := some 99) #[true, true, true, true, true, false, false, false, true, false, false] rfl rfl (one_of HT_.out (by kernel_rfl)) (by decide) (fun K hK => ?_)
                refine goes_ Try.func36 (by kernel_rfl) rfl #[.agg #[.int .i16 t274, .slice Ao190 t275.length co190], .agg #[.int .i16 t278, .slice Ao191 t279.length co191]] (by rfl) rfl rfl a6_ ?_
                with_reducible refine (impl_JoinPrograms.calls kj109 t274 (fun k_ => some k_ = (.slice Ao190 t275.length co190 : Value).ownBlock) _ _ t275 t278 (fun k_ => some k_ = (.slice Ao191 t279.length co191 : Value).ownBlock) _ _ t279 t282 t283 t286 _ ?side1 ?side2 A175.out).mono ?_
                (case side1 => exact a99_); (case side2 => exact a100_)
                rintro e w192 ⟨v284, rfl, ho0, hb⟩
                refine ⟨_, rfl, ?_⟩
                have n0_ := Aside0.mk (Kd.R_elder' a11_ (Kd.R_base ho0) hb)
                have n1_ := Aside0.mk (Kd.R_elder' a12_ (Kd.R_base ho0) hb)
                have n2_ := Aside0.mk (Kd.R_elder' a13_ (Kd.R_base ho0) hb)
                have n3_ := Aside0.mk (Kd.R_elder' a14_ (Kd.R_base ho0) hb)
                have n4_ := Aside0.mk (Kd.R_elder' a17_ (Kd.R_base ho0) hb)
                have n5_ := Aside0.mk (Kd.R_elder' a29_ (Kd.R_base ho0) hb)
                have n6_ := Aside0.mk (Kd.R_lower (Kd.R_new' (Kd.R_new' (Kd.R_new' (Kd.R_new' (Kd.R_new' (Kd.R_new' (Kd.R_mono (ok' := fun k_ => True) ho0 (fun _ hk_ => trivial)) (Kd.R_lt a11_)) (Kd.R_lt a12_)) (Kd.R_lt a13_)) (Kd.R_lt a14_)) (Kd.R_lt a17_)) (Kd.R_lt a29_)) (below_size a5_))
                have n7_ := Aside0.mk (blk_below (g := gb221) a2_ hb)
                have n8_ := Aside0.mk (blk_below (g := gb222) a3_ hb)
                have n9_ := Aside0.mk (blk_below (g := gb238) a4_ hb)
                have n10_ := Aside0.mk (blk_below (g := gb243) a7_ hb)
                have n11_ := Aside0.mk (blk_below (g := gb248) a8_ hb)
                have n12_ := Aside0.mk (blk_below (g := gb254) a9_ hb)
                have n13_ := Aside0.mk (blk_below (g := gb287) a21_ hb)
                have n14_ := Aside0.mk (below_step a5_ hb)
                clear HO_239001 HO_244001 HO_249001 HO_255001 HO277 HO281 BK221 BK222 BK238 BK243 BK248 BK254 BK287 HB; have HO_239001 := n0_; have HO_244001 := n1_; have HO_249001 := n2_; have HO_255001 := n3_; have HO277 := n4_; have HO281 := n5_; have HO285 := n6_; have BK221 := n7_; have BK222 := n8_; have BK238 := n9_; have BK243 := n10_; have BK248 := n11_; have BK254 := n12_; have BK287 := n13_; have HB := n14_; clear n0_ n1_ n2_ n3_ n4_ n5_ n6_ n7_ n8_ n9_ n10_ n11_ n12_ n13_ n14_; (try clear hb); (try clear hb2); (try clear hk); (try clear hi); (try clear ho0)
                refine hK.out _ _ ⟨(blk_cell BK221.out 0).trans rfl, (blk_cell BK221.out 1).trans rfl, (blk_cell BK222.out 0).trans rfl, (blk_cell BK222.out 1).trans rfl⟩ (fun hHeld => ?_)
                clear hK K; refine norm_ (a' := ?_) ?_ ?_; rotate_left
                ·show Act.put _ (some 99) _ = _
                 simp only [Act.put, List.setIfInBounds_toArray, List.set_cons_zero, List.set_cons_succ, i64_w, i32_w]
                 rfl
                refine pure_ (i := 5) (N := some 94) (v := ?_) (a' := ?_) #[true, true, true, true, true, true, false, false, true, false, false] rfl rfl (any_of HT_.out (by kernel_rfl)) (fun _ _ _ h => h) (Or.inl ⟨by rfl, ?_⟩) ?_ ?_
                rotate_left
                ·intro w'
                 go_simp; with_reducible rfl
                rotate_left
                ·simp only [Act.put, List.setIfInBounds_toArray, List.set_cons_zero, List.set_cons_succ, i64_w, i32_w]
                 rfl
                refine pure_ (i := 6) (N := some 100) (v := ?_) (a' := ?_) #[true, true, true, true, true, true, true, false, true, false, false] rfl rfl (any_of HT_.out (by kernel_rfl)) (fun _ _ _ h => h) (Or.inl ⟨by rfl, ?_⟩) ?_ ?_
                rotate_left
                ·intro w'
                 go_simp; with_reducible rfl
                rotate_left
                ·simp only [Act.put, List.setIfInBounds_toArray, List.set_cons_zero, List.set_cons_succ, i64_w, i32_w]
                 rfl
                refine pure_ (i := 7) (N := some 101) (v := ?_) (a' := ?_) #[true, true, true, true, true, true, true, true, true, false, false] rfl rfl (any_of HT_.out (by kernel_rfl)) (fun _ _ _ h => h) (Or.inl ⟨by rfl, ?_⟩) ?_ ?_
                rotate_left
                ·intro w'
                 go_simp; with_reducible rfl
                rotate_left
                ·simp only [Act.put, List.setIfInBounds_toArray, List.set_cons_zero, List.set_cons_succ, i64_w, i32_w]
                 rfl
                exact norm_ a50_ (hCont (.slice Ao190 t275.length co190, .slice Ao191 t279.length co191, v284, gb287) _ ⟨hHeld, a36_, a37_, a38_, a32_, a33_, a34_, a35_, a2_, a3_, a4_, a7_, a8_, a9_, a21_, GW287.out, GE287.out, NB221_287.out, NB287_221.out, NB222_287.out, NB287_222.out, NB238_287.out, NB287_238.out, NB243_287.out, NB287_243.out, NB248_287.out, NB287_248.out, NB254_287.out, NB287_254.out, a5_⟩)
              ·refine box_step ?hg (N := 15) ?hd (cs := #[.int .i16 0, .slice none 0 0]) (t := 45) ?hr ?_; (case hd => rfl); (case hg => rfl); (case hr => exact a101_)
               intro gb287 hg w187 hbox hb
               have n0_ := Aside0.mk (Kd.R_below a11_ hb)
               have n1_ := Aside0.mk (Kd.R_below a12_ hb)
               have n2_ := Aside0.mk (Kd.R_below a13_ hb)
               have n3_ := Aside0.mk (Kd.R_below a14_ hb)
               have n4_ := Aside0.mk (blk_below (g := gb221) a2_ hb)
               have n5_ := Aside0.mk (blk_below (g := gb222) a3_ hb)
               have n6_ := Aside0.mk (blk_below (g := gb238) a4_ hb)
               have n7_ := Aside0.mk (blk_below (g := gb243) a7_ hb)
               have n8_ := Aside0.mk (blk_below (g := gb248) a8_ hb)
               have n9_ := Aside0.mk (blk_below (g := gb254) a9_ hb)
               have n10_ := Aside0.mk (below_step a1_ hb)
               have n11_ := Aside0.mk (hbox)
               have n12_ := Aside0.mk ((a90_ : w.heap.size ≤ gb287))
               have n13_ := Aside0.mk ((a90_ : w.heap.size ≤ gb287))
               have n14_ := Aside0.mk ((a77_ : gb221 ≠ gb287))
               have n15_ := Aside0.mk ((a78_ : gb287 ≠ gb221))
               have n16_ := Aside0.mk ((a79_ : gb222 ≠ gb287))
               have n17_ := Aside0.mk ((a80_ : gb287 ≠ gb222))
               have n18_ := Aside0.mk ((a81_ : gb238 ≠ gb287))
               have n19_ := Aside0.mk ((a82_ : gb287 ≠ gb238))
               have n20_ := Aside0.mk ((a83_ : gb243 ≠ gb287))
               have n21_ := Aside0.mk ((a84_ : gb287 ≠ gb243))
               have n22_ := Aside0.mk ((a85_ : gb248 ≠ gb287))
               have n23_ := Aside0.mk ((a86_ : gb287 ≠ gb248))
               have n24_ := Aside0.mk ((a87_ : gb254 ≠ gb287))
               have n25_ := Aside0.mk ((a88_ : gb287 ≠ gb254))
               clear HO_239001 HO_244001 HO_249001 HO_255001 BK221 BK222 BK238 BK243 BK248 BK254 HB; have HO_239001 := n0_; have HO_244001 := n1_; have HO_249001 := n2_; have HO_255001 := n3_; have BK221 := n4_; have BK222 := n5_; have BK238 := n6_; have BK243 := n7_; have BK248 := n8_; have BK254 := n9_; have HB := n10_; have BK287 := n11_; have GW287 := n12_; have GE287 := n13_; have NB221_287 := n14_; have NB287_221 := n15_; have NB222_287 := n16_; have NB287_222 := n17_; have NB238_287 := n18_; have NB287_238 := n19_; have NB243_287 := n20_; have NB287_243 := n21_; have NB248_287 := n22_; have NB287_248 := n23_; have NB254_287 := n24_; have NB287_254 := n25_; clear n0_ n1_ n2_ n3_ n4_ n5_ n6_ n7_ n8_ n9_ n10_ n11_ n12_ n13_ n14_ n15_ n16_ n17_ n18_ n19_ n20_ n21_ n22_ n23_ n24_ n25_ hb hbox hg
               refine hK.out _ _ ⟨(blk_cell BK221.out 0).trans rfl, (blk_cell BK221.out 1).trans rfl, (blk_cell BK222.out 0).trans rfl, (blk_cell BK222.out 1).trans rfl⟩ (fun hHeld => ?_)
               clear hK K; refine norm_ (a' := ?_) ?_ ?_; rotate_left
               ·show Act.put _ (some 15) _ = _
                simp only [Act.put, List.setIfInBounds_toArray, List.set_cons_zero, List.set_cons_succ, i64_w, i32_w]
                rfl
               refine one_ (i := 1) (N := some 96) #[true, true, true, false, false, false, false, false, true, false, false] rfl rfl (one_of HT_.out (by kernel_rfl)) (by decide) (fun K hK => ?_)
               refine goes_ Try.func30 (by kernel_rfl) rfl #[.agg #[.int .i16 a0_0, .slice A0_1 l0_1.length c0_1]] (by rfl) rfl rfl a6_ ?_
               with_reducible refine (laws_toProgram.calls kj109 a0_0 _ _ l0_1 t274 t275 _ ?side1 ?side2 A173.out).mono ?_
               (case side1 => exact a95_); (case side2 => exact HC0_1.out)
               rintro e w188 ⟨v276, rfl, ho0, hb⟩
               refine ⟨_, rfl, ?_⟩
               have n0_ := Aside0.mk (Kd.R_elder' a11_ (Kd.R_base ho0) hb)
               have n1_ := Aside0.mk (Kd.R_elder' a12_ (Kd.R_base ho0) hb)
               have n2_ := Aside0.mk (Kd.R_elder' a13_ (Kd.R_base ho0) hb)
               have n3_ := Aside0.mk (Kd.R_elder' a14_ (Kd.R_base ho0) hb)
               have n4_ := Aside0.mk (Kd.R_lower (Kd.R_new' (Kd.R_new' (Kd.R_new' (Kd.R_new' ho0 (Kd.R_lt a11_)) (Kd.R_lt a12_)) (Kd.R_lt a13_)) (Kd.R_lt a14_)) (below_size a5_))
               have n5_ := Aside0.mk (blk_below (g := gb221) a2_ hb)
               have n6_ := Aside0.mk (blk_below (g := gb222) a3_ hb)
               have n7_ := Aside0.mk (blk_below (g := gb238) a4_ hb)
               have n8_ := Aside0.mk (blk_below (g := gb243) a7_ hb)
               have n9_ := Aside0.mk (blk_below (g := gb248) a8_ hb)
               have n10_ := Aside0.mk (blk_below (g := gb254) a9_ hb)
               have n11_ := Aside0.mk (blk_below (g := gb287) a21_ hb)
               have n12_ := Aside0.mk (below_step a5_ hb)
               clear HO_239001 HO_244001 HO_249001 HO_255001 BK221 BK222 BK238 BK243 BK248 BK254 BK287 HB; have HO_239001 := n0_; have HO_244001 := n1_; have HO_249001 := n2_; have HO_255001 := n3_; have HO277 := n4_; have BK221 := n5_; have BK222 := n6_; have BK238 := n7_; have BK243 := n8_; have BK248 := n9_; have BK254 := n10_; have BK287 := n11_; have HB := n12_; clear n0_ n1_ n2_ n3_ n4_ n5_ n6_ n7_ n8_ n9_ n10_ n11_ n12_; (try clear hb); (try clear hb2); (try clear hk); (try clear hi); (try clear ho0)
               refine hK.out _ _ ⟨(blk_cell BK221.out 0).trans rfl, (blk_cell BK221.out 1).trans rfl, (blk_cell BK222.out 0).trans rfl, (blk_cell BK222.out 1).trans rfl⟩ (fun hHeld => ?_)
               clear hK K; refine norm_ (a' := ?_) ?_ ?_; rotate_left
               ·show Act.put _ (some 96) _ = _
                simp only [Act.put, List.setIfInBounds_toArray, List.set_cons_zero, List.set_cons_succ, i64_w, i32_w]
                rfl
               refine one_ (i := 3) (N := some 98) #[true, true, true, true, false, false, false, false, true, false, false] rfl rfl (one_of HT_.out (by kernel_rfl)) (by decide) (fun K hK => ?_)
               refine goes_ Try.func30 (by kernel_rfl) rfl #[.agg #[.int .i16 a1_0, .slice A1_1 l1_1.length c1_1]] (by rfl) rfl rfl a6_ ?_
               with_reducible refine (laws_toProgram.calls kj109 a1_0 _ _ l1_1 t278 t279 _ ?side1 ?side2 A174.out).mono ?_
               (case side1 => exact a96_); (case side2 => exact HC1_1.out)
               rintro e w189 ⟨v280, rfl, ho0, hb⟩
               refine ⟨_, rfl, ?_⟩
               have n0_ := Aside0.mk (Kd.R_elder' a11_ (Kd.R_base ho0) hb)
               have n1_ := Aside0.mk (Kd.R_elder' a12_ (Kd.R_base ho0) hb)
               have n2_ := Aside0.mk (Kd.R_elder' a13_ (Kd.R_base ho0) hb)
               have n3_ := Aside0.mk (Kd.R_elder' a14_ (Kd.R_base ho0) hb)
               have n4_ := Aside0.mk (Kd.R_elder' a17_ (Kd.R_base ho0) hb)
               have n5_ := Aside0.mk (Kd.R_lower (Kd.R_new' (Kd.R_new' (Kd.R_new' (Kd.R_new' (Kd.R_new' ho0 (Kd.R_lt a11_)) (Kd.R_lt a12_)) (Kd.R_lt a13_)) (Kd.R_lt a14_)) (Kd.R_lt a17_)) (below_size a5_))
               have n6_ := Aside0.mk (blk_below (g := gb221) a2_ hb)
               have n7_ := Aside0.mk (blk_below (g := gb222) a3_ hb)
               have n8_ := Aside0.mk (blk_below (g := gb238) a4_ hb)
               have n9_ := Aside0.mk (blk_below (g := gb243) a7_ hb)
               have n10_ := Aside0.mk (blk_below (g := gb248) a8_ hb)
               have n11_ := Aside0.mk (blk_below (g := gb254) a9_ hb)
               have n12_ := Aside0.mk (blk_below (g := gb287) a21_ hb)
               have n13_ := Aside0.mk (below_step a5_ hb)
               clear HO_239001 HO_244001 HO_249001 HO_255001 HO277 BK221 BK222 BK238 BK243 BK248 BK254 BK287 HB; have HO_239001 := n0_; have HO_244001 := n1_; have HO_249001 := n2_; have HO_255001 := n3_; have HO277 := n4_; have HO281 := n5_; have BK221 := n6_; have BK222 := n7_; have BK238 := n8_; have BK243 := n9_; have BK248 := n10_; have BK254 := n11_; have BK287 := n12_; have HB := n13_; clear n0_ n1_ n2_ n3_ n4_ n5_ n6_ n7_ n8_ n9_ n10_ n11_ n12_ n13_; (try clear hb); (try clear hb2); (try clear hk); (try clear hi); (try clear ho0)
               obtain ⟨Ao190, co190, eo190⟩ := Kd.R_slice HO277.out
               (first | subst eo190 | (injection eo190 with f1_ f2_ f3_; have f4_ := f1_.symm; have f5_ := f3_.symm; clear f1_ f2_ f3_; subst f4_; subst f5_))
               obtain ⟨Ao191, co191, eo191⟩ := Kd.R_slice HO281.out
               (first | subst eo191 | (injection eo191 with f1_ f2_ f3_; have f4_ := f1_.symm; have f5_ := f3_.symm; clear f1_ f2_ f3_; subst f4_; subst f5_))
               refine hK.out _ _ ⟨(blk_cell BK221.out 0).trans rfl, (blk_cell BK221.out 1).trans rfl, (blk_cell BK222.out 0).trans rfl, (blk_cell BK222.out 1).trans rfl⟩ (fun hHeld => ?_)
               clear hK K; refine norm_ (a' := ?_) ?_ ?_; rotate_left
               ·show Act.put _ (some 98) _ = _
                simp only [Act.put, List.setIfInBounds_toArray, List.set_cons_zero, List.set_cons_succ, i64_w, i32_w]
                rfl
               refine one_ (i := 4) (N := some 99) #[true, true, true, true, true, false, false, false, true, false, false] rfl rfl (one_of HT_.out (by kernel_rfl)) (by decide) (fun K hK => ?_)
               refine goes_ Try.func36 (by kernel_rfl) rfl #[.agg #[.int .i16 t274, .slice Ao190 t275.length co190], .agg #[.int .i16 t278, .slice Ao191 t279.length co191]] (by rfl) rfl rfl a6_ ?_
               with_reducible refine (impl_JoinPrograms.calls kj109 t274 (fun k_ => some k_ = (.slice Ao190 t275.length co190 : Value).ownBlock) _ _ t275 t278 (fun k_ => some k_ = (.slice Ao191 t279.length co191 : Value).ownBlock) _ _ t279 t282 t283 t286 _ ?side1 ?side2 A175.out).mono ?_
               (case side1 => exact a99_); (case side2 => exact a100_)
               rintro e w192 ⟨v284, rfl, ho0, hb⟩
               refine ⟨_, rfl, ?_⟩
               have n0_ := Aside0.mk (Kd.R_elder' a11_ (Kd.R_base ho0) hb)
               have n1_ := Aside0.mk (Kd.R_elder' a12_ (Kd.R_base ho0) hb)
               have n2_ := Aside0.mk (Kd.R_elder' a13_ (Kd.R_base ho0) hb)
               have n3_ := Aside0.mk (Kd.R_elder' a14_ (Kd.R_base ho0) hb)
               have n4_ := Aside0.mk (Kd.R_elder' a17_ (Kd.R_base ho0) hb)
               have n5_ := Aside0.mk (Kd.R_elder' a29_ (Kd.R_base ho0) hb)
               have n6_ := Aside0.mk (Kd.R_lower (Kd.R_new' (Kd.R_new' (Kd.R_new' (Kd.R_new' (Kd.R_new' (Kd.R_new' (Kd.R_mono (ok' := fun k_ => True) ho0 (fun _ hk_ => trivial)) (Kd.R_lt a11_)) (Kd.R_lt a12_)) (Kd.R_lt a13_)) (Kd.R_lt a14_)) (Kd.R_lt a17_)) (Kd.R_lt a29_)) (below_size a5_))
               have n7_ := Aside0.mk (blk_below (g := gb221) a2_ hb)
               have n8_ := Aside0.mk (blk_below (g := gb222) a3_ hb)
               have n9_ := Aside0.mk (blk_below (g := gb238) a4_ hb)
               have n10_ := Aside0.mk (blk_below (g := gb243) a7_ hb)
               have n11_ := Aside0.mk (blk_below (g := gb248) a8_ hb)
               have n12_ := Aside0.mk (blk_below (g := gb254) a9_ hb)
               have n13_ := Aside0.mk (blk_below (g := gb287) a21_ hb)
               have n14_ := Aside0.mk (below_step a5_ hb)
               clear HO_239001 HO_244001 HO_249001 HO_255001 HO277 HO281 BK221 BK222 BK238 BK243 BK248 BK254 BK287 HB; have HO_239001 := n0_; have HO_244001 := n1_; have HO_249001 := n2_; have HO_255001 := n3_; have HO277 := n4_; have HO281 := n5_; have HO285 := n6_; have BK221 := n7_; have BK222 := n8_; have BK238 := n9_; have BK243 := n10_; have BK248 := n11_; have BK254 := n12_; have BK287 := n13_; have HB := n14_; clear n0_ n1_ n2_ n3_ n4_ n5_ n6_ n7_ n8_ n9_ n10_ n11_ n12_ n13_ n14_; (try clear hb); (try clear hb2); (try clear hk); (try clear hi); (try clear ho0)
               refine hK.out _ _ ⟨(blk_cell BK221.out 0).trans rfl, (blk_cell BK221.out 1).trans rfl, (blk_cell BK222.out 0).trans rfl, (blk_cell BK222.out 1).trans rfl⟩ (fun hHeld => ?_)
               clear hK K; refine norm_ (a' := ?_) ?_ ?_; rotate_left
               ·show Act.put _ (some 99) _ = _
                simp only [Act.put, List.setIfInBounds_toArray, List.set_cons_zero, List.set_cons_succ, i64_w, i32_w]
                rfl
               refine pure_ (i := 5) (N := some 94) (v := ?_) (a' := ?_) #[true, true, true, true, true, true, false, false, true, false, false] rfl rfl (any_of HT_.out (by kernel_rfl)) (fun _ _ _ h => h) (Or.inl ⟨by rfl, ?_⟩) ?_ ?_
               rotate_left
               ·intro w'
                go_simp; with_reducible rfl
               rotate_left
               ·simp only [Act.put, List.setIfInBounds_toArray, List.set_cons_zero, List.set_cons_succ, i64_w, i32_w]
                rfl
               refine pure_ (i := 6) (N := some 100) (v := ?_) (a' := ?_) #[true, true, true, true, true, true, true, false, true, false, false] rfl rfl (any_of HT_.out (by kernel_rfl)) (fun _ _ _ h => h) (Or.inl ⟨by rfl, ?_⟩) ?_ ?_
               rotate_left
               ·intro w'
                go_simp; with_reducible rfl
               rotate_left
               ·simp only [Act.put, List.setIfInBounds_toArray, List.set_cons_zero, List.set_cons_succ, i64_w, i32_w]
                rfl
               refine pure_ (i := 7) (N := some 101) (v := ?_) (a' := ?_) #[true, true, true, true, true, true, true, true, true, false, false] rfl rfl (any_of HT_.out (by kernel_rfl)) (fun _ _ _ h => h) (Or.inl ⟨by rfl, ?_⟩) ?_ ?_
               rotate_left
               ·intro w'
                go_simp; with_reducible rfl
               rotate_left
               ·simp only [Act.put, List.setIfInBounds_toArray, List.set_cons_zero, List.set_cons_succ, i64_w, i32_w]
                rfl
               exact norm_ a50_ (hCont (.slice Ao190 t275.length co190, .slice Ao191 t279.length co191, v284, gb287) _ ⟨hHeld, a36_, a37_, a38_, a32_, a33_, a34_, a35_, a2_, a3_, a4_, a7_, a8_, a9_, a21_, GW287.out, GE287.out, NB221_287.out, NB287_221.out, NB222_287.out, NB287_222.out, NB238_287.out, NB287_238.out, NB243_287.out, NB287_243.out, NB248_287.out, NB287_248.out, NB254_287.out, NB287_254.out, a5_⟩)
             rintro ⟨v276, v280, v284, gb287⟩ w193 ⟨hS_, h0_, h1_, h2_, h3_, h4_, h5_, h6_, h7_, h8_, h9_, h10_, h11_, h12_, h13_, h14_, h15_, h16_, h17_, h18_, h19_, h20_, h21_, h22_, h23_, h24_, h25_, h26_, h27_, h28_⟩
             have n0_ : Aside0 (Kd.R k125 125 w193 w.heap.size (fun k_ => some k_ ≠ (v280 : Value).ownBlock ∧ some k_ ≠ (v284 : Value).ownBlock ∧ nbk k_ Ao42 t234.length co42 ∧ nbk k_ Ao52 t267.length co52 ∧ nbk k_ Ao62 t269.length co62 ∧ nbk k_ Ao74 t250.length co74) v276 t275) := ⟨h0_⟩
             have n1_ : Aside0 (Kd.R k125 125 w193 w.heap.size (fun k_ => some k_ ≠ (v276 : Value).ownBlock ∧ some k_ ≠ (v284 : Value).ownBlock ∧ nbk k_ Ao42 t234.length co42 ∧ nbk k_ Ao52 t267.length co52 ∧ nbk k_ Ao62 t269.length co62 ∧ nbk k_ Ao74 t250.length co74) v280 t279) := ⟨h1_⟩
             have n2_ : Aside0 (Kd.R k125 125 w193 w.heap.size (fun k_ => some k_ ≠ (v276 : Value).ownBlock ∧ some k_ ≠ (v280 : Value).ownBlock ∧ nbk k_ Ao42 t234.length co42 ∧ nbk k_ Ao52 t267.length co52 ∧ nbk k_ Ao62 t269.length co62 ∧ nbk k_ Ao74 t250.length co74) v284 t283) := ⟨h2_⟩
             have n3_ : Aside0 (Kd.R k125 125 w193 w.heap.size (fun k_ => some k_ ≠ (v276 : Value).ownBlock ∧ some k_ ≠ (v280 : Value).ownBlock ∧ some k_ ≠ (v284 : Value).ownBlock ∧ nbk k_ Ao52 t267.length co52 ∧ nbk k_ Ao62 t269.length co62 ∧ nbk k_ Ao74 t250.length co74) (.slice Ao42 t234.length co42) t234) := ⟨h3_⟩
             have n4_ : Aside0 (Kd.R k125 125 w193 w.heap.size (fun k_ => some k_ ≠ (v276 : Value).ownBlock ∧ some k_ ≠ (v280 : Value).ownBlock ∧ some k_ ≠ (v284 : Value).ownBlock ∧ nbk k_ Ao42 t234.length co42 ∧ nbk k_ Ao62 t269.length co62 ∧ nbk k_ Ao74 t250.length co74) (.slice Ao52 t267.length co52) t267) := ⟨h4_⟩
             have n5_ : Aside0 (Kd.R k125 125 w193 w.heap.size (fun k_ => some k_ ≠ (v276 : Value).ownBlock ∧ some k_ ≠ (v280 : Value).ownBlock ∧ some k_ ≠ (v284 : Value).ownBlock ∧ nbk k_ Ao42 t234.length co42 ∧ nbk k_ Ao52 t267.length co52 ∧ nbk k_ Ao74 t250.length co74) (.slice Ao62 t269.length co62) t269) := ⟨h5_⟩
             have n6_ : Aside0 (Kd.R k125 125 w193 w.heap.size (fun k_ => some k_ ≠ (v276 : Value).ownBlock ∧ some k_ ≠ (v280 : Value).ownBlock ∧ some k_ ≠ (v284 : Value).ownBlock ∧ nbk k_ Ao42 t234.length co42 ∧ nbk k_ Ao52 t267.length co52 ∧ nbk k_ Ao62 t269.length co62) (.slice Ao74 t250.length co74) t272) := ⟨h6_⟩
             have n7_ : Aside0 (w193.heap[gb221]? = some (.cells #[.int .i16 a0_0, .slice A0_1 l0_1.length c0_1] 41 (0, 0))) := ⟨h7_⟩
             have n8_ : Aside0 (w193.heap[gb222]? = some (.cells #[.int .i16 a1_0, .slice A1_1 l1_1.length c1_1] 41 (0, 0))) := ⟨h8_⟩
             have n9_ : Aside0 (w193.heap[gb238]? = some (.cells #[.int .i16 t233, .slice Ao42 t234.length co42] 45 (0, 0))) := ⟨h9_⟩
             have n10_ : Aside0 (w193.heap[gb243]? = some (.cells #[.int .i16 t239, .slice Ao52 t267.length co52] 45 (0, 0))) := ⟨h10_⟩
             have n11_ : Aside0 (w193.heap[gb248]? = some (.cells #[.int .i16 t244, .slice Ao62 t269.length co62] 45 (0, 0))) := ⟨h11_⟩
             have n12_ : Aside0 (w193.heap[gb254]? = some (.cells #[.int .i16 t249, .slice Ao74 t250.length co74] 45 (0, 0))) := ⟨h12_⟩
             have n13_ : Aside0 (w193.heap[gb287]? = some (.cells #[.int .i16 0, .slice none 0 0] 45 (0, 0))) := ⟨h13_⟩
             have n14_ : Aside0 (w.heap.size ≤ gb287) := ⟨h14_⟩
             have n15_ : Aside0 (w.heap.size ≤ gb287) := ⟨h15_⟩
             have n16_ : Aside0 (gb221 ≠ gb287) := ⟨h16_⟩
             have n17_ : Aside0 (gb287 ≠ gb221) := ⟨h17_⟩
             have n18_ : Aside0 (gb222 ≠ gb287) := ⟨h18_⟩
             have n19_ : Aside0 (gb287 ≠ gb222) := ⟨h19_⟩
             have n20_ : Aside0 (gb238 ≠ gb287) := ⟨h20_⟩
             have n21_ : Aside0 (gb287 ≠ gb238) := ⟨h21_⟩
             have n22_ : Aside0 (gb243 ≠ gb287) := ⟨h22_⟩
             have n23_ : Aside0 (gb287 ≠ gb243) := ⟨h23_⟩
             have n24_ : Aside0 (gb248 ≠ gb287) := ⟨h24_⟩
             have n25_ : Aside0 (gb287 ≠ gb248) := ⟨h25_⟩
             have n26_ : Aside0 (gb254 ≠ gb287) := ⟨h26_⟩
             have n27_ : Aside0 (gb287 ≠ gb254) := ⟨h27_⟩
             have n28_ : Aside0 (Below w.heap.size w w193) := ⟨h28_⟩
             clear HO_239001 HO_244001 HO_249001 HO_255001 BK221 BK222 BK238 BK243 BK248 BK254 HB h0_ h1_ h2_ h3_ h4_ h5_ h6_ h7_ h8_ h9_ h10_ h11_ h12_ h13_ h14_ h15_ h16_ h17_ h18_ h19_ h20_ h21_ h22_ h23_ h24_ h25_ h26_ h27_ h28_; have HO277 := n0_; have HO281 := n1_; have HO285 := n2_; have HO_239001 := n3_; have HO_244001 := n4_; have HO_249001 := n5_; have HO_255001 := n6_; have BK221 := n7_; have BK222 := n8_; have BK238 := n9_; have BK243 := n10_; have BK248 := n11_; have BK254 := n12_; have BK287 := n13_; have GW287 := n14_; have GE287 := n15_; have NB221_287 := n16_; have NB287_221 := n17_; have NB222_287 := n18_; have NB287_222 := n19_; have NB238_287 := n20_; have NB287_238 := n21_; have NB243_287 := n22_; have NB287_243 := n23_; have NB248_287 := n24_; have NB287_248 := n25_; have NB254_287 := n26_; have NB287_254 := n27_; have HB := n28_; clear n0_ n1_ n2_ n3_ n4_ n5_ n6_ n7_ n8_ n9_ n10_ n11_ n12_ n13_ n14_ n15_ n16_ n17_ n18_ n19_ n20_ n21_ n22_ n23_ n24_ n25_ n26_ n27_ n28_
             have hHeld : w193.cell? ⟨gb221, 0, none⟩ = some (.int .i16 a0_0) ∧ w193.cell? ⟨gb221, 1, none⟩ = some (.slice A0_1 l0_1.length c0_1) ∧ w193.cell? ⟨gb222, 0, none⟩ = some (.int .i16 a1_0) ∧ w193.cell? ⟨gb222, 1, none⟩ = some (.slice A1_1 l1_1.length c1_1) := hS_
             obtain ⟨Ao195, co195, eo195⟩ := Kd.R_slice HO285.out
             (first | subst eo195 | (injection eo195 with f1_ f2_ f3_; have f4_ := f1_.symm; have f5_ := f3_.symm; clear f1_ f2_ f3_; subst f4_; subst f5_))
             refine norm_ (a' := ?_) ?_ ?_; rotate_left
             ·simp only [putAll, Act.put, List.setIfInBounds_toArray, List.set_cons_zero, List.set_cons_succ]
              rfl
             refine one_ (i := 9) (N := none) #[true, true, true, true, true, true, true, true, true, true, false] rfl rfl (one_of HT_.out (by kernel_rfl)) (by decide) (fun K hK => ?_)
             have hs194 : w193.cell? ⟨gb287, 0, none⟩ = some (.int .i16 0) := (blk_cell BK287.out 0).trans rfl
             have hfs194 := blk_frozen BK287.out 0
             have hns194_0 := NB221_287.out
             have hns194_1 := NB222_287.out
             have hns194_2 := NB238_287.out
             have hns194_3 := NB243_287.out
             have hns194_4 := NB248_287.out
             have hns194_5 := NB254_287.out
             have hms194_0 := NB287_221.out
             have hms194_1 := NB287_222.out
             have hms194_2 := NB287_238.out
             have hms194_3 := NB287_243.out
             have hms194_4 := NB287_248.out
             have hms194_5 := NB287_254.out
             have hs196 : w193.cell? ⟨gb287, 1, none⟩ = some (.slice none 0 0) := (blk_cell BK287.out 1).trans rfl
             have hfs196 := blk_frozen BK287.out 1
             have hns196_0 := NB221_287.out
             have hns196_1 := NB222_287.out
             have hns196_2 := NB238_287.out
             have hns196_3 := NB243_287.out
             have hns196_4 := NB248_287.out
             have hns196_5 := NB254_287.out
             have hms196_0 := NB287_221.out
             have hms196_1 := NB287_222.out
             have hms196_2 := NB287_238.out
             have hms196_3 := NB287_243.out
             have hms196_4 := NB287_248.out
             have hms196_5 := NB287_254.out
             refine skip_ (w1 := ?_) (by rfl) rfl ?_ ?_
             rotate_left
             ·go_simp
              rfl
             refine hK.out _ _ ⟨((cell_far (p := ⟨gb287, _, none⟩) NB221_287.out _).trans (((cell_far (p := ⟨gb287, _, none⟩) NB221_287.out _).trans (hHeld.1)))), ((cell_far (p := ⟨gb287, _, none⟩) NB221_287.out _).trans (((cell_far (p := ⟨gb287, _, none⟩) NB221_287.out _).trans (hHeld.2.1)))), ((cell_far (p := ⟨gb287, _, none⟩) NB222_287.out _).trans (((cell_far (p := ⟨gb287, _, none⟩) NB222_287.out _).trans (hHeld.2.2.1)))), ((cell_far (p := ⟨gb287, _, none⟩) NB222_287.out _).trans (((cell_far (p := ⟨gb287, _, none⟩) NB222_287.out _).trans (hHeld.2.2.2))))⟩ (fun hHeld => ?_)
             clear hK K
             refine pure_ (i := 10) (N := some 16) (v := ?_) (a' := ?_) #[true, true, true, true, true, true, true, true, true, true, true] rfl rfl (any_of HT_.out (by kernel_rfl)) (fun _ _ _ h => h) (Or.inl ⟨by rfl, ?_⟩) ?_ ?_
             rotate_left
             ·intro w'
              go_simp; with_reducible rfl
             rotate_left
             ·simp only [Act.put, List.setIfInBounds_toArray, List.set_cons_zero, List.set_cons_succ, i64_w, i32_w]
              rfl
             refine done_ (done_of HT_.out (by kernel_rfl)) ?_
             go_upto_region 32 with (fail)
             go_cut [110] (fun v110 wc => ∃ (kq : Nat) (x110_175 : Bool), v110 = .bool x110_175 ∧ Aside0 (laws_FnExactJoinPrograms.j2 kq t271 x110_175 t249 t272 = some r) ∧ Aside0 (kq ≤ kj109) ∧ Aside0 (Kd.R k125 125 wc w.heap.size (fun k_ => some k_ ≠ ((.slice Ao52 t267.length co52) : Value).ownBlock ∧ some k_ ≠ ((.slice Ao62 t269.length co62) : Value).ownBlock ∧ some k_ ≠ ((.slice Ao74 t250.length co74) : Value).ownBlock ∧ some k_ ≠ ((.slice Ao195 t283.length co195) : Value).ownBlock) (.slice Ao42 t234.length co42) t234) ∧ Aside0 (Kd.R k125 125 wc w.heap.size (fun k_ => some k_ ≠ ((.slice Ao42 t234.length co42) : Value).ownBlock ∧ some k_ ≠ ((.slice Ao62 t269.length co62) : Value).ownBlock ∧ some k_ ≠ ((.slice Ao74 t250.length co74) : Value).ownBlock ∧ some k_ ≠ ((.slice Ao195 t283.length co195) : Value).ownBlock) (.slice Ao52 t267.length co52) t267) ∧ Aside0 (Kd.R k125 125 wc w.heap.size (fun k_ => some k_ ≠ ((.slice Ao42 t234.length co42) : Value).ownBlock ∧ some k_ ≠ ((.slice Ao52 t267.length co52) : Value).ownBlock ∧ some k_ ≠ ((.slice Ao74 t250.length co74) : Value).ownBlock ∧ some k_ ≠ ((.slice Ao195 t283.length co195) : Value).ownBlock) (.slice Ao62 t269.length co62) t269) ∧ Aside0 (Kd.R k125 125 wc w.heap.size (fun k_ => some k_ ≠ ((.slice Ao42 t234.length co42) : Value).ownBlock ∧ some k_ ≠ ((.slice Ao52 t267.length co52) : Value).ownBlock ∧ some k_ ≠ ((.slice Ao62 t269.length co62) : Value).ownBlock ∧ some k_ ≠ ((.slice Ao195 t283.length co195) : Value).ownBlock) (.slice Ao74 t250.length co74) t272) ∧ Aside0 (Kd.R k125 125 wc w.heap.size (fun k_ => some k_ ≠ ((.slice Ao42 t234.length co42) : Value).ownBlock ∧ some k_ ≠ ((.slice Ao52 t267.length co52) : Value).ownBlock ∧ some k_ ≠ ((.slice Ao62 t269.length co62) : Value).ownBlock ∧ some k_ ≠ ((.slice Ao74 t250.length co74) : Value).ownBlock) (.slice Ao195 t283.length co195) t283) ∧ Aside0 (wc.heap[gb221]? = some (.cells #[.int .i16 a0_0, (.slice A0_1 l0_1.length c0_1)] 41 (0, 0))) ∧ Aside0 (wc.heap[gb222]? = some (.cells #[.int .i16 a1_0, (.slice A1_1 l1_1.length c1_1)] 41 (0, 0))) ∧ Aside0 (wc.heap[gb238]? = some (.cells #[.int .i16 t233, (.slice Ao42 t234.length co42)] 45 (0, 0))) ∧ Aside0 (wc.heap[gb243]? = some (.cells #[.int .i16 t239, (.slice Ao52 t267.length co52)] 45 (0, 0))) ∧ Aside0 (wc.heap[gb248]? = some (.cells #[.int .i16 t244, (.slice Ao62 t269.length co62)] 45 (0, 0))) ∧ Aside0 (wc.heap[gb254]? = some (.cells #[.int .i16 t249, (.slice Ao74 t250.length co74)] 45 (0, 0))) ∧ Aside0 (wc.heap[gb287]? = some (.cells #[.int .i16 t282, (.slice Ao195 t283.length co195)] 45 (0, 0))) ∧ Aside0 (Below w.heap.size w wc))
             case first =>
              have H := HC176.out
              clear HC176
              replace H := Option.bind_eq_some_iff.mp H
              obtain ⟨t288, A1970, H⟩ := H
              replace H : (if t288 = true then (laws_FnExactJoinPrograms.j2 kj109 t271 (t286 != t237) t249 t272) else (laws_FnExactJoinPrograms.j2 kj109 t271 true t249 t272)) = some r := H
              have A197 := Aside0.mk A1970
              clear A1970
              by_cases c198 : t288 = true
              ·subst c198
               have H1 : (laws_FnExactJoinPrograms.j2 kj109 t271 (t286 != t237) t249 t272) = some r := by rw [if_pos rfl] at H; exact H
               clear H
               have H := H1
               clear H1
               have H' := Aside0.mk H
               clear H
               have hnb199 := NB287_221.out
               have hnc199 := NB221_287.out
               have hnb200 := NB287_222.out
               have hnc200 := NB222_287.out
               have hnb201 := NB287_238.out
               have hnc201 := NB238_287.out
               have hnb202 := NB287_243.out
               have hnc202 := NB243_287.out
               have hnb203 := NB287_248.out
               have hnc203 := NB248_287.out
               have hnb204 := NB287_254.out
               have hnc204 := NB254_287.out
               have hcz205_0 : w193.cell? ⟨gb287, 0, none⟩ = some (.int .i16 0) := (blk_cell BK287.out 0).trans rfl
               have hcz205_1 : w193.cell? ⟨gb287, 1, none⟩ = some (.slice none 0 0) := (blk_cell BK287.out 1).trans rfl
               have hfz205_0 := blk_frozen BK287.out 0
               have hfz205_1 := blk_frozen BK287.out 1
               have hnb206 := NB238_221.out
               have hnc206 := NB221_238.out
               have hnb207 := NB238_222.out
               have hnc207 := NB222_238.out
               have hnb208 := NB238_243.out
               have hnc208 := NB243_238.out
               have hnb209 := NB238_248.out
               have hnc209 := NB248_238.out
               have hnb210 := NB238_254.out
               have hnc210 := NB254_238.out
               have hcz211_0 : w193.cell? ⟨gb238, 0, none⟩ = some (.int .i16 t233) := (blk_cell BK238.out 0).trans rfl
               have hcz211_1 : w193.cell? ⟨gb238, 1, none⟩ = some (.slice Ao42 t234.length co42) := (blk_cell BK238.out 1).trans rfl
               have hfz211_0 := blk_frozen BK238.out 0
               have hfz211_1 := blk_frozen BK238.out 1
               go_wp2_with (first | ((with_reducible refine gate_callee (f := 32) rfl ?_); refine goesL_ (some 104) rfl rfl Try.func32 (by kernel_rfl) rfl #[.agg #[.int .i16 t282, .slice Ao195 t283.length co195], .agg #[.int .i16 t233, .slice Ao42 t234.length co42]] rfl a6_ ?_; (with_reducible refine (laws_eqProgram.calls kj109 t282 _ _ t283 t233 _ _ t234 true _ ?side1 ?side2 ?side3 ?side4 A197.out).mono ?_); (case side1 => exact a105_); (case side2 => exact (Kd.R_reads' HO285.out).2.1); (case side3 => exact a104_); (case side4 => exact (Kd.R_reads' HO_239001.out).2.1); rintro e w212 ⟨rfl, hb⟩; refine ⟨_, rfl, ?_⟩; have n0_ := Aside0.mk (Kd.R_below a23_ hb); have n1_ := Aside0.mk (Kd.R_below a52_ hb); have n2_ := Aside0.mk (Kd.R_below a53_ hb); have n3_ := Aside0.mk (Kd.R_below a54_ hb); have n4_ := Aside0.mk (Kd.R_below a55_ hb); have n5_ := Aside0.mk (Kd.R_below a56_ hb); have n6_ := Aside0.mk (Kd.R_below a24_ hb); have n7_ := Aside0.mk (blk_below (g := gb221) (o := .cells #[.int .i16 a0_0, .slice A0_1 l0_1.length c0_1] 41 (0, 0)) a44_ hb); have n8_ := Aside0.mk (blk_below (g := gb222) (o := .cells #[.int .i16 a1_0, .slice A1_1 l1_1.length c1_1] 41 (0, 0)) a45_ hb); have n9_ := Aside0.mk (blk_below (g := gb238) (o := .cells #[.int .i16 t233, .slice Ao42 t234.length co42] 45 (0, 0)) a46_ hb); have n10_ := Aside0.mk (blk_below (g := gb243) (o := .cells #[.int .i16 t239, .slice Ao52 t267.length co52] 45 (0, 0)) a47_ hb); have n11_ := Aside0.mk (blk_below (g := gb248) (o := .cells #[.int .i16 t244, .slice Ao62 t269.length co62] 45 (0, 0)) a48_ hb); have n12_ := Aside0.mk (blk_below (g := gb254) (o := .cells #[.int .i16 t249, .slice Ao74 t250.length co74] 45 (0, 0)) a49_ hb); have n13_ := Aside0.mk (blk_below (g := gb287) (o := .cells #[.int .i16 t282, .slice Ao195 t283.length co195] 45 (0, 0)) a31_ hb); have n14_ := Aside0.mk (below_step a5_ hb); clear HO_239001; clear HO_244001; clear HO_249001; clear HO_255001; clear HO277; clear HO281; clear HO285; clear BK221; clear BK222; clear BK238; clear BK243; clear BK248; clear BK254; clear BK287; clear HB; have HO_239001 := n0_; have HO_244001 := n1_; have HO_249001 := n2_; have HO_255001 := n3_; have HO277 := n4_; have HO281 := n5_; have HO285 := n6_; have BK221 := n7_; have BK222 := n8_; have BK238 := n9_; have BK243 := n10_; have BK248 := n11_; have BK254 := n12_; have BK287 := n13_; have HB := n14_; clear n0_ n1_ n2_ n3_ n4_ n5_ n6_ n7_ n8_ n9_ n10_ n11_ n12_ n13_ n14_; (try clear hb); (try clear hb2); (try clear hk); (try clear hi)))
               go_meet
               case rel => exact ⟨_, ((t286 != t237)), a76_, H', ⟨by have := HJ24.out; have := HJ109.out; first | omega | exact Nat.le_refl _⟩, ⟨by (try simp only [hl244001_109]); (try simp only [hl249001_109]); (with_reducible repeat (first | apply Kd.R_alloc | apply Kd.R_drewN | apply Kd.R_drew)); exact Kd.R_mono HO_239001.out (fun _ hk => ⟨hk.2.2.2.1, ⟨hk.2.2.2.2.1, ⟨hk.2.2.2.2.2, hk.2.2.1⟩⟩⟩)⟩, ⟨by (try simp only [hl244001_109]); (try simp only [hl249001_109]); (with_reducible repeat (first | apply Kd.R_alloc | apply Kd.R_drewN | apply Kd.R_drew)); exact Kd.R_mono HO_244001.out (fun _ hk => ⟨hk.2.2.2.1, ⟨hk.2.2.2.2.1, ⟨hk.2.2.2.2.2, hk.2.2.1⟩⟩⟩)⟩, ⟨by (try simp only [hl244001_109]); (try simp only [hl249001_109]); (with_reducible repeat (first | apply Kd.R_alloc | apply Kd.R_drewN | apply Kd.R_drew)); exact Kd.R_mono HO_249001.out (fun _ hk => ⟨hk.2.2.2.1, ⟨hk.2.2.2.2.1, ⟨hk.2.2.2.2.2, hk.2.2.1⟩⟩⟩)⟩, ⟨by (try simp only [hl244001_109]); (try simp only [hl249001_109]); (with_reducible repeat (first | apply Kd.R_alloc | apply Kd.R_drewN | apply Kd.R_drew)); exact Kd.R_mono HO_255001.out (fun _ hk => ⟨hk.2.2.2.1, ⟨hk.2.2.2.2.1, ⟨hk.2.2.2.2.2, hk.2.2.1⟩⟩⟩)⟩, ⟨by (try simp only [hl244001_109]); (try simp only [hl249001_109]); (with_reducible repeat (first | apply Kd.R_alloc | apply Kd.R_drewN | apply Kd.R_drew)); exact Kd.R_mono HO285.out (fun _ hk => ⟨hk.2.2.1, ⟨hk.2.2.2.1, ⟨hk.2.2.2.2.1, hk.2.2.2.2.2⟩⟩⟩)⟩, ⟨by (try simp only [hl244001_109]); (try simp only [hl249001_109]); (with_reducible repeat (first | refine blk_drewN ?_ _ | refine blk_drew ?_ | refine blk_alloc ?_ _)); exact BK221.out⟩, ⟨by (try simp only [hl244001_109]); (try simp only [hl249001_109]); (with_reducible repeat (first | refine blk_drewN ?_ _ | refine blk_drew ?_ | refine blk_alloc ?_ _)); exact BK222.out⟩, ⟨by (try simp only [hl244001_109]); (try simp only [hl249001_109]); (with_reducible repeat (first | refine blk_drewN ?_ _ | refine blk_drew ?_ | refine blk_alloc ?_ _)); exact BK238.out⟩, ⟨by (try simp only [hl244001_109]); (try simp only [hl249001_109]); (with_reducible repeat (first | refine blk_drewN ?_ _ | refine blk_drew ?_ | refine blk_alloc ?_ _)); exact BK243.out⟩, ⟨by (try simp only [hl244001_109]); (try simp only [hl249001_109]); (with_reducible repeat (first | refine blk_drewN ?_ _ | refine blk_drew ?_ | refine blk_alloc ?_ _)); exact BK248.out⟩, ⟨by (try simp only [hl244001_109]); (try simp only [hl249001_109]); (with_reducible repeat (first | refine blk_drewN ?_ _ | refine blk_drew ?_ | refine blk_alloc ?_ _)); exact BK254.out⟩, ⟨by (try simp only [hl244001_109]); (try simp only [hl249001_109]); (with_reducible repeat (first | refine blk_drewN ?_ _ | refine blk_drew ?_ | refine blk_alloc ?_ _)); exact BK287.out⟩, ⟨by repeat (first | (with_reducible first | exact HB.out | apply below_alloc | apply pw_below_drewN | apply below_drew1 | refine below_set ?_ GE221.out | refine below_set ?_ GE222.out | refine below_set ?_ GE238.out | refine below_set ?_ GE243.out | refine below_set ?_ GE248.out | refine below_set ?_ GE254.out | refine below_set ?_ GE287.out) | exact HB.out)⟩⟩
              ·replace c198 := Bool.eq_false_iff.mpr c198
               subst c198
               have H1 : (laws_FnExactJoinPrograms.j2 kj109 t271 true t249 t272) = some r := by rw [if_neg (show ¬ (false = true) by decide)] at H; exact H
               clear H
               have H := H1
               clear H1
               have H' := Aside0.mk H
               clear H
               have hnb213 := NB287_221.out
               have hnc213 := NB221_287.out
               have hnb214 := NB287_222.out
               have hnc214 := NB222_287.out
               have hnb215 := NB287_238.out
               have hnc215 := NB238_287.out
               have hnb216 := NB287_243.out
               have hnc216 := NB243_287.out
               have hnb217 := NB287_248.out
               have hnc217 := NB248_287.out
               have hnb218 := NB287_254.out
               have hnc218 := NB254_287.out
               have hcz219_0 : w193.cell? ⟨gb287, 0, none⟩ = some (.int .i16 0) := (blk_cell BK287.out 0).trans rfl
               have hcz219_1 : w193.cell? ⟨gb287, 1, none⟩ = some (.slice none 0 0) := (blk_cell BK287.out 1).trans rfl
               have hfz219_0 := blk_frozen BK287.out 0
               have hfz219_1 := blk_frozen BK287.out 1
               have hnb220 := NB238_221.out
               have hnc220 := NB221_238.out
               have hnb221 := NB238_222.out
               have hnc221 := NB222_238.out
               have hnb222 := NB238_243.out
               have hnc222 := NB243_238.out
               have hnb223 := NB238_248.out
               have hnc223 := NB248_238.out
               have hnb224 := NB238_254.out
               have hnc224 := NB254_238.out
               have hcz225_0 : w193.cell? ⟨gb238, 0, none⟩ = some (.int .i16 t233) := (blk_cell BK238.out 0).trans rfl
               have hcz225_1 : w193.cell? ⟨gb238, 1, none⟩ = some (.slice Ao42 t234.length co42) := (blk_cell BK238.out 1).trans rfl
               have hfz225_0 := blk_frozen BK238.out 0
               have hfz225_1 := blk_frozen BK238.out 1
               go_wp2_with (first | ((with_reducible refine gate_callee (f := 32) rfl ?_); refine goesL_ (some 104) rfl rfl Try.func32 (by kernel_rfl) rfl #[.agg #[.int .i16 t282, .slice Ao195 t283.length co195], .agg #[.int .i16 t233, .slice Ao42 t234.length co42]] rfl a6_ ?_; (with_reducible refine (laws_eqProgram.calls kj109 t282 _ _ t283 t233 _ _ t234 false _ ?side1 ?side2 ?side3 ?side4 A197.out).mono ?_); (case side1 => exact a105_); (case side2 => exact (Kd.R_reads' HO285.out).2.1); (case side3 => exact a104_); (case side4 => exact (Kd.R_reads' HO_239001.out).2.1); rintro e w226 ⟨rfl, hb⟩; refine ⟨_, rfl, ?_⟩; have n0_ := Aside0.mk (Kd.R_below a23_ hb); have n1_ := Aside0.mk (Kd.R_below a52_ hb); have n2_ := Aside0.mk (Kd.R_below a53_ hb); have n3_ := Aside0.mk (Kd.R_below a54_ hb); have n4_ := Aside0.mk (Kd.R_below a55_ hb); have n5_ := Aside0.mk (Kd.R_below a56_ hb); have n6_ := Aside0.mk (Kd.R_below a24_ hb); have n7_ := Aside0.mk (blk_below (g := gb221) (o := .cells #[.int .i16 a0_0, .slice A0_1 l0_1.length c0_1] 41 (0, 0)) a44_ hb); have n8_ := Aside0.mk (blk_below (g := gb222) (o := .cells #[.int .i16 a1_0, .slice A1_1 l1_1.length c1_1] 41 (0, 0)) a45_ hb); have n9_ := Aside0.mk (blk_below (g := gb238) (o := .cells #[.int .i16 t233, .slice Ao42 t234.length co42] 45 (0, 0)) a46_ hb); have n10_ := Aside0.mk (blk_below (g := gb243) (o := .cells #[.int .i16 t239, .slice Ao52 t267.length co52] 45 (0, 0)) a47_ hb); have n11_ := Aside0.mk (blk_below (g := gb248) (o := .cells #[.int .i16 t244, .slice Ao62 t269.length co62] 45 (0, 0)) a48_ hb); have n12_ := Aside0.mk (blk_below (g := gb254) (o := .cells #[.int .i16 t249, .slice Ao74 t250.length co74] 45 (0, 0)) a49_ hb); have n13_ := Aside0.mk (blk_below (g := gb287) (o := .cells #[.int .i16 t282, .slice Ao195 t283.length co195] 45 (0, 0)) a31_ hb); have n14_ := Aside0.mk (below_step a5_ hb); clear HO_239001; clear HO_244001; clear HO_249001; clear HO_255001; clear HO277; clear HO281; clear HO285; clear BK221; clear BK222; clear BK238; clear BK243; clear BK248; clear BK254; clear BK287; clear HB; have HO_239001 := n0_; have HO_244001 := n1_; have HO_249001 := n2_; have HO_255001 := n3_; have HO277 := n4_; have HO281 := n5_; have HO285 := n6_; have BK221 := n7_; have BK222 := n8_; have BK238 := n9_; have BK243 := n10_; have BK248 := n11_; have BK254 := n12_; have BK287 := n13_; have HB := n14_; clear n0_ n1_ n2_ n3_ n4_ n5_ n6_ n7_ n8_ n9_ n10_ n11_ n12_ n13_ n14_; (try clear hb); (try clear hb2); (try clear hk); (try clear hi)))
               go_meet
               case rel => exact ⟨_, (true), a76_, H', ⟨by have := HJ24.out; have := HJ109.out; first | omega | exact Nat.le_refl _⟩, ⟨by (try simp only [hl244001_109]); (try simp only [hl249001_109]); (with_reducible repeat (first | apply Kd.R_alloc | apply Kd.R_drewN | apply Kd.R_drew)); exact Kd.R_mono HO_239001.out (fun _ hk => ⟨hk.2.2.2.1, ⟨hk.2.2.2.2.1, ⟨hk.2.2.2.2.2, hk.2.2.1⟩⟩⟩)⟩, ⟨by (try simp only [hl244001_109]); (try simp only [hl249001_109]); (with_reducible repeat (first | apply Kd.R_alloc | apply Kd.R_drewN | apply Kd.R_drew)); exact Kd.R_mono HO_244001.out (fun _ hk => ⟨hk.2.2.2.1, ⟨hk.2.2.2.2.1, ⟨hk.2.2.2.2.2, hk.2.2.1⟩⟩⟩)⟩, ⟨by (try simp only [hl244001_109]); (try simp only [hl249001_109]); (with_reducible repeat (first | apply Kd.R_alloc | apply Kd.R_drewN | apply Kd.R_drew)); exact Kd.R_mono HO_249001.out (fun _ hk => ⟨hk.2.2.2.1, ⟨hk.2.2.2.2.1, ⟨hk.2.2.2.2.2, hk.2.2.1⟩⟩⟩)⟩, ⟨by (try simp only [hl244001_109]); (try simp only [hl249001_109]); (with_reducible repeat (first | apply Kd.R_alloc | apply Kd.R_drewN | apply Kd.R_drew)); exact Kd.R_mono HO_255001.out (fun _ hk => ⟨hk.2.2.2.1, ⟨hk.2.2.2.2.1, ⟨hk.2.2.2.2.2, hk.2.2.1⟩⟩⟩)⟩, ⟨by (try simp only [hl244001_109]); (try simp only [hl249001_109]); (with_reducible repeat (first | apply Kd.R_alloc | apply Kd.R_drewN | apply Kd.R_drew)); exact Kd.R_mono HO285.out (fun _ hk => ⟨hk.2.2.1, ⟨hk.2.2.2.1, ⟨hk.2.2.2.2.1, hk.2.2.2.2.2⟩⟩⟩)⟩, ⟨by (try simp only [hl244001_109]); (try simp only [hl249001_109]); (with_reducible repeat (first | refine blk_drewN ?_ _ | refine blk_drew ?_ | refine blk_alloc ?_ _)); exact BK221.out⟩, ⟨by (try simp only [hl244001_109]); (try simp only [hl249001_109]); (with_reducible repeat (first | refine blk_drewN ?_ _ | refine blk_drew ?_ | refine blk_alloc ?_ _)); exact BK222.out⟩, ⟨by (try simp only [hl244001_109]); (try simp only [hl249001_109]); (with_reducible repeat (first | refine blk_drewN ?_ _ | refine blk_drew ?_ | refine blk_alloc ?_ _)); exact BK238.out⟩, ⟨by (try simp only [hl244001_109]); (try simp only [hl249001_109]); (with_reducible repeat (first | refine blk_drewN ?_ _ | refine blk_drew ?_ | refine blk_alloc ?_ _)); exact BK243.out⟩, ⟨by (try simp only [hl244001_109]); (try simp only [hl249001_109]); (with_reducible repeat (first | refine blk_drewN ?_ _ | refine blk_drew ?_ | refine blk_alloc ?_ _)); exact BK248.out⟩, ⟨by (try simp only [hl244001_109]); (try simp only [hl249001_109]); (with_reducible repeat (first | refine blk_drewN ?_ _ | refine blk_drew ?_ | refine blk_alloc ?_ _)); exact BK254.out⟩, ⟨by (try simp only [hl244001_109]); (try simp only [hl249001_109]); (with_reducible repeat (first | refine blk_drewN ?_ _ | refine blk_drew ?_ | refine blk_alloc ?_ _)); exact BK287.out⟩, ⟨by repeat (first | (with_reducible first | exact HB.out | apply below_alloc | apply pw_below_drewN | apply below_drew1 | refine below_set ?_ GE221.out | refine below_set ?_ GE222.out | refine below_set ?_ GE238.out | refine below_set ?_ GE243.out | refine below_set ?_ GE248.out | refine below_set ?_ GE254.out | refine below_set ?_ GE287.out) | exact HB.out)⟩⟩
             case rest =>
              clear HC176
              try clear c1
              try clear c2
              try clear p2
              try clear c3
              try clear c19
              try clear c20
              try clear c21
              try clear c22
              try clear c30
              try clear c32
              try clear c36
              try clear c198
              try clear c199
              try clear c200
              try clear c201
              try clear c202
              try clear c203
              try clear c204
              try clear c206
              try clear c207
              try clear c208
              try clear c209
              try clear c210
              try clear c213
              try clear c214
              try clear c215
              try clear c216
              try clear c217
              try clear c218
              try clear c220
              try clear c221
              try clear c222
              try clear c223
              try clear c224
              try clear hcz205_0
              try clear hcz205_1
              try clear hcz211_0
              try clear hcz211_1
              try clear hcz219_0
              try clear hcz219_1
              try clear hcz225_0
              try clear hcz225_1
              try clear hfz205_0
              try clear hfz205_1
              try clear hfz211_0
              try clear hfz211_1
              try clear hfz219_0
              try clear hfz219_1
              try clear hfz225_0
              try clear hfz225_1
              obtain ⟨kq, x110_175, rfl, HA, HJ175, HO_239001, HO_244001, HO_249001, HO_255001, HO_288001, BK221, BK222, BK238, BK243, BK248, BK254, BK287, HB⟩ := hcut
              have hl255001_175 := (Kd.R_reads' HO_255001.out).1
              rw [hl255001_175] at HO_255001
              (try simp only [hl255001_175])
              (try simp only [hl255001_175] at BK221)
              (try simp only [hl255001_175] at BK222)
              (try simp only [hl255001_175] at BK238)
              (try simp only [hl255001_175] at BK243)
              (try simp only [hl255001_175] at BK248)
              (try simp only [hl255001_175] at BK254)
              (try simp only [hl255001_175] at BK287)
              (try simp only [hl255001_175] at HO_239001)
              (try simp only [hl255001_175] at HO_244001)
              (try simp only [hl255001_175] at HO_249001)
              (try simp only [hl255001_175] at HO_288001)
              cases kq with
              | zero => exact absurd HA.out (by simp [laws_FnExactJoinPrograms.j2])
              | succ kj175 =>
               have H := HA.out
               clear HA
               simp only [laws_FnExactJoinPrograms.j2] at H
               by_cases c227 : x110_175 = true
               ·subst c227
                have H1 : (some false) = some r := by rw [if_pos rfl] at H; exact H
                clear H
                have H := H1
                clear H1
                obtain rfl := Option.some.inj H
                go_wp2
                go_ret
                exact ⟨by first | rfl | (simp [errW_none, errW_some] <;> rfl) | (simp [*, errW_none, errW_some] <;> rfl), by repeat (first | (with_reducible first | exact HB.out | apply below_alloc | apply pw_below_drewN | apply below_drew1 | refine below_set ?_ GE221.out | refine below_set ?_ GE222.out | refine below_set ?_ GE238.out | refine below_set ?_ GE243.out | refine below_set ?_ GE248.out | refine below_set ?_ GE254.out | refine below_set ?_ GE287.out) | exact HB.out)⟩
               ·replace c227 := Bool.eq_false_iff.mpr c227
                subst c227
                have H1 : ((laws_heldProgram.f kj175 t249 t272 1).bind fun t289 => (if t289 < 0 then (some false) else (if t289 = t271 then (some true) else (some false)))) = some r := by rw [if_neg (show ¬ (false = true) by decide)] at H; exact H
                clear H
                have H := H1
                clear H1
                replace H := Option.bind_eq_some_iff.mp H
                obtain ⟨t289, A2280, H⟩ := H
                replace H : (if t289 < 0 then (some false) else (if t289 = t271 then (some true) else (some false))) = some r := H
                have A228 := Aside0.mk A2280
                clear A2280
                by_cases c229 : t289 < 0
                ·rw [if_pos c229] at H
                 have c229b0 : decide (t289 < 0) = true := decide_eq_true c229
                 clear c229
                 obtain rfl := Option.some.inj H
                 have hnb230 := NB254_221.out
                 have hnc230 := NB221_254.out
                 have hnb231 := NB254_222.out
                 have hnc231 := NB222_254.out
                 have hnb232 := NB254_238.out
                 have hnc232 := NB238_254.out
                 have hnb233 := NB254_243.out
                 have hnc233 := NB243_254.out
                 have hnb234 := NB254_248.out
                 have hnc234 := NB248_254.out
                 have hnb235 := NB254_287.out
                 have hnc235 := NB287_254.out
                 have hcz236_0 : wc.cell? ⟨gb254, 0, none⟩ = some (.int .i16 t249) := (blk_cell BK254.out 0).trans rfl
                 have hcz236_1 : wc.cell? ⟨gb254, 1, none⟩ = some (.slice Ao74 t272.length co74) := (blk_cell BK254.out 1).trans rfl
                 have hfz236_0 := blk_frozen BK254.out 0
                 have hfz236_1 := blk_frozen BK254.out 1
                 go_wp2_with (first | ((with_reducible refine gate_callee (f := 34) rfl ?_); refine goesL_ (some 113) rfl rfl Try.func34 (by kernel_rfl) rfl #[.agg #[.int .i16 t249, .slice Ao74 t272.length co74], .int .i64 1] rfl a6_ ?_; (with_reducible refine (laws_heldProgram.calls kj175 t249 _ _ t272 1 t289 _ ?side1 ?side2 A228.out).mono ?_); (case side1 => exact a98_); (case side2 => exact (Kd.R_reads' HO_255001.out).2.1); rintro e w237 ⟨rfl, hb⟩; refine ⟨_, rfl, ?_⟩; have n0_ := Aside0.mk (Kd.R_below a11_ hb); have n1_ := Aside0.mk (Kd.R_below a12_ hb); have n2_ := Aside0.mk (Kd.R_below a13_ hb); have n3_ := Aside0.mk (Kd.R_below a14_ hb); have n4_ := Aside0.mk (Kd.R_below a75_ hb); have n5_ := Aside0.mk (blk_below (g := gb221) a2_ hb); have n6_ := Aside0.mk (blk_below (g := gb222) a3_ hb); have n7_ := Aside0.mk (blk_below (g := gb238) a4_ hb); have n8_ := Aside0.mk (blk_below (g := gb243) a7_ hb); have n9_ := Aside0.mk (blk_below (g := gb248) a8_ hb); have n10_ := Aside0.mk (blk_below (g := gb254) a9_ hb); have n11_ := Aside0.mk (blk_below (g := gb287) a21_ hb); have n12_ := Aside0.mk (below_step a5_ hb); clear HO_239001; clear HO_244001; clear HO_249001; clear HO_255001; clear HO_288001; clear BK221; clear BK222; clear BK238; clear BK243; clear BK248; clear BK254; clear BK287; clear HB; have HO_239001 := n0_; have HO_244001 := n1_; have HO_249001 := n2_; have HO_255001 := n3_; have HO_288001 := n4_; have BK221 := n5_; have BK222 := n6_; have BK238 := n7_; have BK243 := n8_; have BK248 := n9_; have BK254 := n10_; have BK287 := n11_; have HB := n12_; clear n0_ n1_ n2_ n3_ n4_ n5_ n6_ n7_ n8_ n9_ n10_ n11_ n12_; (try clear hb); (try clear hb2); (try clear hk); (try clear hi)))
                 go_ret
                 exact ⟨by first | rfl | (simp [errW_none, errW_some] <;> rfl) | (simp [*, errW_none, errW_some] <;> rfl), by repeat (first | (with_reducible first | exact HB.out | apply below_alloc | apply pw_below_drewN | apply below_drew1 | refine below_set ?_ GE221.out | refine below_set ?_ GE222.out | refine below_set ?_ GE238.out | refine below_set ?_ GE243.out | refine below_set ?_ GE248.out | refine below_set ?_ GE254.out | refine below_set ?_ GE287.out) | exact HB.out)⟩
                ·rw [if_neg c229] at H
                 have c229b0 : decide (t289 < 0) = false := decide_eq_false c229
                 clear c229
                 by_cases c238 : t289 = t271
                 ·rw [if_pos c238] at H
                  have c238b0 : (t289 == t271) = true := beq_iff_eq.mpr c238
                  have c238b1 : (t289 != t271) = false := bne_eq_false_iff_eq.mpr c238
                  clear c238
                  obtain rfl := Option.some.inj H
                  have hnb239 := NB254_221.out
                  have hnc239 := NB221_254.out
                  have hnb240 := NB254_222.out
                  have hnc240 := NB222_254.out
                  have hnb241 := NB254_238.out
                  have hnc241 := NB238_254.out
                  have hnb242 := NB254_243.out
                  have hnc242 := NB243_254.out
                  have hnb243 := NB254_248.out
                  have hnc243 := NB248_254.out
                  have hnb244 := NB254_287.out
                  have hnc244 := NB287_254.out
                  have hcz245_0 : wc.cell? ⟨gb254, 0, none⟩ = some (.int .i16 t249) := (blk_cell BK254.out 0).trans rfl
                  have hcz245_1 : wc.cell? ⟨gb254, 1, none⟩ = some (.slice Ao74 t272.length co74) := (blk_cell BK254.out 1).trans rfl
                  have hfz245_0 := blk_frozen BK254.out 0
                  have hfz245_1 := blk_frozen BK254.out 1
                  go_wp2_with (first | ((with_reducible refine gate_callee (f := 34) rfl ?_); refine goesL_ (some 113) rfl rfl Try.func34 (by kernel_rfl) rfl #[.agg #[.int .i16 t249, .slice Ao74 t272.length co74], .int .i64 1] rfl a6_ ?_; (with_reducible refine (laws_heldProgram.calls kj175 t249 _ _ t272 1 t289 _ ?side1 ?side2 A228.out).mono ?_); (case side1 => exact a98_); (case side2 => exact (Kd.R_reads' HO_255001.out).2.1); rintro e w246 ⟨rfl, hb⟩; refine ⟨_, rfl, ?_⟩; have n0_ := Aside0.mk (Kd.R_below a11_ hb); have n1_ := Aside0.mk (Kd.R_below a12_ hb); have n2_ := Aside0.mk (Kd.R_below a13_ hb); have n3_ := Aside0.mk (Kd.R_below a14_ hb); have n4_ := Aside0.mk (Kd.R_below a75_ hb); have n5_ := Aside0.mk (blk_below (g := gb221) a2_ hb); have n6_ := Aside0.mk (blk_below (g := gb222) a3_ hb); have n7_ := Aside0.mk (blk_below (g := gb238) a4_ hb); have n8_ := Aside0.mk (blk_below (g := gb243) a7_ hb); have n9_ := Aside0.mk (blk_below (g := gb248) a8_ hb); have n10_ := Aside0.mk (blk_below (g := gb254) a9_ hb); have n11_ := Aside0.mk (blk_below (g := gb287) a21_ hb); have n12_ := Aside0.mk (below_step a5_ hb); clear HO_239001; clear HO_244001; clear HO_249001; clear HO_255001; clear HO_288001; clear BK221; clear BK222; clear BK238; clear BK243; clear BK248; clear BK254; clear BK287; clear HB; have HO_239001 := n0_; have HO_244001 := n1_; have HO_249001 := n2_; have HO_255001 := n3_; have HO_288001 := n4_; have BK221 := n5_; have BK222 := n6_; have BK238 := n7_; have BK243 := n8_; have BK248 := n9_; have BK254 := n10_; have BK287 := n11_; have HB := n12_; clear n0_ n1_ n2_ n3_ n4_ n5_ n6_ n7_ n8_ n9_ n10_ n11_ n12_; (try clear hb); (try clear hb2); (try clear hk); (try clear hi)))
                  go_ret
                  exact ⟨by first | rfl | (simp [errW_none, errW_some] <;> rfl) | (simp [*, errW_none, errW_some] <;> rfl), by repeat (first | (with_reducible first | exact HB.out | apply below_alloc | apply pw_below_drewN | apply below_drew1 | refine below_set ?_ GE221.out | refine below_set ?_ GE222.out | refine below_set ?_ GE238.out | refine below_set ?_ GE243.out | refine below_set ?_ GE248.out | refine below_set ?_ GE254.out | refine below_set ?_ GE287.out) | exact HB.out)⟩
                 ·rw [if_neg c238] at H
                  have c238b0 : (t289 == t271) = false := beq_eq_false_iff_ne.mpr c238
                  have c238b1 : (t289 != t271) = true := bne_iff_ne.mpr c238
                  obtain rfl := Option.some.inj H
                  have hnb247 := NB254_221.out
                  have hnc247 := NB221_254.out
                  have hnb248 := NB254_222.out
                  have hnc248 := NB222_254.out
                  have hnb249 := NB254_238.out
                  have hnc249 := NB238_254.out
                  have hnb250 := NB254_243.out
                  have hnc250 := NB243_254.out
                  have hnb251 := NB254_248.out
                  have hnc251 := NB248_254.out
                  have hnb252 := NB254_287.out
                  have hnc252 := NB287_254.out
                  have hcz253_0 : wc.cell? ⟨gb254, 0, none⟩ = some (.int .i16 t249) := (blk_cell BK254.out 0).trans rfl
                  have hcz253_1 : wc.cell? ⟨gb254, 1, none⟩ = some (.slice Ao74 t272.length co74) := (blk_cell BK254.out 1).trans rfl
                  have hfz253_0 := blk_frozen BK254.out 0
                  have hfz253_1 := blk_frozen BK254.out 1
                  go_wp2_with (first | ((with_reducible refine gate_callee (f := 34) rfl ?_); refine goesL_ (some 113) rfl rfl Try.func34 (by kernel_rfl) rfl #[.agg #[.int .i16 t249, .slice Ao74 t272.length co74], .int .i64 1] rfl a6_ ?_; (with_reducible refine (laws_heldProgram.calls kj175 t249 _ _ t272 1 t289 _ ?side1 ?side2 A228.out).mono ?_); (case side1 => exact a98_); (case side2 => exact (Kd.R_reads' HO_255001.out).2.1); rintro e w254 ⟨rfl, hb⟩; refine ⟨_, rfl, ?_⟩; have n0_ := Aside0.mk (Kd.R_below a11_ hb); have n1_ := Aside0.mk (Kd.R_below a12_ hb); have n2_ := Aside0.mk (Kd.R_below a13_ hb); have n3_ := Aside0.mk (Kd.R_below a14_ hb); have n4_ := Aside0.mk (Kd.R_below a75_ hb); have n5_ := Aside0.mk (blk_below (g := gb221) a2_ hb); have n6_ := Aside0.mk (blk_below (g := gb222) a3_ hb); have n7_ := Aside0.mk (blk_below (g := gb238) a4_ hb); have n8_ := Aside0.mk (blk_below (g := gb243) a7_ hb); have n9_ := Aside0.mk (blk_below (g := gb248) a8_ hb); have n10_ := Aside0.mk (blk_below (g := gb254) a9_ hb); have n11_ := Aside0.mk (blk_below (g := gb287) a21_ hb); have n12_ := Aside0.mk (below_step a5_ hb); clear HO_239001; clear HO_244001; clear HO_249001; clear HO_255001; clear HO_288001; clear BK221; clear BK222; clear BK238; clear BK243; clear BK248; clear BK254; clear BK287; clear HB; have HO_239001 := n0_; have HO_244001 := n1_; have HO_249001 := n2_; have HO_255001 := n3_; have HO_288001 := n4_; have BK221 := n5_; have BK222 := n6_; have BK238 := n7_; have BK243 := n8_; have BK248 := n9_; have BK254 := n10_; have BK287 := n11_; have HB := n12_; clear n0_ n1_ n2_ n3_ n4_ n5_ n6_ n7_ n8_ n9_ n10_ n11_ n12_; (try clear hb); (try clear hb2); (try clear hk); (try clear hi)))
                  go_ret
                  exact ⟨by first | rfl | (simp [errW_none, errW_some] <;> rfl) | (simp [*, errW_none, errW_some] <;> rfl), by repeat (first | (with_reducible first | exact HB.out | apply below_alloc | apply pw_below_drewN | apply below_drew1 | refine below_set ?_ GE221.out | refine below_set ?_ GE222.out | refine below_set ?_ GE238.out | refine below_set ?_ GE243.out | refine below_set ?_ GE248.out | refine below_set ?_ GE254.out | refine below_set ?_ GE287.out) | exact HB.out)⟩
            ·rw [if_neg c172] at H
             have c172b0 : (t273 == t271) = false := beq_eq_false_iff_ne.mpr c172
             have c172b1 : (t273 != t271) = true := bne_iff_ne.mpr c172
             obtain rfl := Option.some.inj H
             have hnb255 := NB254_221.out
             have hnc255 := NB221_254.out
             have hnb256 := NB254_222.out
             have hnc256 := NB222_254.out
             have hnb257 := NB254_238.out
             have hnc257 := NB238_254.out
             have hnb258 := NB254_243.out
             have hnc258 := NB243_254.out
             have hnb259 := NB254_248.out
             have hnc259 := NB248_254.out
             have hcz260_0 : wc.cell? ⟨gb254, 0, none⟩ = some (.int .i16 t249) := (blk_cell BK254.out 0).trans rfl
             have hcz260_1 : wc.cell? ⟨gb254, 1, none⟩ = some (.slice Ao74 t250.length co74) := (blk_cell BK254.out 1).trans rfl
             have hfz260_0 := blk_frozen BK254.out 0
             have hfz260_1 := blk_frozen BK254.out 1
             go_wp2_with (first | ((with_reducible refine gate_callee (f := 33) rfl ?_); refine goesL_ (some 85) rfl rfl Try.func33 (by kernel_rfl) rfl #[.agg #[.int .i16 t249, .slice Ao74 t250.length co74], .int .i64 1] rfl a6_ ?_; (with_reducible refine (laws_markProgram.calls kj109 t249 (fun k_ => some k_ = (.slice Ao74 t250.length co74 : Value).ownBlock) (.slice Ao74 t250.length co74) t250 1 t271 t272 w _ ?side1 ?side2 A160.out).mono ?_); (case side1 => exact a97_); (case side2 => exact Kd.R_tight rfl HO_255001.out); rintro e w261 ⟨rfl, hy0, hb, hkp⟩; refine ⟨_, rfl, ?_⟩; have n0_ := Aside0.mk (Kd.R_mono (ok' := fun k_ => nbk k_ Ao52 t267.length co52 ∧ nbk k_ Ao62 t269.length co62 ∧ nbk k_ Ao74 t250.length co74) (Kd.R_keptB (HO_239001.out) hkp (fun k_ hk_ hs_ => (hk_.2.2) hs_)) (fun k_ hk_ => ⟨hk_.1.1, hk_.1.2.1, hk_.1.2.2⟩)); have n1_ := Aside0.mk (Kd.R_mono (ok' := fun k_ => nbk k_ Ao42 t234.length co42 ∧ nbk k_ Ao62 t269.length co62 ∧ nbk k_ Ao74 t250.length co74) (Kd.R_keptB (HO_244001.out) hkp (fun k_ hk_ hs_ => (hk_.2.2) hs_)) (fun k_ hk_ => ⟨hk_.1.1, hk_.1.2.1, hk_.1.2.2⟩)); have n2_ := Aside0.mk (Kd.R_mono (ok' := fun k_ => nbk k_ Ao42 t234.length co42 ∧ nbk k_ Ao52 t267.length co52 ∧ nbk k_ Ao74 t250.length co74) (Kd.R_keptB (HO_249001.out) hkp (fun k_ hk_ hs_ => (hk_.2.2) hs_)) (fun k_ hk_ => ⟨hk_.1.1, hk_.1.2.1, hk_.1.2.2⟩)); have n3_ := Aside0.mk (Kd.R_reok rfl hy0 (fun k_ e_ => HO_255001.out.1 k_ e_)); have n4_ := Aside0.mk (blk_kept a2_ hkp (fun hs_ => (fun e_ => (Kd.R_ne HO_255001.out BK221.out (by decide)) e_) hs_)); have n5_ := Aside0.mk (blk_kept a3_ hkp (fun hs_ => (fun e_ => (Kd.R_ne HO_255001.out BK222.out (by decide)) e_) hs_)); have n6_ := Aside0.mk (blk_kept a4_ hkp (fun hs_ => (fun e_ => (Kd.R_ne HO_255001.out BK238.out (by decide)) e_) hs_)); have n7_ := Aside0.mk (blk_kept a7_ hkp (fun hs_ => (fun e_ => (Kd.R_ne HO_255001.out BK243.out (by decide)) e_) hs_)); have n8_ := Aside0.mk (blk_kept a8_ hkp (fun hs_ => (fun e_ => (Kd.R_ne HO_255001.out BK248.out (by decide)) e_) hs_)); have n9_ := Aside0.mk (blk_kept a9_ hkp (fun hs_ => (fun e_ => (Kd.R_ne HO_255001.out BK254.out (by decide)) e_) hs_)); have n10_ := Aside0.mk (hb); clear HO_239001; clear HO_244001; clear HO_249001; clear HO_255001; clear BK221; clear BK222; clear BK238; clear BK243; clear BK248; clear BK254; clear HB; have HO_239001 := n0_; have HO_244001 := n1_; have HO_249001 := n2_; have HO_255001 := n3_; have BK221 := n4_; have BK222 := n5_; have BK238 := n6_; have BK243 := n7_; have BK248 := n8_; have BK254 := n9_; have HB := n10_; clear n0_ n1_ n2_ n3_ n4_ n5_ n6_ n7_ n8_ n9_ n10_; (try clear hb); (try clear hkp); (try clear hy0); have hcz262_0 : w261.cell? ⟨gb254, 0, none⟩ = some (.int .i16 t249) := (blk_cell BK254.out 0).trans rfl; have hcz262_1 : w261.cell? ⟨gb254, 1, none⟩ = some (.slice Ao74 t250.length co74) := (blk_cell BK254.out 1).trans rfl; have hfz262_0 := blk_frozen BK254.out 0; have hfz262_1 := blk_frozen BK254.out 1) | ((with_reducible refine gate_callee (f := 34) rfl ?_); refine goesL_ (some 88) rfl rfl Try.func34 (by kernel_rfl) rfl #[.agg #[.int .i16 t249, .slice Ao74 t272.length co74], .int .i64 1] rfl a51_ ?_; (with_reducible refine (laws_heldProgram.calls kj109 t249 _ _ t272 1 t273 _ ?side1 ?side2 A161.out).mono ?_); (case side1 => exact a98_); (case side2 => exact a113_); rintro e w263 ⟨rfl, hb⟩; refine ⟨_, rfl, ?_⟩; have n0_ := Aside0.mk (Kd.R_below a11_ hb); have n1_ := Aside0.mk (Kd.R_below a12_ hb); have n2_ := Aside0.mk (Kd.R_below a13_ hb); have n3_ := Aside0.mk (Kd.R_below a14_ hb); have n4_ := Aside0.mk (blk_below (g := gb221) a2_ hb); have n5_ := Aside0.mk (blk_below (g := gb222) a3_ hb); have n6_ := Aside0.mk (blk_below (g := gb238) a4_ hb); have n7_ := Aside0.mk (blk_below (g := gb243) a7_ hb); have n8_ := Aside0.mk (blk_below (g := gb248) a8_ hb); have n9_ := Aside0.mk (blk_below (g := gb254) a9_ hb); have n10_ := Aside0.mk (below_step a1_ hb); clear HO_239001; clear HO_244001; clear HO_249001; clear HO_255001; clear BK221; clear BK222; clear BK238; clear BK243; clear BK248; clear BK254; clear HB; have HO_239001 := n0_; have HO_244001 := n1_; have HO_249001 := n2_; have HO_255001 := n3_; have BK221 := n4_; have BK222 := n5_; have BK238 := n6_; have BK243 := n7_; have BK248 := n8_; have BK254 := n9_; have HB := n10_; clear n0_ n1_ n2_ n3_ n4_ n5_ n6_ n7_ n8_ n9_ n10_; (try clear hb); (try clear hb2); (try clear hk); (try clear hi)))
             go_ret
             exact ⟨by first | rfl | (simp [errW_none, errW_some] <;> rfl) | (simp [*, errW_none, errW_some] <;> rfl), by repeat (first | (with_reducible first | exact HB.out | apply below_alloc | apply pw_below_drewN | apply below_drew1 | refine below_set ?_ GE221.out | refine below_set ?_ GE222.out | refine below_set ?_ GE238.out | refine below_set ?_ GE243.out | refine below_set ?_ GE248.out | refine below_set ?_ GE254.out) | exact HB.out)⟩
       ·replace c107 := Bool.eq_false_iff.mpr c107
        subst c107
        have H1 : (some false) = some r := by rw [if_neg (show ¬ (false = true) by decide)] at H; exact H
        clear H
        have H := H1
        clear H1
        obtain rfl := Option.some.inj H
        try go_wp2
        have n0_ := Aside0.mk (Kd.R_drew HO_239001.out)
        have n1_ := Aside0.mk (Kd.R_drew HO_244001.out)
        have n2_ := Aside0.mk (Kd.R_drew HO_249001.out)
        have n3_ := Aside0.mk (Kd.R_drew HO_255001.out)
        have n4_ := Aside0.mk (blk_drew BK221.out)
        have n5_ := Aside0.mk (blk_drew BK222.out)
        have n6_ := Aside0.mk (blk_drew BK238.out)
        have n7_ := Aside0.mk (blk_drew BK243.out)
        have n8_ := Aside0.mk (blk_drew BK248.out)
        have n9_ := Aside0.mk (blk_drew BK254.out)
        have n10_ := Aside0.mk (below_drew1 HB.out)
        clear HO_239001 HO_244001 HO_249001 HO_255001 BK221 BK222 BK238 BK243 BK248 BK254 HB; have HO_239001 := n0_; have HO_244001 := n1_; have HO_249001 := n2_; have HO_255001 := n3_; have BK221 := n4_; have BK222 := n5_; have BK238 := n6_; have BK243 := n7_; have BK248 := n8_; have BK254 := n9_; have HB := n10_; clear n0_ n1_ n2_ n3_ n4_ n5_ n6_ n7_ n8_ n9_ n10_
        refine start_ (n := 5) (S := fun w' => w'.cell? ⟨gb243, 0, none⟩ = some (.int .i16 t239) ∧ w'.cell? ⟨gb243, 1, none⟩ = some (.slice Ao52 t240.length co52) ∧ w'.cell? ⟨gb221, 0, none⟩ = some (.int .i16 a0_0) ∧ w'.cell? ⟨gb221, 1, none⟩ = some (.slice A0_1 l0_1.length c0_1)) (ds := []) #[false, false, false, false, false] (by kernel_rfl) rfl rfl ⟨(blk_cell BK243.out 0).trans rfl, (blk_cell BK243.out 1).trans rfl, (blk_cell BK221.out 0).trans rfl, (blk_cell BK221.out 1).trans rfl⟩ (fun hHeld => ?_)
        generalize wc.drew = w264 at HO_239001 HO_244001 HO_249001 HO_255001 BK221 BK222 BK238 BK243 BK248 BK254 HB hHeld ⊢
        refine take_ (i := 0) (N := some 54) (v := ?_) (a' := ?_) #[true, false, false, false, false] rfl rfl (by kernel_rfl) (fun _ _ _ h => h) (Or.inl ⟨by rfl, ?_⟩) hHeld ?_ ?_
        rotate_left
        ·rintro w' ⟨s0, s1, s2, s3⟩
         go_simp; with_reducible rfl
        rotate_left
        ·simp only [Act.put, List.setIfInBounds_toArray, List.set_cons_zero, List.set_cons_succ, i64_w, i32_w]
         rfl
        refine take_ (i := 1) (N := some 55) (v := ?_) (a' := ?_) #[true, true, false, false, false] rfl rfl (by kernel_rfl) (fun _ _ _ h => h) (Or.inl ⟨by rfl, ?_⟩) hHeld ?_ ?_
        rotate_left
        ·rintro w' ⟨s0, s1, s2, s3⟩
         go_simp; with_reducible rfl
        rotate_left
        ·simp only [Act.put, List.setIfInBounds_toArray, List.set_cons_zero, List.set_cons_succ, i64_w, i32_w]
         rfl
        refine one_ (i := 2) (N := some 56) #[true, true, true, false, false] rfl rfl (by kernel_rfl) (by decide) (fun K hK => ?_)
        refine goes_ Try.func30 (by kernel_rfl) rfl #[.agg #[.int .i16 a0_0, .slice A0_1 l0_1.length c0_1]] (by rfl) rfl rfl a6_ ?_
        with_reducible refine (laws_toProgram.calls kj24 a0_0 _ _ l0_1 t256 t257 _ ?side1 ?side2 A102.out).mono ?_
        (case side1 => exact a95_); (case side2 => exact HC0_1.out)
        rintro e w265 ⟨v258, rfl, ho0, hb⟩
        refine ⟨_, rfl, ?_⟩
        have n0_ := Aside0.mk (Kd.R_elder' a11_ (Kd.R_base ho0) hb)
        have n1_ := Aside0.mk (Kd.R_elder' a12_ (Kd.R_base ho0) hb)
        have n2_ := Aside0.mk (Kd.R_elder' a13_ (Kd.R_base ho0) hb)
        have n3_ := Aside0.mk (Kd.R_elder' a14_ (Kd.R_base ho0) hb)
        have n4_ := Aside0.mk (Kd.R_lower (Kd.R_new' (Kd.R_new' (Kd.R_new' (Kd.R_new' ho0 (Kd.R_lt a11_)) (Kd.R_lt a12_)) (Kd.R_lt a13_)) (Kd.R_lt a14_)) (below_size a1_))
        have n5_ := Aside0.mk (blk_below (g := gb221) a2_ hb)
        have n6_ := Aside0.mk (blk_below (g := gb222) a3_ hb)
        have n7_ := Aside0.mk (blk_below (g := gb238) a4_ hb)
        have n8_ := Aside0.mk (blk_below (g := gb243) a7_ hb)
        have n9_ := Aside0.mk (blk_below (g := gb248) a8_ hb)
        have n10_ := Aside0.mk (blk_below (g := gb254) a9_ hb)
        have n11_ := Aside0.mk (below_step a1_ hb)
        clear HO_239001 HO_244001 HO_249001 HO_255001 BK221 BK222 BK238 BK243 BK248 BK254 HB; have HO_239001 := n0_; have HO_244001 := n1_; have HO_249001 := n2_; have HO_255001 := n3_; have HO259 := n4_; have BK221 := n5_; have BK222 := n6_; have BK238 := n7_; have BK243 := n8_; have BK248 := n9_; have BK254 := n10_; have HB := n11_; clear n0_ n1_ n2_ n3_ n4_ n5_ n6_ n7_ n8_ n9_ n10_ n11_; (try clear hb); (try clear hb2); (try clear hk); (try clear hi); (try clear ho0)
        obtain ⟨Ao266, co266, eo266⟩ := Kd.R_slice HO259.out
        (first | subst eo266 | (injection eo266 with f1_ f2_ f3_; have f4_ := f1_.symm; have f5_ := f3_.symm; clear f1_ f2_ f3_; subst f4_; subst f5_))
        refine hK.out _ _ ⟨(blk_cell BK243.out 0).trans rfl, (blk_cell BK243.out 1).trans rfl, (blk_cell BK221.out 0).trans rfl, (blk_cell BK221.out 1).trans rfl⟩ (fun hHeld => ?_)
        clear hK K; refine norm_ (a' := ?_) ?_ ?_; rotate_left
        ·show Act.put _ (some 56) _ = _
         simp only [Act.put, List.setIfInBounds_toArray, List.set_cons_zero, List.set_cons_succ, i64_w, i32_w]
         rfl
        refine one_ (i := 3) (N := some 57) #[true, true, true, true, false] rfl rfl (by kernel_rfl) (by decide) (fun K hK => ?_)
        refine goes_ Try.func32 (by kernel_rfl) rfl #[.agg #[.int .i16 t239, .slice Ao52 t240.length co52], .agg #[.int .i16 t256, .slice Ao266 t257.length co266]] (by rfl) rfl rfl a6_ ?_
        with_reducible refine (laws_eqProgram.calls kj24 t239 _ _ t240 t256 _ _ t257 true _ ?side1 ?side2 ?side3 ?side4 A103.out).mono ?_
        (case side1 => exact a108_)
        (case side2 => exact (Kd.R_reads' HO_244001.out).2.1)
        (case side3 => exact a109_)
        (case side4 => exact (Kd.R_reads' HO259.out).2.1)
        rintro e w267 ⟨rfl, hb⟩
        refine ⟨_, rfl, ?_⟩
        have n0_ := Aside0.mk (Kd.R_below a11_ hb)
        have n1_ := Aside0.mk (Kd.R_below a12_ hb)
        have n2_ := Aside0.mk (Kd.R_below a13_ hb)
        have n3_ := Aside0.mk (Kd.R_below a14_ hb)
        have n4_ := Aside0.mk (Kd.R_below a28_ hb)
        have n5_ := Aside0.mk (blk_below (g := gb221) a2_ hb)
        have n6_ := Aside0.mk (blk_below (g := gb222) a3_ hb)
        have n7_ := Aside0.mk (blk_below (g := gb238) a4_ hb)
        have n8_ := Aside0.mk (blk_below (g := gb243) a7_ hb)
        have n9_ := Aside0.mk (blk_below (g := gb248) a8_ hb)
        have n10_ := Aside0.mk (blk_below (g := gb254) a9_ hb)
        have n11_ := Aside0.mk (below_step a1_ hb)
        clear HO_239001 HO_244001 HO_249001 HO_255001 HO259 BK221 BK222 BK238 BK243 BK248 BK254 HB; have HO_239001 := n0_; have HO_244001 := n1_; have HO_249001 := n2_; have HO_255001 := n3_; have HO259 := n4_; have BK221 := n5_; have BK222 := n6_; have BK238 := n7_; have BK243 := n8_; have BK248 := n9_; have BK254 := n10_; have HB := n11_; clear n0_ n1_ n2_ n3_ n4_ n5_ n6_ n7_ n8_ n9_ n10_ n11_; (try clear hb); (try clear hb2); (try clear hk); (try clear hi)
        refine hK.out _ _ ⟨(blk_cell BK243.out 0).trans rfl, (blk_cell BK243.out 1).trans rfl, (blk_cell BK221.out 0).trans rfl, (blk_cell BK221.out 1).trans rfl⟩ (fun hHeld => ?_)
        clear hK K; refine norm_ (a' := ?_) ?_ ?_; rotate_left
        ·show Act.put _ (some 57) _ = _
         simp only [Act.put, List.setIfInBounds_toArray, List.set_cons_zero, List.set_cons_succ, i64_w, i32_w]
         rfl
        refine pure_ (i := 4) (N := some 58) (v := ?_) (a' := ?_) #[true, true, true, true, true] rfl rfl (by kernel_rfl) (fun _ _ _ h => h) (Or.inl ⟨by rfl, ?_⟩) ?_ ?_
        rotate_left
        ·intro w'
         go_simp; with_reducible rfl
        rotate_left
        ·simp only [Act.put, List.setIfInBounds_toArray, List.set_cons_zero, List.set_cons_succ, i64_w, i32_w]
         rfl
        refine done_ (by kernel_rfl) ?_
        try go_wp2
        have n0_ := Aside0.mk (Kd.R_drew HO_239001.out)
        have n1_ := Aside0.mk (Kd.R_drew HO_244001.out)
        have n2_ := Aside0.mk (Kd.R_drew HO_249001.out)
        have n3_ := Aside0.mk (Kd.R_drew HO_255001.out)
        have n4_ := Aside0.mk (Kd.R_drew HO259.out)
        have n5_ := Aside0.mk (blk_drew BK221.out)
        have n6_ := Aside0.mk (blk_drew BK222.out)
        have n7_ := Aside0.mk (blk_drew BK238.out)
        have n8_ := Aside0.mk (blk_drew BK243.out)
        have n9_ := Aside0.mk (blk_drew BK248.out)
        have n10_ := Aside0.mk (blk_drew BK254.out)
        have n11_ := Aside0.mk (below_drew1 HB.out)
        clear HO_239001 HO_244001 HO_249001 HO_255001 HO259 BK221 BK222 BK238 BK243 BK248 BK254 HB; have HO_239001 := n0_; have HO_244001 := n1_; have HO_249001 := n2_; have HO_255001 := n3_; have HO259 := n4_; have BK221 := n5_; have BK222 := n6_; have BK238 := n7_; have BK243 := n8_; have BK248 := n9_; have BK254 := n10_; have HB := n11_; clear n0_ n1_ n2_ n3_ n4_ n5_ n6_ n7_ n8_ n9_ n10_ n11_
        refine start_ (n := 5) (S := fun w' => w'.cell? ⟨gb248, 0, none⟩ = some (.int .i16 t244) ∧ w'.cell? ⟨gb248, 1, none⟩ = some (.slice Ao62 t245.length co62) ∧ w'.cell? ⟨gb222, 0, none⟩ = some (.int .i16 a1_0) ∧ w'.cell? ⟨gb222, 1, none⟩ = some (.slice A1_1 l1_1.length c1_1)) (ds := []) #[false, false, false, false, false] (by kernel_rfl) rfl rfl ⟨(blk_cell BK248.out 0).trans rfl, (blk_cell BK248.out 1).trans rfl, (blk_cell BK222.out 0).trans rfl, (blk_cell BK222.out 1).trans rfl⟩ (fun hHeld => ?_)
        generalize w267.drew = w268 at HO_239001 HO_244001 HO_249001 HO_255001 HO259 BK221 BK222 BK238 BK243 BK248 BK254 HB hHeld ⊢
        refine take_ (i := 0) (N := some 59) (v := ?_) (a' := ?_) #[true, false, false, false, false] rfl rfl (by kernel_rfl) (fun _ _ _ h => h) (Or.inl ⟨by rfl, ?_⟩) hHeld ?_ ?_
        rotate_left
        ·rintro w' ⟨s0, s1, s2, s3⟩
         go_simp; with_reducible rfl
        rotate_left
        ·simp only [Act.put, List.setIfInBounds_toArray, List.set_cons_zero, List.set_cons_succ, i64_w, i32_w]
         rfl
        refine take_ (i := 1) (N := some 60) (v := ?_) (a' := ?_) #[true, true, false, false, false] rfl rfl (by kernel_rfl) (fun _ _ _ h => h) (Or.inl ⟨by rfl, ?_⟩) hHeld ?_ ?_
        rotate_left
        ·rintro w' ⟨s0, s1, s2, s3⟩
         go_simp; with_reducible rfl
        rotate_left
        ·simp only [Act.put, List.setIfInBounds_toArray, List.set_cons_zero, List.set_cons_succ, i64_w, i32_w]
         rfl
        refine one_ (i := 2) (N := some 61) #[true, true, true, false, false] rfl rfl (by kernel_rfl) (by decide) (fun K hK => ?_)
        refine goes_ Try.func30 (by kernel_rfl) rfl #[.agg #[.int .i16 a1_0, .slice A1_1 l1_1.length c1_1]] (by rfl) rfl rfl a6_ ?_
        with_reducible refine (laws_toProgram.calls kj24 a1_0 _ _ l1_1 t261 t262 _ ?side1 ?side2 A105.out).mono ?_
        (case side1 => exact a96_); (case side2 => exact HC1_1.out)
        rintro e w269 ⟨v263, rfl, ho0, hb⟩
        refine ⟨_, rfl, ?_⟩
        have n0_ := Aside0.mk (Kd.R_elder' a11_ (Kd.R_base ho0) hb)
        have n1_ := Aside0.mk (Kd.R_elder' a12_ (Kd.R_base ho0) hb)
        have n2_ := Aside0.mk (Kd.R_elder' a13_ (Kd.R_base ho0) hb)
        have n3_ := Aside0.mk (Kd.R_elder' a14_ (Kd.R_base ho0) hb)
        have n4_ := Aside0.mk (Kd.R_elder' a28_ (Kd.R_base ho0) hb)
        have n5_ := Aside0.mk (Kd.R_lower (Kd.R_new' (Kd.R_new' (Kd.R_new' (Kd.R_new' (Kd.R_new' ho0 (Kd.R_lt a11_)) (Kd.R_lt a12_)) (Kd.R_lt a13_)) (Kd.R_lt a14_)) (Kd.R_lt a28_)) (below_size a1_))
        have n6_ := Aside0.mk (blk_below (g := gb221) a2_ hb)
        have n7_ := Aside0.mk (blk_below (g := gb222) a3_ hb)
        have n8_ := Aside0.mk (blk_below (g := gb238) a4_ hb)
        have n9_ := Aside0.mk (blk_below (g := gb243) a7_ hb)
        have n10_ := Aside0.mk (blk_below (g := gb248) a8_ hb)
        have n11_ := Aside0.mk (blk_below (g := gb254) a9_ hb)
        have n12_ := Aside0.mk (below_step a1_ hb)
        clear HO_239001 HO_244001 HO_249001 HO_255001 HO259 BK221 BK222 BK238 BK243 BK248 BK254 HB; have HO_239001 := n0_; have HO_244001 := n1_; have HO_249001 := n2_; have HO_255001 := n3_; have HO259 := n4_; have HO264 := n5_; have BK221 := n6_; have BK222 := n7_; have BK238 := n8_; have BK243 := n9_; have BK248 := n10_; have BK254 := n11_; have HB := n12_; clear n0_ n1_ n2_ n3_ n4_ n5_ n6_ n7_ n8_ n9_ n10_ n11_ n12_; (try clear hb); (try clear hb2); (try clear hk); (try clear hi); (try clear ho0)
        obtain ⟨Ao270, co270, eo270⟩ := Kd.R_slice HO264.out
        (first | subst eo270 | (injection eo270 with f1_ f2_ f3_; have f4_ := f1_.symm; have f5_ := f3_.symm; clear f1_ f2_ f3_; subst f4_; subst f5_))
        refine hK.out _ _ ⟨(blk_cell BK248.out 0).trans rfl, (blk_cell BK248.out 1).trans rfl, (blk_cell BK222.out 0).trans rfl, (blk_cell BK222.out 1).trans rfl⟩ (fun hHeld => ?_)
        clear hK K; refine norm_ (a' := ?_) ?_ ?_; rotate_left
        ·show Act.put _ (some 61) _ = _
         simp only [Act.put, List.setIfInBounds_toArray, List.set_cons_zero, List.set_cons_succ, i64_w, i32_w]
         rfl
        refine one_ (i := 3) (N := some 62) #[true, true, true, true, false] rfl rfl (by kernel_rfl) (by decide) (fun K hK => ?_)
        refine goes_ Try.func32 (by kernel_rfl) rfl #[.agg #[.int .i16 t244, .slice Ao62 t245.length co62], .agg #[.int .i16 t261, .slice Ao270 t262.length co270]] (by rfl) rfl rfl a6_ ?_
        with_reducible refine (laws_eqProgram.calls kj24 t244 _ _ t245 t261 _ _ t262 false _ ?side1 ?side2 ?side3 ?side4 A106.out).mono ?_
        (case side1 => exact a110_)
        (case side2 => exact (Kd.R_reads' HO_249001.out).2.1)
        (case side3 => exact a112_)
        (case side4 => exact (Kd.R_reads' HO264.out).2.1)
        rintro e w271 ⟨rfl, hb⟩
        refine ⟨_, rfl, ?_⟩
        have n0_ := Aside0.mk (Kd.R_below a11_ hb)
        have n1_ := Aside0.mk (Kd.R_below a12_ hb)
        have n2_ := Aside0.mk (Kd.R_below a13_ hb)
        have n3_ := Aside0.mk (Kd.R_below a14_ hb)
        have n4_ := Aside0.mk (Kd.R_below a28_ hb)
        have n5_ := Aside0.mk (Kd.R_below a74_ hb)
        have n6_ := Aside0.mk (blk_below (g := gb221) a2_ hb)
        have n7_ := Aside0.mk (blk_below (g := gb222) a3_ hb)
        have n8_ := Aside0.mk (blk_below (g := gb238) a4_ hb)
        have n9_ := Aside0.mk (blk_below (g := gb243) a7_ hb)
        have n10_ := Aside0.mk (blk_below (g := gb248) a8_ hb)
        have n11_ := Aside0.mk (blk_below (g := gb254) a9_ hb)
        have n12_ := Aside0.mk (below_step a1_ hb)
        clear HO_239001 HO_244001 HO_249001 HO_255001 HO259 HO264 BK221 BK222 BK238 BK243 BK248 BK254 HB; have HO_239001 := n0_; have HO_244001 := n1_; have HO_249001 := n2_; have HO_255001 := n3_; have HO259 := n4_; have HO264 := n5_; have BK221 := n6_; have BK222 := n7_; have BK238 := n8_; have BK243 := n9_; have BK248 := n10_; have BK254 := n11_; have HB := n12_; clear n0_ n1_ n2_ n3_ n4_ n5_ n6_ n7_ n8_ n9_ n10_ n11_ n12_; (try clear hb); (try clear hb2); (try clear hk); (try clear hi)
        refine hK.out _ _ ⟨(blk_cell BK248.out 0).trans rfl, (blk_cell BK248.out 1).trans rfl, (blk_cell BK222.out 0).trans rfl, (blk_cell BK222.out 1).trans rfl⟩ (fun hHeld => ?_)
        clear hK K; refine norm_ (a' := ?_) ?_ ?_; rotate_left
        ·show Act.put _ (some 62) _ = _
         simp only [Act.put, List.setIfInBounds_toArray, List.set_cons_zero, List.set_cons_succ, i64_w, i32_w]
         rfl
        refine pure_ (i := 4) (N := some 63) (v := ?_) (a' := ?_) #[true, true, true, true, true] rfl rfl (by kernel_rfl) (fun _ _ _ h => h) (Or.inl ⟨by rfl, ?_⟩) ?_ ?_
        rotate_left
        ·intro w'
         go_simp; with_reducible rfl
        rotate_left
        ·simp only [Act.put, List.setIfInBounds_toArray, List.set_cons_zero, List.set_cons_succ, i64_w, i32_w]
         rfl
        refine done_ (by kernel_rfl) ?_
        try go_wp2
        go_ret
        exact ⟨by first | rfl | (simp [errW_none, errW_some] <;> rfl) | (simp [*, errW_none, errW_some] <;> rfl), by repeat (first | (with_reducible first | exact HB.out | apply below_alloc | apply pw_below_drewN | apply below_drew1 | refine below_set ?_ GE221.out | refine below_set ?_ GE222.out | refine below_set ?_ GE238.out | refine below_set ?_ GE243.out | refine below_set ?_ GE248.out | refine below_set ?_ GE254.out) | exact HB.out)⟩
      ·replace c104 := Bool.eq_false_iff.mpr c104
       subst c104
       have H1 : (some false) = some r := by rw [if_neg (show ¬ (false = true) by decide)] at H; exact H
       clear H
       have H := H1
       clear H1
       obtain rfl := Option.some.inj H
       try go_wp2
       have n0_ := Aside0.mk (Kd.R_drew HO_239001.out)
       have n1_ := Aside0.mk (Kd.R_drew HO_244001.out)
       have n2_ := Aside0.mk (Kd.R_drew HO_249001.out)
       have n3_ := Aside0.mk (Kd.R_drew HO_255001.out)
       have n4_ := Aside0.mk (blk_drew BK221.out)
       have n5_ := Aside0.mk (blk_drew BK222.out)
       have n6_ := Aside0.mk (blk_drew BK238.out)
       have n7_ := Aside0.mk (blk_drew BK243.out)
       have n8_ := Aside0.mk (blk_drew BK248.out)
       have n9_ := Aside0.mk (blk_drew BK254.out)
       have n10_ := Aside0.mk (below_drew1 HB.out)
       clear HO_239001 HO_244001 HO_249001 HO_255001 BK221 BK222 BK238 BK243 BK248 BK254 HB; have HO_239001 := n0_; have HO_244001 := n1_; have HO_249001 := n2_; have HO_255001 := n3_; have BK221 := n4_; have BK222 := n5_; have BK238 := n6_; have BK243 := n7_; have BK248 := n8_; have BK254 := n9_; have HB := n10_; clear n0_ n1_ n2_ n3_ n4_ n5_ n6_ n7_ n8_ n9_ n10_
       refine start_ (n := 5) (S := fun w' => w'.cell? ⟨gb243, 0, none⟩ = some (.int .i16 t239) ∧ w'.cell? ⟨gb243, 1, none⟩ = some (.slice Ao52 t240.length co52) ∧ w'.cell? ⟨gb221, 0, none⟩ = some (.int .i16 a0_0) ∧ w'.cell? ⟨gb221, 1, none⟩ = some (.slice A0_1 l0_1.length c0_1)) (ds := []) #[false, false, false, false, false] (by kernel_rfl) rfl rfl ⟨(blk_cell BK243.out 0).trans rfl, (blk_cell BK243.out 1).trans rfl, (blk_cell BK221.out 0).trans rfl, (blk_cell BK221.out 1).trans rfl⟩ (fun hHeld => ?_)
       generalize wc.drew = w272 at HO_239001 HO_244001 HO_249001 HO_255001 BK221 BK222 BK238 BK243 BK248 BK254 HB hHeld ⊢
       refine take_ (i := 0) (N := some 54) (v := ?_) (a' := ?_) #[true, false, false, false, false] rfl rfl (by kernel_rfl) (fun _ _ _ h => h) (Or.inl ⟨by rfl, ?_⟩) hHeld ?_ ?_
       rotate_left
       ·rintro w' ⟨s0, s1, s2, s3⟩
        go_simp; with_reducible rfl
       rotate_left
       ·simp only [Act.put, List.setIfInBounds_toArray, List.set_cons_zero, List.set_cons_succ, i64_w, i32_w]
        rfl
       refine take_ (i := 1) (N := some 55) (v := ?_) (a' := ?_) #[true, true, false, false, false] rfl rfl (by kernel_rfl) (fun _ _ _ h => h) (Or.inl ⟨by rfl, ?_⟩) hHeld ?_ ?_
       rotate_left
       ·rintro w' ⟨s0, s1, s2, s3⟩
        go_simp; with_reducible rfl
       rotate_left
       ·simp only [Act.put, List.setIfInBounds_toArray, List.set_cons_zero, List.set_cons_succ, i64_w, i32_w]
        rfl
       refine one_ (i := 2) (N := some 56) #[true, true, true, false, false] rfl rfl (by kernel_rfl) (by decide) (fun K hK => ?_)
       refine goes_ Try.func30 (by kernel_rfl) rfl #[.agg #[.int .i16 a0_0, .slice A0_1 l0_1.length c0_1]] (by rfl) rfl rfl a6_ ?_
       with_reducible refine (laws_toProgram.calls kj24 a0_0 _ _ l0_1 t256 t257 _ ?side1 ?side2 A102.out).mono ?_
       (case side1 => exact a95_); (case side2 => exact HC0_1.out)
       rintro e w273 ⟨v258, rfl, ho0, hb⟩
       refine ⟨_, rfl, ?_⟩
       have n0_ := Aside0.mk (Kd.R_elder' a11_ (Kd.R_base ho0) hb)
       have n1_ := Aside0.mk (Kd.R_elder' a12_ (Kd.R_base ho0) hb)
       have n2_ := Aside0.mk (Kd.R_elder' a13_ (Kd.R_base ho0) hb)
       have n3_ := Aside0.mk (Kd.R_elder' a14_ (Kd.R_base ho0) hb)
       have n4_ := Aside0.mk (Kd.R_lower (Kd.R_new' (Kd.R_new' (Kd.R_new' (Kd.R_new' ho0 (Kd.R_lt a11_)) (Kd.R_lt a12_)) (Kd.R_lt a13_)) (Kd.R_lt a14_)) (below_size a1_))
       have n5_ := Aside0.mk (blk_below (g := gb221) a2_ hb)
       have n6_ := Aside0.mk (blk_below (g := gb222) a3_ hb)
       have n7_ := Aside0.mk (blk_below (g := gb238) a4_ hb)
       have n8_ := Aside0.mk (blk_below (g := gb243) a7_ hb)
       have n9_ := Aside0.mk (blk_below (g := gb248) a8_ hb)
       have n10_ := Aside0.mk (blk_below (g := gb254) a9_ hb)
       have n11_ := Aside0.mk (below_step a1_ hb)
       clear HO_239001 HO_244001 HO_249001 HO_255001 BK221 BK222 BK238 BK243 BK248 BK254 HB; have HO_239001 := n0_; have HO_244001 := n1_; have HO_249001 := n2_; have HO_255001 := n3_; have HO259 := n4_; have BK221 := n5_; have BK222 := n6_; have BK238 := n7_; have BK243 := n8_; have BK248 := n9_; have BK254 := n10_; have HB := n11_; clear n0_ n1_ n2_ n3_ n4_ n5_ n6_ n7_ n8_ n9_ n10_ n11_; (try clear hb); (try clear hb2); (try clear hk); (try clear hi); (try clear ho0)
       obtain ⟨Ao274, co274, eo274⟩ := Kd.R_slice HO259.out
       (first | subst eo274 | (injection eo274 with f1_ f2_ f3_; have f4_ := f1_.symm; have f5_ := f3_.symm; clear f1_ f2_ f3_; subst f4_; subst f5_))
       refine hK.out _ _ ⟨(blk_cell BK243.out 0).trans rfl, (blk_cell BK243.out 1).trans rfl, (blk_cell BK221.out 0).trans rfl, (blk_cell BK221.out 1).trans rfl⟩ (fun hHeld => ?_)
       clear hK K; refine norm_ (a' := ?_) ?_ ?_; rotate_left
       ·show Act.put _ (some 56) _ = _
        simp only [Act.put, List.setIfInBounds_toArray, List.set_cons_zero, List.set_cons_succ, i64_w, i32_w]
        rfl
       refine one_ (i := 3) (N := some 57) #[true, true, true, true, false] rfl rfl (by kernel_rfl) (by decide) (fun K hK => ?_)
       refine goes_ Try.func32 (by kernel_rfl) rfl #[.agg #[.int .i16 t239, .slice Ao52 t240.length co52], .agg #[.int .i16 t256, .slice Ao274 t257.length co274]] (by rfl) rfl rfl a6_ ?_
       with_reducible refine (laws_eqProgram.calls kj24 t239 _ _ t240 t256 _ _ t257 false _ ?side1 ?side2 ?side3 ?side4 A103.out).mono ?_
       (case side1 => exact a108_)
       (case side2 => exact (Kd.R_reads' HO_244001.out).2.1)
       (case side3 => exact a109_)
       (case side4 => exact (Kd.R_reads' HO259.out).2.1)
       rintro e w275 ⟨rfl, hb⟩
       refine ⟨_, rfl, ?_⟩
       have n0_ := Aside0.mk (Kd.R_below a11_ hb)
       have n1_ := Aside0.mk (Kd.R_below a12_ hb)
       have n2_ := Aside0.mk (Kd.R_below a13_ hb)
       have n3_ := Aside0.mk (Kd.R_below a14_ hb)
       have n4_ := Aside0.mk (Kd.R_below a28_ hb)
       have n5_ := Aside0.mk (blk_below (g := gb221) a2_ hb)
       have n6_ := Aside0.mk (blk_below (g := gb222) a3_ hb)
       have n7_ := Aside0.mk (blk_below (g := gb238) a4_ hb)
       have n8_ := Aside0.mk (blk_below (g := gb243) a7_ hb)
       have n9_ := Aside0.mk (blk_below (g := gb248) a8_ hb)
       have n10_ := Aside0.mk (blk_below (g := gb254) a9_ hb)
       have n11_ := Aside0.mk (below_step a1_ hb)
       clear HO_239001 HO_244001 HO_249001 HO_255001 HO259 BK221 BK222 BK238 BK243 BK248 BK254 HB; have HO_239001 := n0_; have HO_244001 := n1_; have HO_249001 := n2_; have HO_255001 := n3_; have HO259 := n4_; have BK221 := n5_; have BK222 := n6_; have BK238 := n7_; have BK243 := n8_; have BK248 := n9_; have BK254 := n10_; have HB := n11_; clear n0_ n1_ n2_ n3_ n4_ n5_ n6_ n7_ n8_ n9_ n10_ n11_; (try clear hb); (try clear hb2); (try clear hk); (try clear hi)
       refine hK.out _ _ ⟨(blk_cell BK243.out 0).trans rfl, (blk_cell BK243.out 1).trans rfl, (blk_cell BK221.out 0).trans rfl, (blk_cell BK221.out 1).trans rfl⟩ (fun hHeld => ?_)
       clear hK K; refine norm_ (a' := ?_) ?_ ?_; rotate_left
       ·show Act.put _ (some 57) _ = _
        simp only [Act.put, List.setIfInBounds_toArray, List.set_cons_zero, List.set_cons_succ, i64_w, i32_w]
        rfl
       refine pure_ (i := 4) (N := some 58) (v := ?_) (a' := ?_) #[true, true, true, true, true] rfl rfl (by kernel_rfl) (fun _ _ _ h => h) (Or.inl ⟨by rfl, ?_⟩) ?_ ?_
       rotate_left
       ·intro w'
        go_simp; with_reducible rfl
       rotate_left
       ·simp only [Act.put, List.setIfInBounds_toArray, List.set_cons_zero, List.set_cons_succ, i64_w, i32_w]
        rfl
       refine done_ (by kernel_rfl) ?_
       try go_wp2
       go_ret
       exact ⟨by first | rfl | (simp [errW_none, errW_some] <;> rfl) | (simp [*, errW_none, errW_some] <;> rfl), by repeat (first | (with_reducible first | exact HB.out | apply below_alloc | apply pw_below_drewN | apply below_drew1 | refine below_set ?_ GE221.out | refine below_set ?_ GE222.out | refine below_set ?_ GE238.out | refine below_set ?_ GE243.out | refine below_set ?_ GE248.out | refine below_set ?_ GE254.out) | exact HB.out)⟩

end Go.Proofs.Ytnjcmalmnofbmaa.XFnExactJoinPrograms
