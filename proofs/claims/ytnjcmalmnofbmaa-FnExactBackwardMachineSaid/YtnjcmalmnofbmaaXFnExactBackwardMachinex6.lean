/- Printed by this repository's own program (wip/tools/xprint.py) for the law FnExactBackwardMachine: Lean functions that say what the Go functions compute, and the proofs that the machine comes to just that; no condition beyond those in each statement. -/
import Derived.Test.YtnjcmalmnofbmaaXFnExactBackwardMachinex0
import Derived.Test.YtnjcmalmnofbmaaXFnExactBackwardMachinex1
import Derived.Test.YtnjcmalmnofbmaaXFnExactBackwardMachinex2
import Derived.Test.YtnjcmalmnofbmaaXFnExactBackwardMachinex4
import Derived.Test.YtnjcmalmnofbmaaXFnExactBackwardMachinex5
namespace Go.Proofs.Ytnjcmalmnofbmaa.XFnExactBackwardMachine
open Go.RowKit Go.Proofs.YtnjcmalmnofbmaaW.PrintWords Go.Proofs.YtnjcmalmnofbmaaW.PrintLast Go.Proofs.YtnjcmalmnofbmaaW.PrintMore
attribute [local go_sem] max2_int min2_int max_two min_two max_three min_three max_four min_four   -- for this text's walks alone
set_option linter.unusedVariables false
set_option linter.unusedSimpArgs false

set_option maxHeartbeats 8000000 in
set_option maxRecDepth 100000 in
theorem laws_FnExactBackwardMachine.calls (k : Nat) (A0_0 : Option Addr) (c0_0 : Nat) (l0_0 : List Int) (A0_1 : Option Addr) (c0_1 : Nat) (l0_1 : List Int) (A0_2 : Option Addr) (c0_2 : Nat) (l0_2 : List Int) (r : Bool) (w : World) (hr0_0 : Kd.C (Kd.int .i16) w A0_0 l0_0.length l0_0) (hc0_0 : l0_0.length ≤ c0_0) (hr0_1 : Kd.C (Kd.int .i16) w A0_1 l0_1.length l0_1) (hc0_1 : l0_1.length ≤ c0_1) (hr0_2 : Kd.C (Kd.int .i16) w A0_2 l0_2.length l0_2) (hc0_2 : l0_2.length ≤ c0_2) (h : laws_FnExactBackwardMachine.f k l0_0 l0_1 l0_2 = some r) :
    Calls Try.prog 5 #[.agg #[.slice A0_0 l0_0.length c0_0, .slice A0_1 l0_1.length c0_1, .slice A0_2 l0_2.length c0_2]] w fun e w' => e = .returned (.bool r) ∧ Below w.heap.size w w' := by
 have hu24 := Try.underlying24
 have hu29 := Try.underlying29
 have HR0_0 := Aside0.mk hr0_0
 have HC0_0 := Aside0.mk hc0_0
 clear hr0_0 hc0_0
 have HR0_1 := Aside0.mk hr0_1
 have HC0_1 := Aside0.mk hc0_1
 clear hr0_1 hc0_1
 have HR0_2 := Aside0.mk hr0_2
 have HC0_2 := Aside0.mk hc0_2
 clear hr0_2 hc0_2
 have HB := Aside0.mk (Below.refl w.heap.size w)
 have H : ((laws_szMachine.f l0_0 l0_1 l0_2 1048576).bind fun t233 => (if t233 < 0 then (some true) else ((laws_toMachine.f k l0_0 l0_1 l0_2).bind fun bt234 => ((spec_BackwardMachine.f k bt234.1 bt234.2.1 bt234.2.2).bind fun bt243 => ((laws_toMachine.f k l0_0 l0_1 l0_2).bind fun bt254 => ((impl_BackwardMachine.f k bt254.1 bt254.2.1 bt254.2.2).bind fun bt264 => ((laws_eqMachine.f k bt264.1 bt264.2.1 bt264.2.2.1 bt243.1 bt243.2.1 bt243.2.2.1).bind fun t275 => (if t275 = true then (laws_FnExactBackwardMachine.j0 k bt243.2.2.2 bt264.2.2.2 (bt264.2.2.2 != bt243.2.2.2) l0_0 l0_1 l0_2 bt243.1 bt243.2.1 bt243.2.2.1 bt254.1 bt254.2.1 bt254.2.2 bt264.1 bt264.2.1 bt264.2.2.1) else (laws_FnExactBackwardMachine.j0 k bt243.2.2.2 bt264.2.2.2 true l0_0 l0_1 l0_2 bt243.1 bt243.2.1 bt243.2.2.1 bt254.1 bt254.2.1 bt254.2.2 bt264.1 bt264.2.1 bt264.2.2.1))))))))) = some r := h
 clear h
 replace H := Option.bind_eq_some_iff.mp H
 obtain ⟨t233, A20, H⟩ := H
 replace H : (if t233 < 0 then (some true) else ((laws_toMachine.f k l0_0 l0_1 l0_2).bind fun bt234 => ((spec_BackwardMachine.f k bt234.1 bt234.2.1 bt234.2.2).bind fun bt243 => ((laws_toMachine.f k l0_0 l0_1 l0_2).bind fun bt254 => ((impl_BackwardMachine.f k bt254.1 bt254.2.1 bt254.2.2).bind fun bt264 => ((laws_eqMachine.f k bt264.1 bt264.2.1 bt264.2.2.1 bt243.1 bt243.2.1 bt243.2.2.1).bind fun t275 => (if t275 = true then (laws_FnExactBackwardMachine.j0 k bt243.2.2.2 bt264.2.2.2 (bt264.2.2.2 != bt243.2.2.2) l0_0 l0_1 l0_2 bt243.1 bt243.2.1 bt243.2.2.1 bt254.1 bt254.2.1 bt254.2.2 bt264.1 bt264.2.1 bt264.2.2.1) else (laws_FnExactBackwardMachine.j0 k bt243.2.2.2 bt264.2.2.2 true l0_0 l0_1 l0_2 bt243.1 bt243.2.1 bt243.2.2.1 bt254.1 bt254.2.1 bt254.2.2 bt264.1 bt264.2.1 bt264.2.2.1)))))))) = some r := H
 have A2 := Aside0.mk A20
 clear A20
 by_cases c3 : t233 < 0
 ·rw [if_pos c3] at H
  have c3b0 : decide (t233 < 0) = true := decide_eq_true c3
  clear c3
  obtain rfl := Option.some.inj H
  go_enter Try.func5, Try.ntmps5
  go_wp2_with (first | ((with_reducible refine gate_dst (N := 1) rfl ?_); refine box_event ?hg (N := 1) ?hd (cs := #[.slice A0_0 l0_0.length c0_0, .slice A0_1 l0_1.length c0_1, .slice A0_2 l0_2.length c0_2]) (t := 24) ?hr ?_; (case hd => rfl); (case hg => rfl); (case hr => exact a128_); intro gb232 hg w4 hbox hb; have n0_ := Aside0.mk (below_step a72_ hb); have n1_ := Aside0.mk (hbox); have n2_ := Aside0.mk ((by rw [hg]; exact (below_size a72_) : w.heap.size ≤ gb232)); have n3_ := Aside0.mk ((by rw [hg]; exact (below_size a72_) : w.heap.size ≤ gb232)); clear HB; have HB := n0_; have BK232 := n1_; have GW232 := n2_; have GE232 := n3_; clear n0_ n1_ n2_ n3_; clear hb hbox hg; have hcz5_0 : w4.cell? ⟨gb232, 0, none⟩ = some (.slice A0_0 l0_0.length c0_0) := (blk_cell BK232.out 0).trans rfl; have hcz5_1 : w4.cell? ⟨gb232, 1, none⟩ = some (.slice A0_1 l0_1.length c0_1) := (blk_cell BK232.out 1).trans rfl; have hcz5_2 : w4.cell? ⟨gb232, 2, none⟩ = some (.slice A0_2 l0_2.length c0_2) := (blk_cell BK232.out 2).trans rfl; have hfz5_0 := blk_frozen BK232.out 0; have hfz5_1 := blk_frozen BK232.out 1; have hfz5_2 := blk_frozen BK232.out 2) | ((with_reducible refine gate_callee (f := 15) rfl ?_); refine goesL_ (some 16) rfl rfl Try.func15 (by kernel_rfl) rfl #[.agg #[.slice A0_0 l0_0.length c0_0, .slice A0_1 l0_1.length c0_1, .slice A0_2 l0_2.length c0_2], .int .i64 1048576] rfl a3_ ?_; (with_reducible refine (laws_szMachine.calls _ _ l0_0 _ _ l0_1 _ _ l0_2 1048576 t233 _ ?side1 ?side2 ?side3 ?side4 ?side5 ?side6 A2.out).mono ?_); (case side1 => exact a106_); (case side2 => exact HC0_0.out); (case side3 => exact a107_); (case side4 => exact HC0_1.out); (case side5 => exact a108_); (case side6 => exact HC0_2.out); rintro e w6 ⟨rfl, hb⟩; refine ⟨_, rfl, ?_⟩; have n0_ := Aside0.mk (blk_below (g := gb232) a2_ hb); have n1_ := Aside0.mk (below_step a16_ hb); clear BK232; clear HB; have BK232 := n0_; have HB := n1_; clear n0_ n1_; (try clear hb); (try clear hb2); (try clear hk); (try clear hi)))
  go_ret
  exact ⟨by first | rfl | (simp [errW_none, errW_some] <;> rfl) | (simp [*, errW_none, errW_some] <;> rfl), by repeat (first | (with_reducible first | exact HB.out | apply below_alloc | apply pw_below_drewN | apply below_drew1 | refine below_set ?_ GE232.out) | exact HB.out)⟩
 ·rw [if_neg c3] at H
  have c3b0 : decide (t233 < 0) = false := decide_eq_false c3
  clear c3
  replace H := Option.bind_eq_some_iff.mp H
  obtain ⟨⟨t234, t237, t240⟩, A70, H⟩ := H
  replace H : ((spec_BackwardMachine.f k t234 t237 t240).bind fun bt243 => ((laws_toMachine.f k l0_0 l0_1 l0_2).bind fun bt254 => ((impl_BackwardMachine.f k bt254.1 bt254.2.1 bt254.2.2).bind fun bt264 => ((laws_eqMachine.f k bt264.1 bt264.2.1 bt264.2.2.1 bt243.1 bt243.2.1 bt243.2.2.1).bind fun t275 => (if t275 = true then (laws_FnExactBackwardMachine.j0 k bt243.2.2.2 bt264.2.2.2 (bt264.2.2.2 != bt243.2.2.2) l0_0 l0_1 l0_2 bt243.1 bt243.2.1 bt243.2.2.1 bt254.1 bt254.2.1 bt254.2.2 bt264.1 bt264.2.1 bt264.2.2.1) else (laws_FnExactBackwardMachine.j0 k bt243.2.2.2 bt264.2.2.2 true l0_0 l0_1 l0_2 bt243.1 bt243.2.1 bt243.2.2.1 bt254.1 bt254.2.1 bt254.2.2 bt264.1 bt264.2.1 bt264.2.2.1)))))) = some r := H
  have A7 := Aside0.mk A70
  clear A70
  replace H := Option.bind_eq_some_iff.mp H
  obtain ⟨⟨t243, t246, t249, t252⟩, A80, H⟩ := H
  replace H : ((laws_toMachine.f k l0_0 l0_1 l0_2).bind fun bt254 => ((impl_BackwardMachine.f k bt254.1 bt254.2.1 bt254.2.2).bind fun bt264 => ((laws_eqMachine.f k bt264.1 bt264.2.1 bt264.2.2.1 t243 t246 t249).bind fun t275 => (if t275 = true then (laws_FnExactBackwardMachine.j0 k t252 bt264.2.2.2 (bt264.2.2.2 != t252) l0_0 l0_1 l0_2 t243 t246 t249 bt254.1 bt254.2.1 bt254.2.2 bt264.1 bt264.2.1 bt264.2.2.1) else (laws_FnExactBackwardMachine.j0 k t252 bt264.2.2.2 true l0_0 l0_1 l0_2 t243 t246 t249 bt254.1 bt254.2.1 bt254.2.2 bt264.1 bt264.2.1 bt264.2.2.1))))) = some r := H
  have A8 := Aside0.mk A80
  clear A80
  replace H := Option.bind_eq_some_iff.mp H
  obtain ⟨⟨t254, t257, t260⟩, A90, H⟩ := H
  replace H : ((impl_BackwardMachine.f k t254 t257 t260).bind fun bt264 => ((laws_eqMachine.f k bt264.1 bt264.2.1 bt264.2.2.1 t243 t246 t249).bind fun t275 => (if t275 = true then (laws_FnExactBackwardMachine.j0 k t252 bt264.2.2.2 (bt264.2.2.2 != t252) l0_0 l0_1 l0_2 t243 t246 t249 t254 t257 t260 bt264.1 bt264.2.1 bt264.2.2.1) else (laws_FnExactBackwardMachine.j0 k t252 bt264.2.2.2 true l0_0 l0_1 l0_2 t243 t246 t249 t254 t257 t260 bt264.1 bt264.2.1 bt264.2.2.1)))) = some r := H
  have A9 := Aside0.mk A90
  clear A90
  replace H := Option.bind_eq_some_iff.mp H
  obtain ⟨⟨t264, t267, t270, t273⟩, A100, H⟩ := H
  replace H : ((laws_eqMachine.f k t264 t267 t270 t243 t246 t249).bind fun t275 => (if t275 = true then (laws_FnExactBackwardMachine.j0 k t252 t273 (t273 != t252) l0_0 l0_1 l0_2 t243 t246 t249 t254 t257 t260 t264 t267 t270) else (laws_FnExactBackwardMachine.j0 k t252 t273 true l0_0 l0_1 l0_2 t243 t246 t249 t254 t257 t260 t264 t267 t270))) = some r := H
  have A10 := Aside0.mk A100
  clear A100
  have HC11 := Aside0.mk H
  clear H
  go_enter Try.func5, Try.ntmps5
  go_upto_region 8 with (first | ((with_reducible refine gate_dst (N := 1) rfl ?_); refine box_event ?hg (N := 1) ?hd (cs := #[.slice A0_0 l0_0.length c0_0, .slice A0_1 l0_1.length c0_1, .slice A0_2 l0_2.length c0_2]) (t := 24) ?hr ?_; (case hd => rfl); (case hg => rfl); (case hr => exact a128_); intro gb232 hg w12 hbox hb; have n0_ := Aside0.mk (below_step a72_ hb); have n1_ := Aside0.mk (hbox); have n2_ := Aside0.mk ((by rw [hg]; exact (below_size a72_) : w.heap.size ≤ gb232)); have n3_ := Aside0.mk ((by rw [hg]; exact (below_size a72_) : w.heap.size ≤ gb232)); clear HB; have HB := n0_; have BK232 := n1_; have GW232 := n2_; have GE232 := n3_; clear n0_ n1_ n2_ n3_; clear hb hbox hg; have hcz13_0 : w12.cell? ⟨gb232, 0, none⟩ = some (.slice A0_0 l0_0.length c0_0) := (blk_cell BK232.out 0).trans rfl; have hcz13_1 : w12.cell? ⟨gb232, 1, none⟩ = some (.slice A0_1 l0_1.length c0_1) := (blk_cell BK232.out 1).trans rfl; have hcz13_2 : w12.cell? ⟨gb232, 2, none⟩ = some (.slice A0_2 l0_2.length c0_2) := (blk_cell BK232.out 2).trans rfl; have hfz13_0 := blk_frozen BK232.out 0; have hfz13_1 := blk_frozen BK232.out 1; have hfz13_2 := blk_frozen BK232.out 2) | ((with_reducible refine gate_callee (f := 15) rfl ?_); refine goesL_ (some 16) rfl rfl Try.func15 (by kernel_rfl) rfl #[.agg #[.slice A0_0 l0_0.length c0_0, .slice A0_1 l0_1.length c0_1, .slice A0_2 l0_2.length c0_2], .int .i64 1048576] rfl a3_ ?_; (with_reducible refine (laws_szMachine.calls _ _ l0_0 _ _ l0_1 _ _ l0_2 1048576 t233 _ ?side1 ?side2 ?side3 ?side4 ?side5 ?side6 A2.out).mono ?_); (case side1 => exact a106_); (case side2 => exact HC0_0.out); (case side3 => exact a107_); (case side4 => exact HC0_1.out); (case side5 => exact a108_); (case side6 => exact HC0_2.out); rintro e w14 ⟨rfl, hb⟩; refine ⟨_, rfl, ?_⟩; have n0_ := Aside0.mk (blk_below (g := gb232) a2_ hb); have n1_ := Aside0.mk (below_step a16_ hb); clear BK232; clear HB; have BK232 := n0_; have HB := n1_; clear n0_ n1_; (try clear hb); (try clear hb2); (try clear hk); (try clear hi); have hcz15_0 : w14.cell? ⟨gb232, 0, none⟩ = some (.slice A0_0 l0_0.length c0_0) := (blk_cell BK232.out 0).trans rfl; have hcz15_1 : w14.cell? ⟨gb232, 1, none⟩ = some (.slice A0_1 l0_1.length c0_1) := (blk_cell BK232.out 1).trans rfl; have hcz15_2 : w14.cell? ⟨gb232, 2, none⟩ = some (.slice A0_2 l0_2.length c0_2) := (blk_cell BK232.out 2).trans rfl; have hfz15_0 := blk_frozen BK232.out 0; have hfz15_1 := blk_frozen BK232.out 1; have hfz15_2 := blk_frozen BK232.out 2) | ((with_reducible refine gate_callee (f := 17) rfl ?_); refine goesL_ (some 21) rfl rfl Try.func17 (by kernel_rfl) rfl #[.agg #[.slice A0_0 l0_0.length c0_0, .slice A0_1 l0_1.length c0_1, .slice A0_2 l0_2.length c0_2]] rfl a3_ ?_; (with_reducible refine (laws_toMachine.calls k _ _ l0_0 _ _ l0_1 _ _ l0_2 t234 t237 t240 _ ?side1 ?side2 ?side3 ?side4 ?side5 ?side6 A7.out).mono ?_); (case side1 => exact a106_); (case side2 => exact HC0_0.out); (case side3 => exact a107_); (case side4 => exact HC0_1.out); (case side5 => exact a108_); (case side6 => exact HC0_2.out); rintro e w16 ⟨v235, v238, v241, rfl, ho0, ho1, ho2, hb⟩; refine ⟨_, rfl, ?_⟩; have n0_ := Aside0.mk (Kd.R_lower ho0 (below_size a16_)); have n1_ := Aside0.mk (Kd.R_lower ho1 (below_size a16_)); have n2_ := Aside0.mk (Kd.R_lower ho2 (below_size a16_)); have n3_ := Aside0.mk (blk_below (g := gb232) a2_ hb); have n4_ := Aside0.mk (below_step a16_ hb); clear BK232; clear HB; have HO236 := n0_; have HO239 := n1_; have HO242 := n2_; have BK232 := n3_; have HB := n4_; clear n0_ n1_ n2_ n3_ n4_; (try clear hb); (try clear hb2); (try clear hk); (try clear hi); (try clear ho0); (try clear ho1); (try clear ho2); obtain ⟨Ao17, co17, eo17⟩ := Kd.R_slice HO236.out; subst eo17; obtain ⟨Ao18, co18, eo18⟩ := Kd.R_slice HO239.out; subst eo18; obtain ⟨Ao19, co19, eo19⟩ := Kd.R_slice HO242.out; subst eo19) | ((with_reducible refine gate_callee (f := 24) rfl ?_); refine goesL_ (some 22) rfl rfl Try.func24 (by kernel_rfl) rfl #[.agg #[.slice Ao17 t234.length co17, .slice Ao18 t237.length co18, .slice Ao19 t240.length co19]] rfl a3_ ?_; (with_reducible refine (spec_BackwardMachine.calls k _ _ t234 _ _ t237 _ _ t240 t243 t246 t249 t252 _ ?side1 ?side2 ?side3 ?side4 ?side5 ?side6 A8.out).mono ?_); (case side1 => repeat (first | exact (Kd.R_reads' HO236.out).2.2 | (with_reducible refine Kd.C_alloc ?_ _) | (with_reducible refine Kd.C_drewN ?_ _) | (with_reducible refine Kd.C_drew ?_))); (case side2 => exact (Kd.R_reads' HO236.out).2.1); (case side3 => repeat (first | exact (Kd.R_reads' HO239.out).2.2 | (with_reducible refine Kd.C_alloc ?_ _) | (with_reducible refine Kd.C_drewN ?_ _) | (with_reducible refine Kd.C_drew ?_))); (case side4 => exact (Kd.R_reads' HO239.out).2.1); (case side5 => repeat (first | exact (Kd.R_reads' HO242.out).2.2 | (with_reducible refine Kd.C_alloc ?_ _) | (with_reducible refine Kd.C_drewN ?_ _) | (with_reducible refine Kd.C_drew ?_))); (case side6 => exact (Kd.R_reads' HO242.out).2.1); rintro e w20 ⟨v244, v247, v250, rfl, ho0, ho1, ho2, hb⟩; refine ⟨_, rfl, ?_⟩; have n0_ := Aside0.mk (Kd.R_mono (Kd.R_told (Kd.R_told (Kd.R_told (Kd.R_old a73_ hb) (Kd.R_base ho0)) (Kd.R_base ho1)) (Kd.R_base ho2)) (fun _ h_ => h_.1)); have n1_ := Aside0.mk (Kd.R_mono (Kd.R_told (Kd.R_told (Kd.R_told (Kd.R_old a74_ hb) (Kd.R_base ho0)) (Kd.R_base ho1)) (Kd.R_base ho2)) (fun _ h_ => h_.1)); have n2_ := Aside0.mk (Kd.R_mono (Kd.R_told (Kd.R_told (Kd.R_told (Kd.R_old a75_ hb) (Kd.R_base ho0)) (Kd.R_base ho1)) (Kd.R_base ho2)) (fun _ h_ => h_.1)); have n3_ := Aside0.mk (Kd.R_lower (Kd.R_new' (Kd.R_new' (Kd.R_new' ho0 (Kd.R_lt a73_)) (Kd.R_lt a74_)) (Kd.R_lt a75_)) (below_size a16_)); have n4_ := Aside0.mk (Kd.R_lower (Kd.R_new' (Kd.R_new' (Kd.R_new' ho1 (Kd.R_lt a73_)) (Kd.R_lt a74_)) (Kd.R_lt a75_)) (below_size a16_)); have n5_ := Aside0.mk (Kd.R_lower (Kd.R_new' (Kd.R_new' (Kd.R_new' ho2 (Kd.R_lt a73_)) (Kd.R_lt a74_)) (Kd.R_lt a75_)) (below_size a16_)); have n6_ := Aside0.mk (blk_below (g := gb232) a2_ hb); have n7_ := Aside0.mk (below_step a16_ hb); clear HO236; clear HO239; clear HO242; clear BK232; clear HB; have HO236 := n0_; have HO239 := n1_; have HO242 := n2_; have HO245 := n3_; have HO248 := n4_; have HO251 := n5_; have BK232 := n6_; have HB := n7_; clear n0_ n1_ n2_ n3_ n4_ n5_ n6_ n7_; (try clear hb); (try clear hb2); (try clear hk); (try clear hi); (try clear ho0); (try clear ho1); (try clear ho2)) | ((with_reducible refine gate_dst (N := 4) rfl ?_); refine box_event ?hg (N := 4) ?hd (cs := #[.slice none 0 0, .slice none 0 0, .slice none 0 0]) (t := 29) ?hr ?_; (case hd => rfl); (case hg => rfl); (case hr => exact a128_); intro gb253 hg w21 hbox hb; have n0_ := Aside0.mk (Kd.R_below a73_ hb); have n1_ := Aside0.mk (Kd.R_below a74_ hb); have n2_ := Aside0.mk (Kd.R_below a75_ hb); have n3_ := Aside0.mk (Kd.R_below a87_ hb); have n4_ := Aside0.mk (Kd.R_below a88_ hb); have n5_ := Aside0.mk (Kd.R_below a89_ hb); have n6_ := Aside0.mk (blk_below (g := gb232) a2_ hb); have n7_ := Aside0.mk (below_step a16_ hb); have n8_ := Aside0.mk (hbox); have n9_ := Aside0.mk ((by rw [hg]; exact (below_size a16_) : w.heap.size ≤ gb253)); have n10_ := Aside0.mk ((by rw [hg]; exact (below_size a16_) : w.heap.size ≤ gb253)); have n11_ := Aside0.mk ((a93_ : gb232 ≠ gb253)); have n12_ := Aside0.mk ((a94_ : gb253 ≠ gb232)); clear HO236; clear HO239; clear HO242; clear HO245; clear HO248; clear HO251; clear BK232; clear HB; have HO236 := n0_; have HO239 := n1_; have HO242 := n2_; have HO245 := n3_; have HO248 := n4_; have HO251 := n5_; have BK232 := n6_; have HB := n7_; have BK253 := n8_; have GW253 := n9_; have GE253 := n10_; have NB232_253 := n11_; have NB253_232 := n12_; clear n0_ n1_ n2_ n3_ n4_ n5_ n6_ n7_ n8_ n9_ n10_ n11_ n12_; clear hb hbox hg; obtain ⟨Ao22, co22, eo22⟩ := Kd.R_slice HO245.out; subst eo22; have hnb23 := NB253_232.out; have hnc23 := NB232_253.out; have hcz24_0 : w21.cell? ⟨gb253, 0, none⟩ = some (.slice none 0 0) := (blk_cell BK253.out 0).trans rfl; have hcz24_1 : w21.cell? ⟨gb253, 1, none⟩ = some (.slice none 0 0) := (blk_cell BK253.out 1).trans rfl; have hcz24_2 : w21.cell? ⟨gb253, 2, none⟩ = some (.slice none 0 0) := (blk_cell BK253.out 2).trans rfl; have hfz24_0 := blk_frozen BK253.out 0; have hfz24_1 := blk_frozen BK253.out 1; have hfz24_2 := blk_frozen BK253.out 2; obtain ⟨Ao25, co25, eo25⟩ := Kd.R_slice HO248.out; subst eo25; obtain ⟨Ao26, co26, eo26⟩ := Kd.R_slice HO251.out; subst eo26; have hcz27_0 : w21.cell? ⟨gb232, 0, none⟩ = some (.slice A0_0 l0_0.length c0_0) := (blk_cell BK232.out 0).trans rfl; have hcz27_1 : w21.cell? ⟨gb232, 1, none⟩ = some (.slice A0_1 l0_1.length c0_1) := (blk_cell BK232.out 1).trans rfl; have hcz27_2 : w21.cell? ⟨gb232, 2, none⟩ = some (.slice A0_2 l0_2.length c0_2) := (blk_cell BK232.out 2).trans rfl; have hfz27_0 := blk_frozen BK232.out 0; have hfz27_1 := blk_frozen BK232.out 1; have hfz27_2 := blk_frozen BK232.out 2) | ((with_reducible refine gate_callee (f := 17) rfl ?_); refine goesL_ (some 26) rfl rfl Try.func17 (by kernel_rfl) rfl #[.agg #[.slice A0_0 l0_0.length c0_0, .slice A0_1 l0_1.length c0_1, .slice A0_2 l0_2.length c0_2]] rfl a3_ ?_; (with_reducible refine (laws_toMachine.calls k _ _ l0_0 _ _ l0_1 _ _ l0_2 t254 t257 t260 _ ?side1 ?side2 ?side3 ?side4 ?side5 ?side6 A9.out).mono ?_); (case side1 => exact Kd.C_below HR0_0.out a20_); (case side2 => exact HC0_0.out); (case side3 => exact Kd.C_below HR0_1.out a20_); (case side4 => exact HC0_1.out); (case side5 => exact Kd.C_below HR0_2.out a20_); (case side6 => exact HC0_2.out); rintro e w28 ⟨v255, v258, v261, rfl, ho0, ho1, ho2, hb⟩; refine ⟨_, rfl, ?_⟩; have n0_ := Aside0.mk (Kd.R_mono (Kd.R_told (Kd.R_told (Kd.R_told (Kd.R_old a27_ hb) (Kd.R_base ho0)) (Kd.R_base ho1)) (Kd.R_base ho2)) (fun _ h_ => h_.1)); have n1_ := Aside0.mk (Kd.R_mono (Kd.R_told (Kd.R_told (Kd.R_told (Kd.R_old a28_ hb) (Kd.R_base ho0)) (Kd.R_base ho1)) (Kd.R_base ho2)) (fun _ h_ => h_.1)); have n2_ := Aside0.mk (Kd.R_mono (Kd.R_told (Kd.R_told (Kd.R_told (Kd.R_old a29_ hb) (Kd.R_base ho0)) (Kd.R_base ho1)) (Kd.R_base ho2)) (fun _ h_ => h_.1)); have n3_ := Aside0.mk (Kd.R_mono (Kd.R_told (Kd.R_told (Kd.R_told (Kd.R_old a30_ hb) (Kd.R_base ho0)) (Kd.R_base ho1)) (Kd.R_base ho2)) (fun _ h_ => h_.1)); have n4_ := Aside0.mk (Kd.R_mono (Kd.R_told (Kd.R_told (Kd.R_told (Kd.R_old a31_ hb) (Kd.R_base ho0)) (Kd.R_base ho1)) (Kd.R_base ho2)) (fun _ h_ => h_.1)); have n5_ := Aside0.mk (Kd.R_mono (Kd.R_told (Kd.R_told (Kd.R_told (Kd.R_old a32_ hb) (Kd.R_base ho0)) (Kd.R_base ho1)) (Kd.R_base ho2)) (fun _ h_ => h_.1)); have n6_ := Aside0.mk (Kd.R_lower (Kd.R_new' (Kd.R_new' (Kd.R_new' (Kd.R_new' (Kd.R_new' (Kd.R_new' ho0 (Kd.R_lt a27_)) (Kd.R_lt a28_)) (Kd.R_lt a29_)) (Kd.R_lt a30_)) (Kd.R_lt a31_)) (Kd.R_lt a32_)) (below_size a20_)); have n7_ := Aside0.mk (Kd.R_lower (Kd.R_new' (Kd.R_new' (Kd.R_new' (Kd.R_new' (Kd.R_new' (Kd.R_new' ho1 (Kd.R_lt a27_)) (Kd.R_lt a28_)) (Kd.R_lt a29_)) (Kd.R_lt a30_)) (Kd.R_lt a31_)) (Kd.R_lt a32_)) (below_size a20_)); have n8_ := Aside0.mk (Kd.R_lower (Kd.R_new' (Kd.R_new' (Kd.R_new' (Kd.R_new' (Kd.R_new' (Kd.R_new' ho2 (Kd.R_lt a27_)) (Kd.R_lt a28_)) (Kd.R_lt a29_)) (Kd.R_lt a30_)) (Kd.R_lt a31_)) (Kd.R_lt a32_)) (below_size a20_)); have n9_ := Aside0.mk (blk_below (g := gb232) (o := .cells #[.slice A0_0 l0_0.length c0_0, .slice A0_1 l0_1.length c0_1, .slice A0_2 l0_2.length c0_2] 24 (0, 0)) (by (with_reducible repeat (first | refine blk_drewN ?_ _ | refine blk_drew ?_ | refine blk_alloc ?_ _)); refine blk_far ?_ NB232_253.out _; (with_reducible repeat (first | refine blk_drewN ?_ _ | refine blk_drew ?_ | refine blk_alloc ?_ _)); refine blk_far ?_ NB232_253.out _; (with_reducible repeat (first | refine blk_drewN ?_ _ | refine blk_drew ?_ | refine blk_alloc ?_ _)); refine blk_far ?_ NB232_253.out _; (with_reducible repeat (first | refine blk_drewN ?_ _ | refine blk_drew ?_ | refine blk_alloc ?_ _)); exact BK232.out) hb); have n10_ := Aside0.mk (blk_below (g := gb253) (o := .cells #[.slice Ao22 t243.length co22, .slice Ao25 t246.length co25, .slice Ao26 t249.length co26] 29 (0, 0)) (by (with_reducible repeat (first | refine blk_drewN ?_ _ | refine blk_drew ?_ | refine blk_alloc ?_ _)); refine blk_put (cs := #[.slice Ao22 t243.length co22, .slice Ao25 t246.length co25, .slice none 0 0]) ?_ 2 _ rfl; (with_reducible repeat (first | refine blk_drewN ?_ _ | refine blk_drew ?_ | refine blk_alloc ?_ _)); refine blk_put (cs := #[.slice Ao22 t243.length co22, .slice none 0 0, .slice none 0 0]) ?_ 1 _ rfl; (with_reducible repeat (first | refine blk_drewN ?_ _ | refine blk_drew ?_ | refine blk_alloc ?_ _)); refine blk_put (cs := #[.slice none 0 0, .slice none 0 0, .slice none 0 0]) ?_ 0 _ rfl; (with_reducible repeat (first | refine blk_drewN ?_ _ | refine blk_drew ?_ | refine blk_alloc ?_ _)); exact BK253.out) hb); have n11_ := Aside0.mk (below_step a20_ hb); clear HO236; clear HO239; clear HO242; clear HO245; clear HO248; clear HO251; clear BK232; clear BK253; clear HB; have HO236 := n0_; have HO239 := n1_; have HO242 := n2_; have HO245 := n3_; have HO248 := n4_; have HO251 := n5_; have HO256 := n6_; have HO259 := n7_; have HO262 := n8_; have BK232 := n9_; have BK253 := n10_; have HB := n11_; clear n0_ n1_ n2_ n3_ n4_ n5_ n6_ n7_ n8_ n9_ n10_ n11_; (try clear hb); (try clear hb2); (try clear hk); (try clear hi); (try clear ho0); (try clear ho1); (try clear ho2)) | ((with_reducible refine gate_dst (N := 6) rfl ?_); refine box_event ?hg (N := 6) ?hd (cs := #[.slice none 0 0, .slice none 0 0, .slice none 0 0]) (t := 29) ?hr ?_; (case hd => rfl); (case hg => rfl); (case hr => exact a128_); intro gb263 hg w29 hbox hb; have n0_ := Aside0.mk (Kd.R_below a73_ hb); have n1_ := Aside0.mk (Kd.R_below a74_ hb); have n2_ := Aside0.mk (Kd.R_below a75_ hb); have n3_ := Aside0.mk (Kd.R_below a87_ hb); have n4_ := Aside0.mk (Kd.R_below a88_ hb); have n5_ := Aside0.mk (Kd.R_below a89_ hb); have n6_ := Aside0.mk (Kd.R_below a90_ hb); have n7_ := Aside0.mk (Kd.R_below a91_ hb); have n8_ := Aside0.mk (Kd.R_below a92_ hb); have n9_ := Aside0.mk (blk_below (g := gb232) a2_ hb); have n10_ := Aside0.mk (blk_below (g := gb253) a4_ hb); have n11_ := Aside0.mk (below_step a20_ hb); have n12_ := Aside0.mk (hbox); have n13_ := Aside0.mk ((by rw [hg]; exact (below_size a20_) : w.heap.size ≤ gb263)); have n14_ := Aside0.mk ((by rw [hg]; exact (below_size a20_) : w.heap.size ≤ gb263)); have n15_ := Aside0.mk ((a93_ : gb232 ≠ gb263)); have n16_ := Aside0.mk ((a94_ : gb263 ≠ gb232)); have n17_ := Aside0.mk ((a95_ : gb253 ≠ gb263)); have n18_ := Aside0.mk ((a96_ : gb263 ≠ gb253)); clear HO236; clear HO239; clear HO242; clear HO245; clear HO248; clear HO251; clear HO256; clear HO259; clear HO262; clear BK232; clear BK253; clear HB; have HO236 := n0_; have HO239 := n1_; have HO242 := n2_; have HO245 := n3_; have HO248 := n4_; have HO251 := n5_; have HO256 := n6_; have HO259 := n7_; have HO262 := n8_; have BK232 := n9_; have BK253 := n10_; have HB := n11_; have BK263 := n12_; have GW263 := n13_; have GE263 := n14_; have NB232_263 := n15_; have NB263_232 := n16_; have NB253_263 := n17_; have NB263_253 := n18_; clear n0_ n1_ n2_ n3_ n4_ n5_ n6_ n7_ n8_ n9_ n10_ n11_ n12_ n13_ n14_ n15_ n16_ n17_ n18_; clear hb hbox hg; obtain ⟨Ao30, co30, eo30⟩ := Kd.R_slice HO256.out; subst eo30; have hnb31 := NB263_232.out; have hnc31 := NB232_263.out; have hnb32 := NB263_253.out; have hnc32 := NB253_263.out; have hcz33_0 : w29.cell? ⟨gb263, 0, none⟩ = some (.slice none 0 0) := (blk_cell BK263.out 0).trans rfl; have hcz33_1 : w29.cell? ⟨gb263, 1, none⟩ = some (.slice none 0 0) := (blk_cell BK263.out 1).trans rfl; have hcz33_2 : w29.cell? ⟨gb263, 2, none⟩ = some (.slice none 0 0) := (blk_cell BK263.out 2).trans rfl; have hfz33_0 := blk_frozen BK263.out 0; have hfz33_1 := blk_frozen BK263.out 1; have hfz33_2 := blk_frozen BK263.out 2; obtain ⟨Ao34, co34, eo34⟩ := Kd.R_slice HO259.out; subst eo34; obtain ⟨Ao35, co35, eo35⟩ := Kd.R_slice HO262.out; subst eo35) | ((with_reducible refine gate_callee (f := 25) rfl ?_); refine goesL_ (some 29) rfl rfl Try.func25 (by kernel_rfl) rfl #[.agg #[.slice Ao30 t254.length co30, .slice Ao34 t257.length co34, .slice Ao35 t260.length co35]] rfl a3_ ?_; (with_reducible refine (impl_BackwardMachine.calls k _ _ t254 _ _ t257 _ _ t260 t264 t267 t270 t273 _ ?side1 ?side2 ?side3 ?side4 ?side5 ?side6 A10.out).mono ?_); (case side1 => refine (Kd.R_reads' (e := 38) (base := w.heap.size) (ok := fun k_ => (((((((nbk k_ Ao34 t257.length co34 ∧ nbk k_ Ao35 t260.length co35) ∧ nbk k_ Ao17 t234.length co17) ∧ nbk k_ Ao18 t237.length co18) ∧ nbk k_ Ao19 t240.length co19) ∧ nbk k_ Ao22 t243.length co22) ∧ nbk k_ Ao25 t246.length co25) ∧ nbk k_ Ao26 t249.length co26)) (n := t254.length) (c := co30) ?_).2.2; exact a17_); (case side2 => exact (Kd.R_reads' HO256.out).2.1); (case side3 => refine (Kd.R_reads' (e := 38) (base := w.heap.size) (ok := fun k_ => (((((((nbk k_ Ao30 t254.length co30 ∧ nbk k_ Ao35 t260.length co35) ∧ nbk k_ Ao17 t234.length co17) ∧ nbk k_ Ao18 t237.length co18) ∧ nbk k_ Ao19 t240.length co19) ∧ nbk k_ Ao22 t243.length co22) ∧ nbk k_ Ao25 t246.length co25) ∧ nbk k_ Ao26 t249.length co26)) (n := t257.length) (c := co34) ?_).2.2; exact a18_); (case side4 => exact (Kd.R_reads' HO259.out).2.1); (case side5 => refine (Kd.R_reads' (e := 38) (base := w.heap.size) (ok := fun k_ => (((((((nbk k_ Ao30 t254.length co30 ∧ nbk k_ Ao34 t257.length co34) ∧ nbk k_ Ao17 t234.length co17) ∧ nbk k_ Ao18 t237.length co18) ∧ nbk k_ Ao19 t240.length co19) ∧ nbk k_ Ao22 t243.length co22) ∧ nbk k_ Ao25 t246.length co25) ∧ nbk k_ Ao26 t249.length co26)) (n := t260.length) (c := co35) ?_).2.2; exact a19_); (case side6 => exact (Kd.R_reads' HO262.out).2.1); rintro e w36 ⟨v265, v268, v271, rfl, ho0, ho1, ho2, hb⟩; refine ⟨_, rfl, ?_⟩; have n0_ := Aside0.mk (Kd.R_mono (Kd.R_told (Kd.R_told (Kd.R_told (Kd.R_old a33_ hb) (Kd.R_base ho0)) (Kd.R_base ho1)) (Kd.R_base ho2)) (fun _ h_ => h_.1)); have n1_ := Aside0.mk (Kd.R_mono (Kd.R_told (Kd.R_told (Kd.R_told (Kd.R_old a34_ hb) (Kd.R_base ho0)) (Kd.R_base ho1)) (Kd.R_base ho2)) (fun _ h_ => h_.1)); have n2_ := Aside0.mk (Kd.R_mono (Kd.R_told (Kd.R_told (Kd.R_told (Kd.R_old a35_ hb) (Kd.R_base ho0)) (Kd.R_base ho1)) (Kd.R_base ho2)) (fun _ h_ => h_.1)); have n3_ := Aside0.mk (Kd.R_mono (Kd.R_told (Kd.R_told (Kd.R_told (Kd.R_old a36_ hb) (Kd.R_base ho0)) (Kd.R_base ho1)) (Kd.R_base ho2)) (fun _ h_ => h_.1)); have n4_ := Aside0.mk (Kd.R_mono (Kd.R_told (Kd.R_told (Kd.R_told (Kd.R_old a37_ hb) (Kd.R_base ho0)) (Kd.R_base ho1)) (Kd.R_base ho2)) (fun _ h_ => h_.1)); have n5_ := Aside0.mk (Kd.R_mono (Kd.R_told (Kd.R_told (Kd.R_told (Kd.R_old a38_ hb) (Kd.R_base ho0)) (Kd.R_base ho1)) (Kd.R_base ho2)) (fun _ h_ => h_.1)); have n6_ := Aside0.mk (Kd.R_mono (Kd.R_told (Kd.R_told (Kd.R_told (Kd.R_old a17_ hb) (Kd.R_base ho0)) (Kd.R_base ho1)) (Kd.R_base ho2)) (fun _ h_ => h_.1)); have n7_ := Aside0.mk (Kd.R_mono (Kd.R_told (Kd.R_told (Kd.R_told (Kd.R_old a18_ hb) (Kd.R_base ho0)) (Kd.R_base ho1)) (Kd.R_base ho2)) (fun _ h_ => h_.1)); have n8_ := Aside0.mk (Kd.R_mono (Kd.R_told (Kd.R_told (Kd.R_told (Kd.R_old a19_ hb) (Kd.R_base ho0)) (Kd.R_base ho1)) (Kd.R_base ho2)) (fun _ h_ => h_.1)); have n9_ := Aside0.mk (Kd.R_lower (Kd.R_new' (Kd.R_new' (Kd.R_new' (Kd.R_new' (Kd.R_new' (Kd.R_new' (Kd.R_new' (Kd.R_new' (Kd.R_new' ho0 (Kd.R_lt a33_)) (Kd.R_lt a34_)) (Kd.R_lt a35_)) (Kd.R_lt a36_)) (Kd.R_lt a37_)) (Kd.R_lt a38_)) (Kd.R_lt a17_)) (Kd.R_lt a18_)) (Kd.R_lt a19_)) (below_size a45_)); have n10_ := Aside0.mk (Kd.R_lower (Kd.R_new' (Kd.R_new' (Kd.R_new' (Kd.R_new' (Kd.R_new' (Kd.R_new' (Kd.R_new' (Kd.R_new' (Kd.R_new' ho1 (Kd.R_lt a33_)) (Kd.R_lt a34_)) (Kd.R_lt a35_)) (Kd.R_lt a36_)) (Kd.R_lt a37_)) (Kd.R_lt a38_)) (Kd.R_lt a17_)) (Kd.R_lt a18_)) (Kd.R_lt a19_)) (below_size a45_)); have n11_ := Aside0.mk (Kd.R_lower (Kd.R_new' (Kd.R_new' (Kd.R_new' (Kd.R_new' (Kd.R_new' (Kd.R_new' (Kd.R_new' (Kd.R_new' (Kd.R_new' ho2 (Kd.R_lt a33_)) (Kd.R_lt a34_)) (Kd.R_lt a35_)) (Kd.R_lt a36_)) (Kd.R_lt a37_)) (Kd.R_lt a38_)) (Kd.R_lt a17_)) (Kd.R_lt a18_)) (Kd.R_lt a19_)) (below_size a45_)); have n12_ := Aside0.mk (blk_below (g := gb232) (o := .cells #[.slice A0_0 l0_0.length c0_0, .slice A0_1 l0_1.length c0_1, .slice A0_2 l0_2.length c0_2] 24 (0, 0)) (by (with_reducible repeat (first | refine blk_drewN ?_ _ | refine blk_drew ?_ | refine blk_alloc ?_ _)); refine blk_far ?_ NB232_263.out _; (with_reducible repeat (first | refine blk_drewN ?_ _ | refine blk_drew ?_ | refine blk_alloc ?_ _)); refine blk_far ?_ NB232_263.out _; (with_reducible repeat (first | refine blk_drewN ?_ _ | refine blk_drew ?_ | refine blk_alloc ?_ _)); refine blk_far ?_ NB232_263.out _; (with_reducible repeat (first | refine blk_drewN ?_ _ | refine blk_drew ?_ | refine blk_alloc ?_ _)); exact BK232.out) hb); have n13_ := Aside0.mk (blk_below (g := gb253) (o := .cells #[.slice Ao22 t243.length co22, .slice Ao25 t246.length co25, .slice Ao26 t249.length co26] 29 (0, 0)) (by (with_reducible repeat (first | refine blk_drewN ?_ _ | refine blk_drew ?_ | refine blk_alloc ?_ _)); refine blk_far ?_ NB253_263.out _; (with_reducible repeat (first | refine blk_drewN ?_ _ | refine blk_drew ?_ | refine blk_alloc ?_ _)); refine blk_far ?_ NB253_263.out _; (with_reducible repeat (first | refine blk_drewN ?_ _ | refine blk_drew ?_ | refine blk_alloc ?_ _)); refine blk_far ?_ NB253_263.out _; (with_reducible repeat (first | refine blk_drewN ?_ _ | refine blk_drew ?_ | refine blk_alloc ?_ _)); exact BK253.out) hb); have n14_ := Aside0.mk (blk_below (g := gb263) (o := .cells #[.slice Ao30 t254.length co30, .slice Ao34 t257.length co34, .slice Ao35 t260.length co35] 29 (0, 0)) (by (with_reducible repeat (first | refine blk_drewN ?_ _ | refine blk_drew ?_ | refine blk_alloc ?_ _)); refine blk_put (cs := #[.slice Ao30 t254.length co30, .slice Ao34 t257.length co34, .slice none 0 0]) ?_ 2 _ rfl; (with_reducible repeat (first | refine blk_drewN ?_ _ | refine blk_drew ?_ | refine blk_alloc ?_ _)); refine blk_put (cs := #[.slice Ao30 t254.length co30, .slice none 0 0, .slice none 0 0]) ?_ 1 _ rfl; (with_reducible repeat (first | refine blk_drewN ?_ _ | refine blk_drew ?_ | refine blk_alloc ?_ _)); refine blk_put (cs := #[.slice none 0 0, .slice none 0 0, .slice none 0 0]) ?_ 0 _ rfl; (with_reducible repeat (first | refine blk_drewN ?_ _ | refine blk_drew ?_ | refine blk_alloc ?_ _)); exact BK263.out) hb); have n15_ := Aside0.mk (below_step a45_ hb); clear HO236; clear HO239; clear HO242; clear HO245; clear HO248; clear HO251; clear HO256; clear HO259; clear HO262; clear BK232; clear BK253; clear BK263; clear HB; have HO236 := n0_; have HO239 := n1_; have HO242 := n2_; have HO245 := n3_; have HO248 := n4_; have HO251 := n5_; have HO256 := n6_; have HO259 := n7_; have HO262 := n8_; have HO266 := n9_; have HO269 := n10_; have HO272 := n11_; have BK232 := n12_; have BK253 := n13_; have BK263 := n14_; have HB := n15_; clear n0_ n1_ n2_ n3_ n4_ n5_ n6_ n7_ n8_ n9_ n10_ n11_ n12_ n13_ n14_ n15_; (try clear hb); (try clear hb2); (try clear hk); (try clear hi); (try clear ho0); (try clear ho1); (try clear ho2)) | ((with_reducible refine gate_dst (N := 7) rfl ?_); refine box_event ?hg (N := 7) ?hd (cs := #[.slice none 0 0, .slice none 0 0, .slice none 0 0]) (t := 29) ?hr ?_; (case hd => rfl); (case hg => rfl); (case hr => exact a128_); intro gb274 hg w37 hbox hb; have n0_ := Aside0.mk (Kd.R_below a73_ hb); have n1_ := Aside0.mk (Kd.R_below a74_ hb); have n2_ := Aside0.mk (Kd.R_below a75_ hb); have n3_ := Aside0.mk (Kd.R_below a87_ hb); have n4_ := Aside0.mk (Kd.R_below a88_ hb); have n5_ := Aside0.mk (Kd.R_below a89_ hb); have n6_ := Aside0.mk (Kd.R_below a90_ hb); have n7_ := Aside0.mk (Kd.R_below a91_ hb); have n8_ := Aside0.mk (Kd.R_below a92_ hb); have n9_ := Aside0.mk (Kd.R_below (by (with_reducible repeat (first | apply Kd.R_alloc | apply Kd.R_drewN | apply Kd.R_drew)); exact HO266.out) hb); have n10_ := Aside0.mk (Kd.R_below (by (with_reducible repeat (first | apply Kd.R_alloc | apply Kd.R_drewN | apply Kd.R_drew)); exact HO269.out) hb); have n11_ := Aside0.mk (Kd.R_below (by (with_reducible repeat (first | apply Kd.R_alloc | apply Kd.R_drewN | apply Kd.R_drew)); exact HO272.out) hb); have n12_ := Aside0.mk (blk_below (g := gb232) a2_ hb); have n13_ := Aside0.mk (blk_below (g := gb253) a4_ hb); have n14_ := Aside0.mk (blk_below (g := gb263) a14_ hb); have n15_ := Aside0.mk (below_step a45_ hb); have n16_ := Aside0.mk (hbox); have n17_ := Aside0.mk ((by rw [hg]; exact (below_size a45_) : w.heap.size ≤ gb274)); have n18_ := Aside0.mk ((by rw [hg]; exact (below_size a45_) : w.heap.size ≤ gb274)); have n19_ := Aside0.mk ((a93_ : gb232 ≠ gb274)); have n20_ := Aside0.mk ((a94_ : gb274 ≠ gb232)); have n21_ := Aside0.mk ((a95_ : gb253 ≠ gb274)); have n22_ := Aside0.mk ((a96_ : gb274 ≠ gb253)); have n23_ := Aside0.mk ((by rw [hg]; exact Nat.ne_of_lt (blk_lt (g := gb263) (o := .cells #[.slice Ao30 t254.length co30, .slice Ao34 t257.length co34, .slice Ao35 t260.length co35] 29 (0, 0)) a14_) : gb263 ≠ gb274)); have n24_ := Aside0.mk ((by rw [hg]; exact Nat.ne_of_gt (blk_lt (g := gb263) (o := .cells #[.slice Ao30 t254.length co30, .slice Ao34 t257.length co34, .slice Ao35 t260.length co35] 29 (0, 0)) a14_) : gb274 ≠ gb263)); clear HO236; clear HO239; clear HO242; clear HO245; clear HO248; clear HO251; clear HO256; clear HO259; clear HO262; clear HO266; clear HO269; clear HO272; clear BK232; clear BK253; clear BK263; clear HB; have HO236 := n0_; have HO239 := n1_; have HO242 := n2_; have HO245 := n3_; have HO248 := n4_; have HO251 := n5_; have HO256 := n6_; have HO259 := n7_; have HO262 := n8_; have HO266 := n9_; have HO269 := n10_; have HO272 := n11_; have BK232 := n12_; have BK253 := n13_; have BK263 := n14_; have HB := n15_; have BK274 := n16_; have GW274 := n17_; have GE274 := n18_; have NB232_274 := n19_; have NB274_232 := n20_; have NB253_274 := n21_; have NB274_253 := n22_; have NB263_274 := n23_; have NB274_263 := n24_; clear n0_ n1_ n2_ n3_ n4_ n5_ n6_ n7_ n8_ n9_ n10_ n11_ n12_ n13_ n14_ n15_ n16_ n17_ n18_ n19_ n20_ n21_ n22_ n23_ n24_; clear hb hbox hg; obtain ⟨Ao38, co38, eo38⟩ := Kd.R_slice HO266.out; subst eo38; have hnb39 := NB274_232.out; have hnc39 := NB232_274.out; have hnb40 := NB274_253.out; have hnc40 := NB253_274.out; have hnb41 := NB274_263.out; have hnc41 := NB263_274.out; have hcz42_0 : w37.cell? ⟨gb274, 0, none⟩ = some (.slice none 0 0) := (blk_cell BK274.out 0).trans rfl; have hcz42_1 : w37.cell? ⟨gb274, 1, none⟩ = some (.slice none 0 0) := (blk_cell BK274.out 1).trans rfl; have hcz42_2 : w37.cell? ⟨gb274, 2, none⟩ = some (.slice none 0 0) := (blk_cell BK274.out 2).trans rfl; have hfz42_0 := blk_frozen BK274.out 0; have hfz42_1 := blk_frozen BK274.out 1; have hfz42_2 := blk_frozen BK274.out 2; obtain ⟨Ao43, co43, eo43⟩ := Kd.R_slice HO269.out; subst eo43; obtain ⟨Ao44, co44, eo44⟩ := Kd.R_slice HO272.out; subst eo44))
  (try simp only [Act.put, List.setIfInBounds_toArray, List.set_cons_zero, List.set_cons_succ])
  go_cut [40] (fun v40 wc => ∃ (kq : Nat) (x40_10 : Bool), v40 = .bool x40_10 ∧ Aside0 (laws_FnExactBackwardMachine.j0 kq t252 t273 x40_10 l0_0 l0_1 l0_2 t243 t246 t249 t254 t257 t260 t264 t267 t270 = some r) ∧ Aside0 (kq ≤ k) ∧ Aside0 (Kd.R (Kd.int .i16) 38 wc w.heap.size (fun k_ => some k_ ≠ ((.slice Ao25 t246.length co25) : Value).ownBlock ∧ some k_ ≠ ((.slice Ao26 t249.length co26) : Value).ownBlock ∧ some k_ ≠ ((.slice Ao30 t254.length co30) : Value).ownBlock ∧ some k_ ≠ ((.slice Ao34 t257.length co34) : Value).ownBlock ∧ some k_ ≠ ((.slice Ao35 t260.length co35) : Value).ownBlock ∧ some k_ ≠ ((.slice Ao38 t264.length co38) : Value).ownBlock ∧ some k_ ≠ ((.slice Ao43 t267.length co43) : Value).ownBlock ∧ some k_ ≠ ((.slice Ao44 t270.length co44) : Value).ownBlock) (.slice Ao22 t243.length co22) t243) ∧ Aside0 (Kd.R (Kd.int .i16) 38 wc w.heap.size (fun k_ => some k_ ≠ ((.slice Ao22 t243.length co22) : Value).ownBlock ∧ some k_ ≠ ((.slice Ao26 t249.length co26) : Value).ownBlock ∧ some k_ ≠ ((.slice Ao30 t254.length co30) : Value).ownBlock ∧ some k_ ≠ ((.slice Ao34 t257.length co34) : Value).ownBlock ∧ some k_ ≠ ((.slice Ao35 t260.length co35) : Value).ownBlock ∧ some k_ ≠ ((.slice Ao38 t264.length co38) : Value).ownBlock ∧ some k_ ≠ ((.slice Ao43 t267.length co43) : Value).ownBlock ∧ some k_ ≠ ((.slice Ao44 t270.length co44) : Value).ownBlock) (.slice Ao25 t246.length co25) t246) ∧ Aside0 (Kd.R (Kd.int .i16) 38 wc w.heap.size (fun k_ => some k_ ≠ ((.slice Ao22 t243.length co22) : Value).ownBlock ∧ some k_ ≠ ((.slice Ao25 t246.length co25) : Value).ownBlock ∧ some k_ ≠ ((.slice Ao30 t254.length co30) : Value).ownBlock ∧ some k_ ≠ ((.slice Ao34 t257.length co34) : Value).ownBlock ∧ some k_ ≠ ((.slice Ao35 t260.length co35) : Value).ownBlock ∧ some k_ ≠ ((.slice Ao38 t264.length co38) : Value).ownBlock ∧ some k_ ≠ ((.slice Ao43 t267.length co43) : Value).ownBlock ∧ some k_ ≠ ((.slice Ao44 t270.length co44) : Value).ownBlock) (.slice Ao26 t249.length co26) t249) ∧ Aside0 (Kd.R (Kd.int .i16) 38 wc w.heap.size (fun k_ => some k_ ≠ ((.slice Ao22 t243.length co22) : Value).ownBlock ∧ some k_ ≠ ((.slice Ao25 t246.length co25) : Value).ownBlock ∧ some k_ ≠ ((.slice Ao26 t249.length co26) : Value).ownBlock ∧ some k_ ≠ ((.slice Ao34 t257.length co34) : Value).ownBlock ∧ some k_ ≠ ((.slice Ao35 t260.length co35) : Value).ownBlock ∧ some k_ ≠ ((.slice Ao38 t264.length co38) : Value).ownBlock ∧ some k_ ≠ ((.slice Ao43 t267.length co43) : Value).ownBlock ∧ some k_ ≠ ((.slice Ao44 t270.length co44) : Value).ownBlock) (.slice Ao30 t254.length co30) t254) ∧ Aside0 (Kd.R (Kd.int .i16) 38 wc w.heap.size (fun k_ => some k_ ≠ ((.slice Ao22 t243.length co22) : Value).ownBlock ∧ some k_ ≠ ((.slice Ao25 t246.length co25) : Value).ownBlock ∧ some k_ ≠ ((.slice Ao26 t249.length co26) : Value).ownBlock ∧ some k_ ≠ ((.slice Ao30 t254.length co30) : Value).ownBlock ∧ some k_ ≠ ((.slice Ao35 t260.length co35) : Value).ownBlock ∧ some k_ ≠ ((.slice Ao38 t264.length co38) : Value).ownBlock ∧ some k_ ≠ ((.slice Ao43 t267.length co43) : Value).ownBlock ∧ some k_ ≠ ((.slice Ao44 t270.length co44) : Value).ownBlock) (.slice Ao34 t257.length co34) t257) ∧ Aside0 (Kd.R (Kd.int .i16) 38 wc w.heap.size (fun k_ => some k_ ≠ ((.slice Ao22 t243.length co22) : Value).ownBlock ∧ some k_ ≠ ((.slice Ao25 t246.length co25) : Value).ownBlock ∧ some k_ ≠ ((.slice Ao26 t249.length co26) : Value).ownBlock ∧ some k_ ≠ ((.slice Ao30 t254.length co30) : Value).ownBlock ∧ some k_ ≠ ((.slice Ao34 t257.length co34) : Value).ownBlock ∧ some k_ ≠ ((.slice Ao38 t264.length co38) : Value).ownBlock ∧ some k_ ≠ ((.slice Ao43 t267.length co43) : Value).ownBlock ∧ some k_ ≠ ((.slice Ao44 t270.length co44) : Value).ownBlock) (.slice Ao35 t260.length co35) t260) ∧ Aside0 (Kd.R (Kd.int .i16) 38 wc w.heap.size (fun k_ => some k_ ≠ ((.slice Ao22 t243.length co22) : Value).ownBlock ∧ some k_ ≠ ((.slice Ao25 t246.length co25) : Value).ownBlock ∧ some k_ ≠ ((.slice Ao26 t249.length co26) : Value).ownBlock ∧ some k_ ≠ ((.slice Ao30 t254.length co30) : Value).ownBlock ∧ some k_ ≠ ((.slice Ao34 t257.length co34) : Value).ownBlock ∧ some k_ ≠ ((.slice Ao35 t260.length co35) : Value).ownBlock ∧ some k_ ≠ ((.slice Ao43 t267.length co43) : Value).ownBlock ∧ some k_ ≠ ((.slice Ao44 t270.length co44) : Value).ownBlock) (.slice Ao38 t264.length co38) t264) ∧ Aside0 (Kd.R (Kd.int .i16) 38 wc w.heap.size (fun k_ => some k_ ≠ ((.slice Ao22 t243.length co22) : Value).ownBlock ∧ some k_ ≠ ((.slice Ao25 t246.length co25) : Value).ownBlock ∧ some k_ ≠ ((.slice Ao26 t249.length co26) : Value).ownBlock ∧ some k_ ≠ ((.slice Ao30 t254.length co30) : Value).ownBlock ∧ some k_ ≠ ((.slice Ao34 t257.length co34) : Value).ownBlock ∧ some k_ ≠ ((.slice Ao35 t260.length co35) : Value).ownBlock ∧ some k_ ≠ ((.slice Ao38 t264.length co38) : Value).ownBlock ∧ some k_ ≠ ((.slice Ao44 t270.length co44) : Value).ownBlock) (.slice Ao43 t267.length co43) t267) ∧ Aside0 (Kd.R (Kd.int .i16) 38 wc w.heap.size (fun k_ => some k_ ≠ ((.slice Ao22 t243.length co22) : Value).ownBlock ∧ some k_ ≠ ((.slice Ao25 t246.length co25) : Value).ownBlock ∧ some k_ ≠ ((.slice Ao26 t249.length co26) : Value).ownBlock ∧ some k_ ≠ ((.slice Ao30 t254.length co30) : Value).ownBlock ∧ some k_ ≠ ((.slice Ao34 t257.length co34) : Value).ownBlock ∧ some k_ ≠ ((.slice Ao35 t260.length co35) : Value).ownBlock ∧ some k_ ≠ ((.slice Ao38 t264.length co38) : Value).ownBlock ∧ some k_ ≠ ((.slice Ao43 t267.length co43) : Value).ownBlock) (.slice Ao44 t270.length co44) t270) ∧ Aside0 (wc.heap[gb232]? = some (.cells #[(.slice A0_0 l0_0.length c0_0), (.slice A0_1 l0_1.length c0_1), (.slice A0_2 l0_2.length c0_2)] 24 (0, 0))) ∧ Aside0 (wc.heap[gb253]? = some (.cells #[(.slice Ao22 t243.length co22), (.slice Ao25 t246.length co25), (.slice Ao26 t249.length co26)] 29 (0, 0))) ∧ Aside0 (wc.heap[gb263]? = some (.cells #[(.slice Ao30 t254.length co30), (.slice Ao34 t257.length co34), (.slice Ao35 t260.length co35)] 29 (0, 0))) ∧ Aside0 (wc.heap[gb274]? = some (.cells #[(.slice Ao38 t264.length co38), (.slice Ao43 t267.length co43), (.slice Ao44 t270.length co44)] 29 (0, 0))) ∧ Aside0 (Below w.heap.size w wc))
  case first =>
   have H := HC11.out
   clear HC11
   replace H := Option.bind_eq_some_iff.mp H
   obtain ⟨t275, A450, H⟩ := H
   replace H : (if t275 = true then (laws_FnExactBackwardMachine.j0 k t252 t273 (t273 != t252) l0_0 l0_1 l0_2 t243 t246 t249 t254 t257 t260 t264 t267 t270) else (laws_FnExactBackwardMachine.j0 k t252 t273 true l0_0 l0_1 l0_2 t243 t246 t249 t254 t257 t260 t264 t267 t270)) = some r := H
   have A45 := Aside0.mk A450
   clear A450
   by_cases c46 : t275 = true
   ·subst c46
    have H1 : (laws_FnExactBackwardMachine.j0 k t252 t273 (t273 != t252) l0_0 l0_1 l0_2 t243 t246 t249 t254 t257 t260 t264 t267 t270) = some r := by rw [if_pos rfl] at H; exact H
    clear H
    have H := H1
    clear H1
    have H' := Aside0.mk H
    clear H
    have hnb47 := NB274_232.out
    have hnc47 := NB232_274.out
    have hnb48 := NB274_253.out
    have hnc48 := NB253_274.out
    have hnb49 := NB274_263.out
    have hnc49 := NB263_274.out
    have hcz50_0 : w37.cell? ⟨gb274, 0, none⟩ = some (.slice none 0 0) := (blk_cell BK274.out 0).trans rfl
    have hcz50_1 : w37.cell? ⟨gb274, 1, none⟩ = some (.slice none 0 0) := (blk_cell BK274.out 1).trans rfl
    have hcz50_2 : w37.cell? ⟨gb274, 2, none⟩ = some (.slice none 0 0) := (blk_cell BK274.out 2).trans rfl
    have hfz50_0 := blk_frozen BK274.out 0
    have hfz50_1 := blk_frozen BK274.out 1
    have hfz50_2 := blk_frozen BK274.out 2
    have hnb51 := NB253_232.out
    have hnc51 := NB232_253.out
    have hnb52 := NB253_263.out
    have hnc52 := NB263_253.out
    have hcz53_0 : w37.cell? ⟨gb253, 0, none⟩ = some (.slice Ao22 t243.length co22) := (blk_cell BK253.out 0).trans rfl
    have hcz53_1 : w37.cell? ⟨gb253, 1, none⟩ = some (.slice Ao25 t246.length co25) := (blk_cell BK253.out 1).trans rfl
    have hcz53_2 : w37.cell? ⟨gb253, 2, none⟩ = some (.slice Ao26 t249.length co26) := (blk_cell BK253.out 2).trans rfl
    have hfz53_0 := blk_frozen BK253.out 0
    have hfz53_1 := blk_frozen BK253.out 1
    have hfz53_2 := blk_frozen BK253.out 2
    go_wp2_with (first | ((with_reducible refine gate_callee (f := 19) rfl ?_); refine goesL_ (some 34) rfl rfl Try.func19 (by kernel_rfl) rfl #[.agg #[.slice Ao38 t264.length co38, .slice Ao43 t267.length co43, .slice Ao44 t270.length co44], .agg #[.slice Ao22 t243.length co22, .slice Ao25 t246.length co25, .slice Ao26 t249.length co26]] rfl a3_ ?_; (with_reducible refine (laws_eqMachine.calls k _ _ t264 _ _ t267 _ _ t270 _ _ t243 _ _ t246 _ _ t249 true _ ?side1 ?side2 ?side3 ?side4 ?side5 ?side6 ?side7 ?side8 ?side9 ?side10 ?side11 ?side12 A45.out).mono ?_); (case side1 => exact a110_); (case side2 => exact (Kd.R_reads' HO266.out).2.1); (case side3 => exact a111_); (case side4 => exact (Kd.R_reads' HO269.out).2.1); (case side5 => exact a112_); (case side6 => exact (Kd.R_reads' HO272.out).2.1); (case side7 => exact a113_); (case side8 => exact (Kd.R_reads' HO245.out).2.1); (case side9 => exact a114_); (case side10 => exact (Kd.R_reads' HO248.out).2.1); (case side11 => exact a115_); (case side12 => exact (Kd.R_reads' HO251.out).2.1); rintro e w54 ⟨rfl, hb⟩; refine ⟨_, rfl, ?_⟩; have n0_ := Aside0.mk (Kd.R_below a66_ hb); have n1_ := Aside0.mk (Kd.R_below a67_ hb); have n2_ := Aside0.mk (Kd.R_below a68_ hb); have n3_ := Aside0.mk (Kd.R_below a42_ hb); have n4_ := Aside0.mk (Kd.R_below a43_ hb); have n5_ := Aside0.mk (Kd.R_below a44_ hb); have n6_ := Aside0.mk (Kd.R_below a69_ hb); have n7_ := Aside0.mk (Kd.R_below a70_ hb); have n8_ := Aside0.mk (Kd.R_below a71_ hb); have n9_ := Aside0.mk (Kd.R_below a39_ hb); have n10_ := Aside0.mk (Kd.R_below a40_ hb); have n11_ := Aside0.mk (Kd.R_below a41_ hb); have n12_ := Aside0.mk (blk_below (g := gb232) (o := .cells #[.slice A0_0 l0_0.length c0_0, .slice A0_1 l0_1.length c0_1, .slice A0_2 l0_2.length c0_2] 24 (0, 0)) a50_ hb); have n13_ := Aside0.mk (blk_below (g := gb253) (o := .cells #[.slice Ao22 t243.length co22, .slice Ao25 t246.length co25, .slice Ao26 t249.length co26] 29 (0, 0)) a51_ hb); have n14_ := Aside0.mk (blk_below (g := gb263) (o := .cells #[.slice Ao30 t254.length co30, .slice Ao34 t257.length co34, .slice Ao35 t260.length co35] 29 (0, 0)) a52_ hb); have n15_ := Aside0.mk (blk_below (g := gb274) (o := .cells #[.slice Ao38 t264.length co38, .slice Ao43 t267.length co43, .slice Ao44 t270.length co44] 29 (0, 0)) a48_ hb); have n16_ := Aside0.mk (below_step a1_ hb); clear HO236; clear HO239; clear HO242; clear HO245; clear HO248; clear HO251; clear HO256; clear HO259; clear HO262; clear HO266; clear HO269; clear HO272; clear BK232; clear BK253; clear BK263; clear BK274; clear HB; have HO236 := n0_; have HO239 := n1_; have HO242 := n2_; have HO245 := n3_; have HO248 := n4_; have HO251 := n5_; have HO256 := n6_; have HO259 := n7_; have HO262 := n8_; have HO266 := n9_; have HO269 := n10_; have HO272 := n11_; have BK232 := n12_; have BK253 := n13_; have BK263 := n14_; have BK274 := n15_; have HB := n16_; clear n0_ n1_ n2_ n3_ n4_ n5_ n6_ n7_ n8_ n9_ n10_ n11_ n12_ n13_ n14_ n15_ n16_; (try clear hb); (try clear hb2); (try clear hk); (try clear hi)))
    go_meet
    case rel => exact ⟨_, ((t273 != t252)), a86_, H', ⟨by first | omega | exact Nat.le_refl _⟩, ⟨by (with_reducible repeat (first | apply Kd.R_alloc | apply Kd.R_drewN | apply Kd.R_drew)); exact Kd.R_mono HO245.out (fun _ hk => ⟨hk.1.1.1.1.1.1.1.1.1.1, ⟨hk.1.1.1.1.1.1.1.1.1.2, ⟨hk.1.1.1.1.1.2, ⟨hk.1.1.1.1.2, ⟨hk.1.1.1.2, ⟨hk.1.1.2, ⟨hk.1.2, hk.2⟩⟩⟩⟩⟩⟩⟩)⟩, ⟨by (with_reducible repeat (first | apply Kd.R_alloc | apply Kd.R_drewN | apply Kd.R_drew)); exact Kd.R_mono HO248.out (fun _ hk => ⟨hk.1.1.1.1.1.1.1.1.1.1, ⟨hk.1.1.1.1.1.1.1.1.1.2, ⟨hk.1.1.1.1.1.2, ⟨hk.1.1.1.1.2, ⟨hk.1.1.1.2, ⟨hk.1.1.2, ⟨hk.1.2, hk.2⟩⟩⟩⟩⟩⟩⟩)⟩, ⟨by (with_reducible repeat (first | apply Kd.R_alloc | apply Kd.R_drewN | apply Kd.R_drew)); exact Kd.R_mono HO251.out (fun _ hk => ⟨hk.1.1.1.1.1.1.1.1.1.1, ⟨hk.1.1.1.1.1.1.1.1.1.2, ⟨hk.1.1.1.1.1.2, ⟨hk.1.1.1.1.2, ⟨hk.1.1.1.2, ⟨hk.1.1.2, ⟨hk.1.2, hk.2⟩⟩⟩⟩⟩⟩⟩)⟩, ⟨by (with_reducible repeat (first | apply Kd.R_alloc | apply Kd.R_drewN | apply Kd.R_drew)); exact Kd.R_mono HO256.out (fun _ hk => ⟨hk.1.1.1.1.1.2, ⟨hk.1.1.1.1.2, ⟨hk.1.1.1.2, ⟨hk.1.1.1.1.1.1.1.1.1.1, ⟨hk.1.1.1.1.1.1.1.1.1.2, ⟨hk.1.1.2, ⟨hk.1.2, hk.2⟩⟩⟩⟩⟩⟩⟩)⟩, ⟨by (with_reducible repeat (first | apply Kd.R_alloc | apply Kd.R_drewN | apply Kd.R_drew)); exact Kd.R_mono HO259.out (fun _ hk => ⟨hk.1.1.1.1.1.2, ⟨hk.1.1.1.1.2, ⟨hk.1.1.1.2, ⟨hk.1.1.1.1.1.1.1.1.1.1, ⟨hk.1.1.1.1.1.1.1.1.1.2, ⟨hk.1.1.2, ⟨hk.1.2, hk.2⟩⟩⟩⟩⟩⟩⟩)⟩, ⟨by (with_reducible repeat (first | apply Kd.R_alloc | apply Kd.R_drewN | apply Kd.R_drew)); exact Kd.R_mono HO262.out (fun _ hk => ⟨hk.1.1.1.1.1.2, ⟨hk.1.1.1.1.2, ⟨hk.1.1.1.2, ⟨hk.1.1.1.1.1.1.1.1.1.1, ⟨hk.1.1.1.1.1.1.1.1.1.2, ⟨hk.1.1.2, ⟨hk.1.2, hk.2⟩⟩⟩⟩⟩⟩⟩)⟩, ⟨by (with_reducible repeat (first | apply Kd.R_alloc | apply Kd.R_drewN | apply Kd.R_drew)); exact Kd.R_mono HO266.out (fun _ hk => ⟨hk.1.1.1.1.1.2, ⟨hk.1.1.1.1.2, ⟨hk.1.1.1.2, ⟨hk.1.1.2, ⟨hk.1.2, ⟨hk.2, ⟨hk.1.1.1.1.1.1.1.1.1.1, hk.1.1.1.1.1.1.1.1.1.2⟩⟩⟩⟩⟩⟩⟩)⟩, ⟨by (with_reducible repeat (first | apply Kd.R_alloc | apply Kd.R_drewN | apply Kd.R_drew)); exact Kd.R_mono HO269.out (fun _ hk => ⟨hk.1.1.1.1.1.2, ⟨hk.1.1.1.1.2, ⟨hk.1.1.1.2, ⟨hk.1.1.2, ⟨hk.1.2, ⟨hk.2, ⟨hk.1.1.1.1.1.1.1.1.1.1, hk.1.1.1.1.1.1.1.1.1.2⟩⟩⟩⟩⟩⟩⟩)⟩, ⟨by (with_reducible repeat (first | apply Kd.R_alloc | apply Kd.R_drewN | apply Kd.R_drew)); exact Kd.R_mono HO272.out (fun _ hk => ⟨hk.1.1.1.1.1.2, ⟨hk.1.1.1.1.2, ⟨hk.1.1.1.2, ⟨hk.1.1.2, ⟨hk.1.2, ⟨hk.2, ⟨hk.1.1.1.1.1.1.1.1.1.1, hk.1.1.1.1.1.1.1.1.1.2⟩⟩⟩⟩⟩⟩⟩)⟩, ⟨by (with_reducible repeat (first | refine blk_drewN ?_ _ | refine blk_drew ?_ | refine blk_alloc ?_ _)); exact BK232.out⟩, ⟨by (with_reducible repeat (first | refine blk_drewN ?_ _ | refine blk_drew ?_ | refine blk_alloc ?_ _)); exact BK253.out⟩, ⟨by (with_reducible repeat (first | refine blk_drewN ?_ _ | refine blk_drew ?_ | refine blk_alloc ?_ _)); exact BK263.out⟩, ⟨by (with_reducible repeat (first | refine blk_drewN ?_ _ | refine blk_drew ?_ | refine blk_alloc ?_ _)); exact BK274.out⟩, ⟨by repeat (first | (with_reducible first | exact HB.out | apply below_alloc | apply pw_below_drewN | apply below_drew1 | refine below_set ?_ GE232.out | refine below_set ?_ GE253.out | refine below_set ?_ GE263.out | refine below_set ?_ GE274.out) | exact HB.out)⟩⟩
   ·replace c46 := Bool.eq_false_iff.mpr c46
    subst c46
    have H1 : (laws_FnExactBackwardMachine.j0 k t252 t273 true l0_0 l0_1 l0_2 t243 t246 t249 t254 t257 t260 t264 t267 t270) = some r := by rw [if_neg (show ¬ (false = true) by decide)] at H; exact H
    clear H
    have H := H1
    clear H1
    have H' := Aside0.mk H
    clear H
    have hnb55 := NB274_232.out
    have hnc55 := NB232_274.out
    have hnb56 := NB274_253.out
    have hnc56 := NB253_274.out
    have hnb57 := NB274_263.out
    have hnc57 := NB263_274.out
    have hcz58_0 : w37.cell? ⟨gb274, 0, none⟩ = some (.slice none 0 0) := (blk_cell BK274.out 0).trans rfl
    have hcz58_1 : w37.cell? ⟨gb274, 1, none⟩ = some (.slice none 0 0) := (blk_cell BK274.out 1).trans rfl
    have hcz58_2 : w37.cell? ⟨gb274, 2, none⟩ = some (.slice none 0 0) := (blk_cell BK274.out 2).trans rfl
    have hfz58_0 := blk_frozen BK274.out 0
    have hfz58_1 := blk_frozen BK274.out 1
    have hfz58_2 := blk_frozen BK274.out 2
    have hnb59 := NB253_232.out
    have hnc59 := NB232_253.out
    have hnb60 := NB253_263.out
    have hnc60 := NB263_253.out
    have hcz61_0 : w37.cell? ⟨gb253, 0, none⟩ = some (.slice Ao22 t243.length co22) := (blk_cell BK253.out 0).trans rfl
    have hcz61_1 : w37.cell? ⟨gb253, 1, none⟩ = some (.slice Ao25 t246.length co25) := (blk_cell BK253.out 1).trans rfl
    have hcz61_2 : w37.cell? ⟨gb253, 2, none⟩ = some (.slice Ao26 t249.length co26) := (blk_cell BK253.out 2).trans rfl
    have hfz61_0 := blk_frozen BK253.out 0
    have hfz61_1 := blk_frozen BK253.out 1
    have hfz61_2 := blk_frozen BK253.out 2
    go_wp2_with (first | ((with_reducible refine gate_callee (f := 19) rfl ?_); refine goesL_ (some 34) rfl rfl Try.func19 (by kernel_rfl) rfl #[.agg #[.slice Ao38 t264.length co38, .slice Ao43 t267.length co43, .slice Ao44 t270.length co44], .agg #[.slice Ao22 t243.length co22, .slice Ao25 t246.length co25, .slice Ao26 t249.length co26]] rfl a3_ ?_; (with_reducible refine (laws_eqMachine.calls k _ _ t264 _ _ t267 _ _ t270 _ _ t243 _ _ t246 _ _ t249 false _ ?side1 ?side2 ?side3 ?side4 ?side5 ?side6 ?side7 ?side8 ?side9 ?side10 ?side11 ?side12 A45.out).mono ?_); (case side1 => exact a110_); (case side2 => exact (Kd.R_reads' HO266.out).2.1); (case side3 => exact a111_); (case side4 => exact (Kd.R_reads' HO269.out).2.1); (case side5 => exact a112_); (case side6 => exact (Kd.R_reads' HO272.out).2.1); (case side7 => exact a113_); (case side8 => exact (Kd.R_reads' HO245.out).2.1); (case side9 => exact a114_); (case side10 => exact (Kd.R_reads' HO248.out).2.1); (case side11 => exact a115_); (case side12 => exact (Kd.R_reads' HO251.out).2.1); rintro e w62 ⟨rfl, hb⟩; refine ⟨_, rfl, ?_⟩; have n0_ := Aside0.mk (Kd.R_below a66_ hb); have n1_ := Aside0.mk (Kd.R_below a67_ hb); have n2_ := Aside0.mk (Kd.R_below a68_ hb); have n3_ := Aside0.mk (Kd.R_below a42_ hb); have n4_ := Aside0.mk (Kd.R_below a43_ hb); have n5_ := Aside0.mk (Kd.R_below a44_ hb); have n6_ := Aside0.mk (Kd.R_below a69_ hb); have n7_ := Aside0.mk (Kd.R_below a70_ hb); have n8_ := Aside0.mk (Kd.R_below a71_ hb); have n9_ := Aside0.mk (Kd.R_below a39_ hb); have n10_ := Aside0.mk (Kd.R_below a40_ hb); have n11_ := Aside0.mk (Kd.R_below a41_ hb); have n12_ := Aside0.mk (blk_below (g := gb232) (o := .cells #[.slice A0_0 l0_0.length c0_0, .slice A0_1 l0_1.length c0_1, .slice A0_2 l0_2.length c0_2] 24 (0, 0)) a50_ hb); have n13_ := Aside0.mk (blk_below (g := gb253) (o := .cells #[.slice Ao22 t243.length co22, .slice Ao25 t246.length co25, .slice Ao26 t249.length co26] 29 (0, 0)) a51_ hb); have n14_ := Aside0.mk (blk_below (g := gb263) (o := .cells #[.slice Ao30 t254.length co30, .slice Ao34 t257.length co34, .slice Ao35 t260.length co35] 29 (0, 0)) a52_ hb); have n15_ := Aside0.mk (blk_below (g := gb274) (o := .cells #[.slice Ao38 t264.length co38, .slice Ao43 t267.length co43, .slice Ao44 t270.length co44] 29 (0, 0)) a48_ hb); have n16_ := Aside0.mk (below_step a1_ hb); clear HO236; clear HO239; clear HO242; clear HO245; clear HO248; clear HO251; clear HO256; clear HO259; clear HO262; clear HO266; clear HO269; clear HO272; clear BK232; clear BK253; clear BK263; clear BK274; clear HB; have HO236 := n0_; have HO239 := n1_; have HO242 := n2_; have HO245 := n3_; have HO248 := n4_; have HO251 := n5_; have HO256 := n6_; have HO259 := n7_; have HO262 := n8_; have HO266 := n9_; have HO269 := n10_; have HO272 := n11_; have BK232 := n12_; have BK253 := n13_; have BK263 := n14_; have BK274 := n15_; have HB := n16_; clear n0_ n1_ n2_ n3_ n4_ n5_ n6_ n7_ n8_ n9_ n10_ n11_ n12_ n13_ n14_ n15_ n16_; (try clear hb); (try clear hb2); (try clear hk); (try clear hi)))
    go_meet
    case rel => exact ⟨_, (true), a86_, H', ⟨by first | omega | exact Nat.le_refl _⟩, ⟨by (with_reducible repeat (first | apply Kd.R_alloc | apply Kd.R_drewN | apply Kd.R_drew)); exact Kd.R_mono HO245.out (fun _ hk => ⟨hk.1.1.1.1.1.1.1.1.1.1, ⟨hk.1.1.1.1.1.1.1.1.1.2, ⟨hk.1.1.1.1.1.2, ⟨hk.1.1.1.1.2, ⟨hk.1.1.1.2, ⟨hk.1.1.2, ⟨hk.1.2, hk.2⟩⟩⟩⟩⟩⟩⟩)⟩, ⟨by (with_reducible repeat (first | apply Kd.R_alloc | apply Kd.R_drewN | apply Kd.R_drew)); exact Kd.R_mono HO248.out (fun _ hk => ⟨hk.1.1.1.1.1.1.1.1.1.1, ⟨hk.1.1.1.1.1.1.1.1.1.2, ⟨hk.1.1.1.1.1.2, ⟨hk.1.1.1.1.2, ⟨hk.1.1.1.2, ⟨hk.1.1.2, ⟨hk.1.2, hk.2⟩⟩⟩⟩⟩⟩⟩)⟩, ⟨by (with_reducible repeat (first | apply Kd.R_alloc | apply Kd.R_drewN | apply Kd.R_drew)); exact Kd.R_mono HO251.out (fun _ hk => ⟨hk.1.1.1.1.1.1.1.1.1.1, ⟨hk.1.1.1.1.1.1.1.1.1.2, ⟨hk.1.1.1.1.1.2, ⟨hk.1.1.1.1.2, ⟨hk.1.1.1.2, ⟨hk.1.1.2, ⟨hk.1.2, hk.2⟩⟩⟩⟩⟩⟩⟩)⟩, ⟨by (with_reducible repeat (first | apply Kd.R_alloc | apply Kd.R_drewN | apply Kd.R_drew)); exact Kd.R_mono HO256.out (fun _ hk => ⟨hk.1.1.1.1.1.2, ⟨hk.1.1.1.1.2, ⟨hk.1.1.1.2, ⟨hk.1.1.1.1.1.1.1.1.1.1, ⟨hk.1.1.1.1.1.1.1.1.1.2, ⟨hk.1.1.2, ⟨hk.1.2, hk.2⟩⟩⟩⟩⟩⟩⟩)⟩, ⟨by (with_reducible repeat (first | apply Kd.R_alloc | apply Kd.R_drewN | apply Kd.R_drew)); exact Kd.R_mono HO259.out (fun _ hk => ⟨hk.1.1.1.1.1.2, ⟨hk.1.1.1.1.2, ⟨hk.1.1.1.2, ⟨hk.1.1.1.1.1.1.1.1.1.1, ⟨hk.1.1.1.1.1.1.1.1.1.2, ⟨hk.1.1.2, ⟨hk.1.2, hk.2⟩⟩⟩⟩⟩⟩⟩)⟩, ⟨by (with_reducible repeat (first | apply Kd.R_alloc | apply Kd.R_drewN | apply Kd.R_drew)); exact Kd.R_mono HO262.out (fun _ hk => ⟨hk.1.1.1.1.1.2, ⟨hk.1.1.1.1.2, ⟨hk.1.1.1.2, ⟨hk.1.1.1.1.1.1.1.1.1.1, ⟨hk.1.1.1.1.1.1.1.1.1.2, ⟨hk.1.1.2, ⟨hk.1.2, hk.2⟩⟩⟩⟩⟩⟩⟩)⟩, ⟨by (with_reducible repeat (first | apply Kd.R_alloc | apply Kd.R_drewN | apply Kd.R_drew)); exact Kd.R_mono HO266.out (fun _ hk => ⟨hk.1.1.1.1.1.2, ⟨hk.1.1.1.1.2, ⟨hk.1.1.1.2, ⟨hk.1.1.2, ⟨hk.1.2, ⟨hk.2, ⟨hk.1.1.1.1.1.1.1.1.1.1, hk.1.1.1.1.1.1.1.1.1.2⟩⟩⟩⟩⟩⟩⟩)⟩, ⟨by (with_reducible repeat (first | apply Kd.R_alloc | apply Kd.R_drewN | apply Kd.R_drew)); exact Kd.R_mono HO269.out (fun _ hk => ⟨hk.1.1.1.1.1.2, ⟨hk.1.1.1.1.2, ⟨hk.1.1.1.2, ⟨hk.1.1.2, ⟨hk.1.2, ⟨hk.2, ⟨hk.1.1.1.1.1.1.1.1.1.1, hk.1.1.1.1.1.1.1.1.1.2⟩⟩⟩⟩⟩⟩⟩)⟩, ⟨by (with_reducible repeat (first | apply Kd.R_alloc | apply Kd.R_drewN | apply Kd.R_drew)); exact Kd.R_mono HO272.out (fun _ hk => ⟨hk.1.1.1.1.1.2, ⟨hk.1.1.1.1.2, ⟨hk.1.1.1.2, ⟨hk.1.1.2, ⟨hk.1.2, ⟨hk.2, ⟨hk.1.1.1.1.1.1.1.1.1.1, hk.1.1.1.1.1.1.1.1.1.2⟩⟩⟩⟩⟩⟩⟩)⟩, ⟨by (with_reducible repeat (first | refine blk_drewN ?_ _ | refine blk_drew ?_ | refine blk_alloc ?_ _)); exact BK232.out⟩, ⟨by (with_reducible repeat (first | refine blk_drewN ?_ _ | refine blk_drew ?_ | refine blk_alloc ?_ _)); exact BK253.out⟩, ⟨by (with_reducible repeat (first | refine blk_drewN ?_ _ | refine blk_drew ?_ | refine blk_alloc ?_ _)); exact BK263.out⟩, ⟨by (with_reducible repeat (first | refine blk_drewN ?_ _ | refine blk_drew ?_ | refine blk_alloc ?_ _)); exact BK274.out⟩, ⟨by repeat (first | (with_reducible first | exact HB.out | apply below_alloc | apply pw_below_drewN | apply below_drew1 | refine below_set ?_ GE232.out | refine below_set ?_ GE253.out | refine below_set ?_ GE263.out | refine below_set ?_ GE274.out) | exact HB.out)⟩⟩
  case rest =>
   clear HC11
   try clear c1
   try clear c2
   try clear p2
   try clear c3
   try clear c3b0
   try clear c4
   try clear c5
   try clear c6
   try clear c15
   try clear c17
   try clear c19
   try clear c23
   try clear c24
   try clear c25
   try clear c31
   try clear c32
   try clear c39
   try clear c40
   try clear c41
   try clear c46
   try clear c47
   try clear c48
   try clear c49
   try clear c51
   try clear c52
   try clear c55
   try clear c56
   try clear c57
   try clear c59
   try clear c60
   try clear hcz13_0
   try clear hcz13_1
   try clear hcz13_2
   try clear hcz15_0
   try clear hcz15_1
   try clear hcz15_2
   try clear hcz24_0
   try clear hcz24_1
   try clear hcz24_2
   try clear hcz27_0
   try clear hcz27_1
   try clear hcz27_2
   try clear hcz33_0
   try clear hcz33_1
   try clear hcz33_2
   try clear hcz42_0
   try clear hcz42_1
   try clear hcz42_2
   try clear hcz50_0
   try clear hcz50_1
   try clear hcz50_2
   try clear hcz53_0
   try clear hcz53_1
   try clear hcz53_2
   try clear hcz58_0
   try clear hcz58_1
   try clear hcz58_2
   try clear hcz5_0
   try clear hcz5_1
   try clear hcz5_2
   try clear hcz61_0
   try clear hcz61_1
   try clear hcz61_2
   try clear hfz13_0
   try clear hfz13_1
   try clear hfz13_2
   try clear hfz15_0
   try clear hfz15_1
   try clear hfz15_2
   try clear hfz24_0
   try clear hfz24_1
   try clear hfz24_2
   try clear hfz27_0
   try clear hfz27_1
   try clear hfz27_2
   try clear hfz33_0
   try clear hfz33_1
   try clear hfz33_2
   try clear hfz42_0
   try clear hfz42_1
   try clear hfz42_2
   try clear hfz50_0
   try clear hfz50_1
   try clear hfz50_2
   try clear hfz53_0
   try clear hfz53_1
   try clear hfz53_2
   try clear hfz58_0
   try clear hfz58_1
   try clear hfz58_2
   try clear hfz5_0
   try clear hfz5_1
   try clear hfz5_2
   try clear hfz61_0
   try clear hfz61_1
   try clear hfz61_2
   obtain ⟨kq, x40_10, rfl, HA, HJ10, HO_254000, HO_254001, HO_254002, HO_264000, HO_264001, HO_264002, HO_275000, HO_275001, HO_275002, BK232, BK253, BK263, BK274, HB⟩ := hcut
   cases kq with
   | zero => exact absurd HA.out (by simp [laws_FnExactBackwardMachine.j0])
   | succ kj10 =>
    have H := HA.out
    clear HA
    simp only [laws_FnExactBackwardMachine.j0] at H
    by_cases c63 : x40_10 = true
    ·subst c63
     have H1 : (some false) = some r := by rw [if_pos rfl] at H; exact H
     clear H
     have H := H1
     clear H1
     obtain rfl := Option.some.inj H
     go_wp2
     go_ret
     exact ⟨by first | rfl | (simp [errW_none, errW_some] <;> rfl) | (simp [*, errW_none, errW_some] <;> rfl), by repeat (first | (with_reducible first | exact HB.out | apply below_alloc | apply pw_below_drewN | apply below_drew1 | refine below_set ?_ GE232.out | refine below_set ?_ GE253.out | refine below_set ?_ GE263.out | refine below_set ?_ GE274.out) | exact HB.out)⟩
    ·replace c63 := Bool.eq_false_iff.mpr c63
     subst c63
     have H1 : ((laws_toMachine.f kj10 l0_0 l0_1 l0_2).bind fun bt276 => ((laws_eqMachine.f kj10 t254 t257 t260 bt276.1 bt276.2.1 bt276.2.2).bind fun t285 => (if t285 = true then ((laws_markMachine.f kj10 t254 t257 t260 1).bind fun bt286 => (if bt286.1 < 0 then (laws_FnExactBackwardMachine.j1 kj10 t252 true l0_0 l0_1 l0_2 t243 t246 t249 t264 t267 t270) else ((laws_eqMachine.f kj10 t264 t267 t270 t243 t246 t249).bind fun t290 => (if t290 = true then (laws_FnExactBackwardMachine.j1 kj10 t252 (t273 != t252) l0_0 l0_1 l0_2 t243 t246 t249 t264 t267 t270) else (laws_FnExactBackwardMachine.j1 kj10 t252 true l0_0 l0_1 l0_2 t243 t246 t249 t264 t267 t270))))) else (some false)))) = some r := by rw [if_neg (show ¬ (false = true) by decide)] at H; exact H
     clear H
     have H := H1
     clear H1
     replace H := Option.bind_eq_some_iff.mp H
     obtain ⟨⟨t276, t279, t282⟩, A640, H⟩ := H
     replace H : ((laws_eqMachine.f kj10 t254 t257 t260 t276 t279 t282).bind fun t285 => (if t285 = true then ((laws_markMachine.f kj10 t254 t257 t260 1).bind fun bt286 => (if bt286.1 < 0 then (laws_FnExactBackwardMachine.j1 kj10 t252 true l0_0 l0_1 l0_2 t243 t246 t249 t264 t267 t270) else ((laws_eqMachine.f kj10 t264 t267 t270 t243 t246 t249).bind fun t290 => (if t290 = true then (laws_FnExactBackwardMachine.j1 kj10 t252 (t273 != t252) l0_0 l0_1 l0_2 t243 t246 t249 t264 t267 t270) else (laws_FnExactBackwardMachine.j1 kj10 t252 true l0_0 l0_1 l0_2 t243 t246 t249 t264 t267 t270))))) else (some false))) = some r := H
     have A64 := Aside0.mk A640
     clear A640
     replace H := Option.bind_eq_some_iff.mp H
     obtain ⟨t285, A650, H⟩ := H
     replace H : (if t285 = true then ((laws_markMachine.f kj10 t254 t257 t260 1).bind fun bt286 => (if bt286.1 < 0 then (laws_FnExactBackwardMachine.j1 kj10 t252 true l0_0 l0_1 l0_2 t243 t246 t249 t264 t267 t270) else ((laws_eqMachine.f kj10 t264 t267 t270 t243 t246 t249).bind fun t290 => (if t290 = true then (laws_FnExactBackwardMachine.j1 kj10 t252 (t273 != t252) l0_0 l0_1 l0_2 t243 t246 t249 t264 t267 t270) else (laws_FnExactBackwardMachine.j1 kj10 t252 true l0_0 l0_1 l0_2 t243 t246 t249 t264 t267 t270))))) else (some false)) = some r := H
     have A65 := Aside0.mk A650
     clear A650
     by_cases c66 : t285 = true
     ·subst c66
      have H1 : ((laws_markMachine.f kj10 t254 t257 t260 1).bind fun bt286 => (if bt286.1 < 0 then (laws_FnExactBackwardMachine.j1 kj10 t252 true l0_0 l0_1 l0_2 t243 t246 t249 t264 t267 t270) else ((laws_eqMachine.f kj10 t264 t267 t270 t243 t246 t249).bind fun t290 => (if t290 = true then (laws_FnExactBackwardMachine.j1 kj10 t252 (t273 != t252) l0_0 l0_1 l0_2 t243 t246 t249 t264 t267 t270) else (laws_FnExactBackwardMachine.j1 kj10 t252 true l0_0 l0_1 l0_2 t243 t246 t249 t264 t267 t270))))) = some r := by rw [if_pos rfl] at H; exact H
      clear H
      have H := H1
      clear H1
      replace H := Option.bind_eq_some_iff.mp H
      obtain ⟨⟨t286, t287, t288, t289⟩, A670, H⟩ := H
      replace H : (if t286 < 0 then (laws_FnExactBackwardMachine.j1 kj10 t252 true l0_0 l0_1 l0_2 t243 t246 t249 t264 t267 t270) else ((laws_eqMachine.f kj10 t264 t267 t270 t243 t246 t249).bind fun t290 => (if t290 = true then (laws_FnExactBackwardMachine.j1 kj10 t252 (t273 != t252) l0_0 l0_1 l0_2 t243 t246 t249 t264 t267 t270) else (laws_FnExactBackwardMachine.j1 kj10 t252 true l0_0 l0_1 l0_2 t243 t246 t249 t264 t267 t270)))) = some r := H
      have A67 := Aside0.mk A670
      clear A670
      have HC68 := Aside0.mk H
      clear H
      try go_wp2
      have n0_ := Aside0.mk (Kd.R_drew HO_254000.out)
      have n1_ := Aside0.mk (Kd.R_drew HO_254001.out)
      have n2_ := Aside0.mk (Kd.R_drew HO_254002.out)
      have n3_ := Aside0.mk (Kd.R_drew HO_264000.out)
      have n4_ := Aside0.mk (Kd.R_drew HO_264001.out)
      have n5_ := Aside0.mk (Kd.R_drew HO_264002.out)
      have n6_ := Aside0.mk (Kd.R_drew HO_275000.out)
      have n7_ := Aside0.mk (Kd.R_drew HO_275001.out)
      have n8_ := Aside0.mk (Kd.R_drew HO_275002.out)
      have n9_ := Aside0.mk (blk_drew BK232.out)
      have n10_ := Aside0.mk (blk_drew BK253.out)
      have n11_ := Aside0.mk (blk_drew BK263.out)
      have n12_ := Aside0.mk (blk_drew BK274.out)
      have n13_ := Aside0.mk (below_drew1 HB.out)
      clear HO_254000 HO_254001 HO_254002 HO_264000 HO_264001 HO_264002 HO_275000 HO_275001 HO_275002 BK232 BK253 BK263 BK274 HB; have HO_254000 := n0_; have HO_254001 := n1_; have HO_254002 := n2_; have HO_264000 := n3_; have HO_264001 := n4_; have HO_264002 := n5_; have HO_275000 := n6_; have HO_275001 := n7_; have HO_275002 := n8_; have BK232 := n9_; have BK253 := n10_; have BK263 := n11_; have BK274 := n12_; have HB := n13_; clear n0_ n1_ n2_ n3_ n4_ n5_ n6_ n7_ n8_ n9_ n10_ n11_ n12_ n13_
      refine start_ (n := 5) (S := fun w' => w'.cell? ⟨gb263, 0, none⟩ = some (.slice Ao30 t254.length co30) ∧ w'.cell? ⟨gb263, 1, none⟩ = some (.slice Ao34 t257.length co34) ∧ w'.cell? ⟨gb263, 2, none⟩ = some (.slice Ao35 t260.length co35) ∧ w'.cell? ⟨gb232, 0, none⟩ = some (.slice A0_0 l0_0.length c0_0) ∧ w'.cell? ⟨gb232, 1, none⟩ = some (.slice A0_1 l0_1.length c0_1) ∧ w'.cell? ⟨gb232, 2, none⟩ = some (.slice A0_2 l0_2.length c0_2)) (ds := []) #[false, false, false, false, false] (by kernel_rfl) rfl rfl ⟨(blk_cell BK263.out 0).trans rfl, (blk_cell BK263.out 1).trans rfl, (blk_cell BK263.out 2).trans rfl, (blk_cell BK232.out 0).trans rfl, (blk_cell BK232.out 1).trans rfl, (blk_cell BK232.out 2).trans rfl⟩ (fun hHeld => ?_)
      generalize wc.drew = w69 at HO_254000 HO_254001 HO_254002 HO_264000 HO_264001 HO_264002 HO_275000 HO_275001 HO_275002 BK232 BK253 BK263 BK274 HB hHeld ⊢
      refine take_ (i := 0) (N := some 41) (v := ?_) (a' := ?_) #[true, false, false, false, false] rfl rfl (by kernel_rfl) (fun _ _ _ h => h) (Or.inl ⟨by rfl, ?_⟩) hHeld ?_ ?_
      rotate_left
      ·rintro w' ⟨s0, s1, s2, s3, s4, s5⟩
       go_simp; with_reducible rfl
      rotate_left
      ·simp only [Act.put, List.setIfInBounds_toArray, List.set_cons_zero, List.set_cons_succ, i64_w, i32_w]
       rfl
      refine take_ (i := 1) (N := some 42) (v := ?_) (a' := ?_) #[true, true, false, false, false] rfl rfl (by kernel_rfl) (fun _ _ _ h => h) (Or.inl ⟨by rfl, ?_⟩) hHeld ?_ ?_
      rotate_left
      ·rintro w' ⟨s0, s1, s2, s3, s4, s5⟩
       go_simp; with_reducible rfl
      rotate_left
      ·simp only [Act.put, List.setIfInBounds_toArray, List.set_cons_zero, List.set_cons_succ, i64_w, i32_w]
       rfl
      refine one_ (i := 2) (N := some 43) #[true, true, true, false, false] rfl rfl (by kernel_rfl) (by decide) (fun K hK => ?_)
      refine goes_ Try.func17 (by kernel_rfl) rfl #[.agg #[.slice A0_0 l0_0.length c0_0, .slice A0_1 l0_1.length c0_1, .slice A0_2 l0_2.length c0_2]] (by rfl) rfl rfl a3_ ?_
      with_reducible refine (laws_toMachine.calls kj10 _ _ l0_0 _ _ l0_1 _ _ l0_2 t276 t279 t282 _ ?side1 ?side2 ?side3 ?side4 ?side5 ?side6 A64.out).mono ?_
      (case side1 => exact a106_); (case side2 => exact HC0_0.out); (case side3 => exact a107_); (case side4 => exact HC0_1.out); (case side5 => exact a108_); (case side6 => exact HC0_2.out)
      rintro e w70 ⟨v277, v280, v283, rfl, ho0, ho1, ho2, hb⟩
      refine ⟨_, rfl, ?_⟩
      have n0_ := Aside0.mk (Kd.R_mono (Kd.R_told (Kd.R_told (Kd.R_told (Kd.R_old a5_ hb) (Kd.R_base ho0)) (Kd.R_base ho1)) (Kd.R_base ho2)) (fun _ h_ => h_.1))
      have n1_ := Aside0.mk (Kd.R_mono (Kd.R_told (Kd.R_told (Kd.R_told (Kd.R_old a6_ hb) (Kd.R_base ho0)) (Kd.R_base ho1)) (Kd.R_base ho2)) (fun _ h_ => h_.1))
      have n2_ := Aside0.mk (Kd.R_mono (Kd.R_told (Kd.R_told (Kd.R_told (Kd.R_old a7_ hb) (Kd.R_base ho0)) (Kd.R_base ho1)) (Kd.R_base ho2)) (fun _ h_ => h_.1))
      have n3_ := Aside0.mk (Kd.R_mono (Kd.R_told (Kd.R_told (Kd.R_told (Kd.R_old a8_ hb) (Kd.R_base ho0)) (Kd.R_base ho1)) (Kd.R_base ho2)) (fun _ h_ => h_.1))
      have n4_ := Aside0.mk (Kd.R_mono (Kd.R_told (Kd.R_told (Kd.R_told (Kd.R_old a9_ hb) (Kd.R_base ho0)) (Kd.R_base ho1)) (Kd.R_base ho2)) (fun _ h_ => h_.1))
      have n5_ := Aside0.mk (Kd.R_mono (Kd.R_told (Kd.R_told (Kd.R_told (Kd.R_old a10_ hb) (Kd.R_base ho0)) (Kd.R_base ho1)) (Kd.R_base ho2)) (fun _ h_ => h_.1))
      have n6_ := Aside0.mk (Kd.R_mono (Kd.R_told (Kd.R_told (Kd.R_told (Kd.R_old a11_ hb) (Kd.R_base ho0)) (Kd.R_base ho1)) (Kd.R_base ho2)) (fun _ h_ => h_.1))
      have n7_ := Aside0.mk (Kd.R_mono (Kd.R_told (Kd.R_told (Kd.R_told (Kd.R_old a12_ hb) (Kd.R_base ho0)) (Kd.R_base ho1)) (Kd.R_base ho2)) (fun _ h_ => h_.1))
      have n8_ := Aside0.mk (Kd.R_mono (Kd.R_told (Kd.R_told (Kd.R_told (Kd.R_old a13_ hb) (Kd.R_base ho0)) (Kd.R_base ho1)) (Kd.R_base ho2)) (fun _ h_ => h_.1))
      have n9_ := Aside0.mk (Kd.R_lower (Kd.R_new' (Kd.R_new' (Kd.R_new' (Kd.R_new' (Kd.R_new' (Kd.R_new' (Kd.R_new' (Kd.R_new' (Kd.R_new' ho0 (Kd.R_lt a5_)) (Kd.R_lt a6_)) (Kd.R_lt a7_)) (Kd.R_lt a8_)) (Kd.R_lt a9_)) (Kd.R_lt a10_)) (Kd.R_lt a11_)) (Kd.R_lt a12_)) (Kd.R_lt a13_)) (below_size a1_))
      have n10_ := Aside0.mk (Kd.R_lower (Kd.R_new' (Kd.R_new' (Kd.R_new' (Kd.R_new' (Kd.R_new' (Kd.R_new' (Kd.R_new' (Kd.R_new' (Kd.R_new' ho1 (Kd.R_lt a5_)) (Kd.R_lt a6_)) (Kd.R_lt a7_)) (Kd.R_lt a8_)) (Kd.R_lt a9_)) (Kd.R_lt a10_)) (Kd.R_lt a11_)) (Kd.R_lt a12_)) (Kd.R_lt a13_)) (below_size a1_))
      have n11_ := Aside0.mk (Kd.R_lower (Kd.R_new' (Kd.R_new' (Kd.R_new' (Kd.R_new' (Kd.R_new' (Kd.R_new' (Kd.R_new' (Kd.R_new' (Kd.R_new' ho2 (Kd.R_lt a5_)) (Kd.R_lt a6_)) (Kd.R_lt a7_)) (Kd.R_lt a8_)) (Kd.R_lt a9_)) (Kd.R_lt a10_)) (Kd.R_lt a11_)) (Kd.R_lt a12_)) (Kd.R_lt a13_)) (below_size a1_))
      have n12_ := Aside0.mk (blk_below (g := gb232) a2_ hb)
      have n13_ := Aside0.mk (blk_below (g := gb253) a4_ hb)
      have n14_ := Aside0.mk (blk_below (g := gb263) a14_ hb)
      have n15_ := Aside0.mk (blk_below (g := gb274) a15_ hb)
      have n16_ := Aside0.mk (below_step a1_ hb)
      clear HO_254000 HO_254001 HO_254002 HO_264000 HO_264001 HO_264002 HO_275000 HO_275001 HO_275002 BK232 BK253 BK263 BK274 HB; have HO_254000 := n0_; have HO_254001 := n1_; have HO_254002 := n2_; have HO_264000 := n3_; have HO_264001 := n4_; have HO_264002 := n5_; have HO_275000 := n6_; have HO_275001 := n7_; have HO_275002 := n8_; have HO278 := n9_; have HO281 := n10_; have HO284 := n11_; have BK232 := n12_; have BK253 := n13_; have BK263 := n14_; have BK274 := n15_; have HB := n16_; clear n0_ n1_ n2_ n3_ n4_ n5_ n6_ n7_ n8_ n9_ n10_ n11_ n12_ n13_ n14_ n15_ n16_; (try clear hb); (try clear hb2); (try clear hk); (try clear hi); (try clear ho0); (try clear ho1); (try clear ho2)
      obtain ⟨Ao71, co71, eo71⟩ := Kd.R_slice HO278.out
      (first | subst eo71 | (injection eo71 with f1_ f2_ f3_; have f4_ := f1_.symm; have f5_ := f3_.symm; clear f1_ f2_ f3_; subst f4_; subst f5_))
      obtain ⟨Ao72, co72, eo72⟩ := Kd.R_slice HO281.out
      (first | subst eo72 | (injection eo72 with f1_ f2_ f3_; have f4_ := f1_.symm; have f5_ := f3_.symm; clear f1_ f2_ f3_; subst f4_; subst f5_))
      obtain ⟨Ao73, co73, eo73⟩ := Kd.R_slice HO284.out
      (first | subst eo73 | (injection eo73 with f1_ f2_ f3_; have f4_ := f1_.symm; have f5_ := f3_.symm; clear f1_ f2_ f3_; subst f4_; subst f5_))
      refine hK.out _ _ ⟨(blk_cell BK263.out 0).trans rfl, (blk_cell BK263.out 1).trans rfl, (blk_cell BK263.out 2).trans rfl, (blk_cell BK232.out 0).trans rfl, (blk_cell BK232.out 1).trans rfl, (blk_cell BK232.out 2).trans rfl⟩ (fun hHeld => ?_)
      clear hK K; refine norm_ (a' := ?_) ?_ ?_; rotate_left
      ·show Act.put _ (some 43) _ = _
       simp only [Act.put, List.setIfInBounds_toArray, List.set_cons_zero, List.set_cons_succ, i64_w, i32_w]
       rfl
      refine one_ (i := 3) (N := some 44) #[true, true, true, true, false] rfl rfl (by kernel_rfl) (by decide) (fun K hK => ?_)
      refine goes_ Try.func19 (by kernel_rfl) rfl #[.agg #[.slice Ao30 t254.length co30, .slice Ao34 t257.length co34, .slice Ao35 t260.length co35], .agg #[.slice Ao71 t276.length co71, .slice Ao72 t279.length co72, .slice Ao73 t282.length co73]] (by rfl) rfl rfl a3_ ?_
      with_reducible refine (laws_eqMachine.calls kj10 _ _ t254 _ _ t257 _ _ t260 _ _ t276 _ _ t279 _ _ t282 true _ ?side1 ?side2 ?side3 ?side4 ?side5 ?side6 ?side7 ?side8 ?side9 ?side10 ?side11 ?side12 A65.out).mono ?_
      (case side1 => exact a116_)
      (case side2 => exact (Kd.R_reads' HO_264000.out).2.1)
      (case side3 => exact a117_)
      (case side4 => exact (Kd.R_reads' HO_264001.out).2.1)
      (case side5 => exact a118_)
      (case side6 => exact (Kd.R_reads' HO_264002.out).2.1)
      (case side7 => exact a122_)
      (case side8 => exact (Kd.R_reads' HO278.out).2.1)
      (case side9 => exact a123_)
      (case side10 => exact (Kd.R_reads' HO281.out).2.1)
      (case side11 => exact a124_)
      (case side12 => exact (Kd.R_reads' HO284.out).2.1)
      rintro e w74 ⟨rfl, hb⟩
      refine ⟨_, rfl, ?_⟩
      have n0_ := Aside0.mk (Kd.R_below a5_ hb)
      have n1_ := Aside0.mk (Kd.R_below a6_ hb)
      have n2_ := Aside0.mk (Kd.R_below a7_ hb)
      have n3_ := Aside0.mk (Kd.R_below a8_ hb)
      have n4_ := Aside0.mk (Kd.R_below a9_ hb)
      have n5_ := Aside0.mk (Kd.R_below a10_ hb)
      have n6_ := Aside0.mk (Kd.R_below a11_ hb)
      have n7_ := Aside0.mk (Kd.R_below a12_ hb)
      have n8_ := Aside0.mk (Kd.R_below a13_ hb)
      have n9_ := Aside0.mk (Kd.R_below a79_ hb)
      have n10_ := Aside0.mk (Kd.R_below a80_ hb)
      have n11_ := Aside0.mk (Kd.R_below a81_ hb)
      have n12_ := Aside0.mk (blk_below (g := gb232) a2_ hb)
      have n13_ := Aside0.mk (blk_below (g := gb253) a4_ hb)
      have n14_ := Aside0.mk (blk_below (g := gb263) a14_ hb)
      have n15_ := Aside0.mk (blk_below (g := gb274) a15_ hb)
      have n16_ := Aside0.mk (below_step a1_ hb)
      clear HO_254000 HO_254001 HO_254002 HO_264000 HO_264001 HO_264002 HO_275000 HO_275001 HO_275002 HO278 HO281 HO284 BK232 BK253 BK263 BK274 HB; have HO_254000 := n0_; have HO_254001 := n1_; have HO_254002 := n2_; have HO_264000 := n3_; have HO_264001 := n4_; have HO_264002 := n5_; have HO_275000 := n6_; have HO_275001 := n7_; have HO_275002 := n8_; have HO278 := n9_; have HO281 := n10_; have HO284 := n11_; have BK232 := n12_; have BK253 := n13_; have BK263 := n14_; have BK274 := n15_; have HB := n16_; clear n0_ n1_ n2_ n3_ n4_ n5_ n6_ n7_ n8_ n9_ n10_ n11_ n12_ n13_ n14_ n15_ n16_; (try clear hb); (try clear hb2); (try clear hk); (try clear hi)
      refine hK.out _ _ ⟨(blk_cell BK263.out 0).trans rfl, (blk_cell BK263.out 1).trans rfl, (blk_cell BK263.out 2).trans rfl, (blk_cell BK232.out 0).trans rfl, (blk_cell BK232.out 1).trans rfl, (blk_cell BK232.out 2).trans rfl⟩ (fun hHeld => ?_)
      clear hK K; refine norm_ (a' := ?_) ?_ ?_; rotate_left
      ·show Act.put _ (some 44) _ = _
       simp only [Act.put, List.setIfInBounds_toArray, List.set_cons_zero, List.set_cons_succ, i64_w, i32_w]
       rfl
      refine pure_ (i := 4) (N := some 45) (v := ?_) (a' := ?_) #[true, true, true, true, true] rfl rfl (by kernel_rfl) (fun _ _ _ h => h) (Or.inl ⟨by rfl, ?_⟩) ?_ ?_
      rotate_left
      ·intro w'
       go_simp; with_reducible rfl
      rotate_left
      ·simp only [Act.put, List.setIfInBounds_toArray, List.set_cons_zero, List.set_cons_succ, i64_w, i32_w]
       rfl
      refine done_ (by kernel_rfl) ?_
      have hnb75 := NB263_232.out
      have hnc75 := NB232_263.out
      have hnb76 := NB263_253.out
      have hnc76 := NB253_263.out
      have hnb77 := NB263_274.out
      have hnc77 := NB274_263.out
      have hcz78_0 : w74.cell? ⟨gb263, 0, none⟩ = some (.slice Ao30 t254.length co30) := (blk_cell BK263.out 0).trans rfl
      have hcz78_1 : w74.cell? ⟨gb263, 1, none⟩ = some (.slice Ao34 t257.length co34) := (blk_cell BK263.out 1).trans rfl
      have hcz78_2 : w74.cell? ⟨gb263, 2, none⟩ = some (.slice Ao35 t260.length co35) := (blk_cell BK263.out 2).trans rfl
      have hfz78_0 := blk_frozen BK263.out 0
      have hfz78_1 := blk_frozen BK263.out 1
      have hfz78_2 := blk_frozen BK263.out 2
      go_upto_region 14 with (first | ((with_reducible refine gate_callee (f := 22) rfl ?_); refine goesL_ (some 48) rfl rfl Try.func22 (by kernel_rfl) rfl #[.agg #[.slice Ao30 t254.length co30, .slice Ao34 t257.length co34, .slice Ao35 t260.length co35], .int .i64 1] rfl a3_ ?_; (with_reducible refine (laws_markMachine.calls kj10 (fun k_ => some k_ = (.slice Ao30 t254.length co30 : Value).ownBlock) (.slice Ao30 t254.length co30) t254 (fun k_ => some k_ = (.slice Ao34 t257.length co34 : Value).ownBlock) (.slice Ao34 t257.length co34) t257 (fun k_ => some k_ = (.slice Ao35 t260.length co35 : Value).ownBlock) (.slice Ao35 t260.length co35) t260 1 t286 t287 t288 t289 w _ ?side1 ?side2 ?side3 ?side4 ?side5 ?side6 ?side7 ?side8 ?side9 ?side10 A67.out).mono ?_); (case side1 => exact a109_); (case side2 => exact Kd.R_tight rfl HO_264000.out); (case side3 => exact fun k_ e_ => (HO_264000.out.1 k_ e_.symm).1.1.1.2.2.2.1); (case side4 => exact fun k_ e_ => (HO_264000.out.1 k_ e_.symm).1.1.1.2.2.2.2.1); (case side5 => exact Kd.R_tight rfl HO_264001.out); (case side6 => exact fun k_ e_ => (HO_264001.out.1 k_ e_.symm).1.1.1.2.2.2.1); (case side7 => exact fun k_ e_ => (HO_264001.out.1 k_ e_.symm).1.1.1.2.2.2.2.1); (case side8 => exact Kd.R_tight rfl HO_264002.out); (case side9 => exact fun k_ e_ => (HO_264002.out.1 k_ e_.symm).1.1.1.2.2.2.1); (case side10 => exact fun k_ e_ => (HO_264002.out.1 k_ e_.symm).1.1.1.2.2.2.2.1); rintro e w79 ⟨rfl, hy0, hy1, hy2, hb, hkp⟩; refine ⟨_, rfl, ?_⟩; have n0_ := Aside0.mk (Kd.R_mono (ok' := fun k_ => nbk k_ Ao25 t246.length co25 ∧ nbk k_ Ao26 t249.length co26 ∧ nbk k_ Ao30 t254.length co30 ∧ nbk k_ Ao34 t257.length co34 ∧ nbk k_ Ao35 t260.length co35 ∧ nbk k_ Ao38 t264.length co38 ∧ nbk k_ Ao43 t267.length co43 ∧ nbk k_ Ao44 t270.length co44 ∧ nbk k_ Ao71 t276.length co71 ∧ nbk k_ Ao72 t279.length co72 ∧ nbk k_ Ao73 t282.length co73) (Kd.R_keptB (HO_254000.out) hkp (fun k_ hk_ hs_ => Or.elim hs_ (fun e_ => (hk_.1.1.1.2.2.1) e_) (fun e_ => Or.elim e_ (fun e_ => (hk_.1.1.1.2.2.2.1) e_) (fun e_ => (hk_.1.1.1.2.2.2.2.1) e_)))) (fun k_ hk_ => ⟨hk_.1.1.1.1.1, hk_.1.1.1.1.2.1, hk_.1.1.1.1.2.2.1, hk_.1.1.1.1.2.2.2.1, hk_.1.1.1.1.2.2.2.2.1, hk_.1.1.1.1.2.2.2.2.2.1, hk_.1.1.1.1.2.2.2.2.2.2.1, hk_.1.1.1.1.2.2.2.2.2.2.2, hk_.1.1.1.2, hk_.1.1.2, hk_.1.2⟩)); have n1_ := Aside0.mk (Kd.R_mono (ok' := fun k_ => nbk k_ Ao22 t243.length co22 ∧ nbk k_ Ao26 t249.length co26 ∧ nbk k_ Ao30 t254.length co30 ∧ nbk k_ Ao34 t257.length co34 ∧ nbk k_ Ao35 t260.length co35 ∧ nbk k_ Ao38 t264.length co38 ∧ nbk k_ Ao43 t267.length co43 ∧ nbk k_ Ao44 t270.length co44 ∧ nbk k_ Ao71 t276.length co71 ∧ nbk k_ Ao72 t279.length co72 ∧ nbk k_ Ao73 t282.length co73) (Kd.R_keptB (HO_254001.out) hkp (fun k_ hk_ hs_ => Or.elim hs_ (fun e_ => (hk_.1.1.1.2.2.1) e_) (fun e_ => Or.elim e_ (fun e_ => (hk_.1.1.1.2.2.2.1) e_) (fun e_ => (hk_.1.1.1.2.2.2.2.1) e_)))) (fun k_ hk_ => ⟨hk_.1.1.1.1.1, hk_.1.1.1.1.2.1, hk_.1.1.1.1.2.2.1, hk_.1.1.1.1.2.2.2.1, hk_.1.1.1.1.2.2.2.2.1, hk_.1.1.1.1.2.2.2.2.2.1, hk_.1.1.1.1.2.2.2.2.2.2.1, hk_.1.1.1.1.2.2.2.2.2.2.2, hk_.1.1.1.2, hk_.1.1.2, hk_.1.2⟩)); have n2_ := Aside0.mk (Kd.R_mono (ok' := fun k_ => nbk k_ Ao22 t243.length co22 ∧ nbk k_ Ao25 t246.length co25 ∧ nbk k_ Ao30 t254.length co30 ∧ nbk k_ Ao34 t257.length co34 ∧ nbk k_ Ao35 t260.length co35 ∧ nbk k_ Ao38 t264.length co38 ∧ nbk k_ Ao43 t267.length co43 ∧ nbk k_ Ao44 t270.length co44 ∧ nbk k_ Ao71 t276.length co71 ∧ nbk k_ Ao72 t279.length co72 ∧ nbk k_ Ao73 t282.length co73) (Kd.R_keptB (HO_254002.out) hkp (fun k_ hk_ hs_ => Or.elim hs_ (fun e_ => (hk_.1.1.1.2.2.1) e_) (fun e_ => Or.elim e_ (fun e_ => (hk_.1.1.1.2.2.2.1) e_) (fun e_ => (hk_.1.1.1.2.2.2.2.1) e_)))) (fun k_ hk_ => ⟨hk_.1.1.1.1.1, hk_.1.1.1.1.2.1, hk_.1.1.1.1.2.2.1, hk_.1.1.1.1.2.2.2.1, hk_.1.1.1.1.2.2.2.2.1, hk_.1.1.1.1.2.2.2.2.2.1, hk_.1.1.1.1.2.2.2.2.2.2.1, hk_.1.1.1.1.2.2.2.2.2.2.2, hk_.1.1.1.2, hk_.1.1.2, hk_.1.2⟩)); have n3_ := Aside0.mk (Kd.R_reok rfl hy0 (fun k_ e_ => HO_264000.out.1 k_ e_)); have n4_ := Aside0.mk (Kd.R_reok rfl hy1 (fun k_ e_ => HO_264001.out.1 k_ e_)); have n5_ := Aside0.mk (Kd.R_reok rfl hy2 (fun k_ e_ => HO_264002.out.1 k_ e_)); have n6_ := Aside0.mk (Kd.R_mono (ok' := fun k_ => nbk k_ Ao22 t243.length co22 ∧ nbk k_ Ao25 t246.length co25 ∧ nbk k_ Ao26 t249.length co26 ∧ nbk k_ Ao30 t254.length co30 ∧ nbk k_ Ao34 t257.length co34 ∧ nbk k_ Ao35 t260.length co35 ∧ nbk k_ Ao43 t267.length co43 ∧ nbk k_ Ao44 t270.length co44 ∧ nbk k_ Ao71 t276.length co71 ∧ nbk k_ Ao72 t279.length co72 ∧ nbk k_ Ao73 t282.length co73) (Kd.R_keptB (HO_275000.out) hkp (fun k_ hk_ hs_ => Or.elim hs_ (fun e_ => (hk_.1.1.1.2.2.2.1) e_) (fun e_ => Or.elim e_ (fun e_ => (hk_.1.1.1.2.2.2.2.1) e_) (fun e_ => (hk_.1.1.1.2.2.2.2.2.1) e_)))) (fun k_ hk_ => ⟨hk_.1.1.1.1.1, hk_.1.1.1.1.2.1, hk_.1.1.1.1.2.2.1, hk_.1.1.1.1.2.2.2.1, hk_.1.1.1.1.2.2.2.2.1, hk_.1.1.1.1.2.2.2.2.2.1, hk_.1.1.1.1.2.2.2.2.2.2.1, hk_.1.1.1.1.2.2.2.2.2.2.2, hk_.1.1.1.2, hk_.1.1.2, hk_.1.2⟩)); have n7_ := Aside0.mk (Kd.R_mono (ok' := fun k_ => nbk k_ Ao22 t243.length co22 ∧ nbk k_ Ao25 t246.length co25 ∧ nbk k_ Ao26 t249.length co26 ∧ nbk k_ Ao30 t254.length co30 ∧ nbk k_ Ao34 t257.length co34 ∧ nbk k_ Ao35 t260.length co35 ∧ nbk k_ Ao38 t264.length co38 ∧ nbk k_ Ao44 t270.length co44 ∧ nbk k_ Ao71 t276.length co71 ∧ nbk k_ Ao72 t279.length co72 ∧ nbk k_ Ao73 t282.length co73) (Kd.R_keptB (HO_275001.out) hkp (fun k_ hk_ hs_ => Or.elim hs_ (fun e_ => (hk_.1.1.1.2.2.2.1) e_) (fun e_ => Or.elim e_ (fun e_ => (hk_.1.1.1.2.2.2.2.1) e_) (fun e_ => (hk_.1.1.1.2.2.2.2.2.1) e_)))) (fun k_ hk_ => ⟨hk_.1.1.1.1.1, hk_.1.1.1.1.2.1, hk_.1.1.1.1.2.2.1, hk_.1.1.1.1.2.2.2.1, hk_.1.1.1.1.2.2.2.2.1, hk_.1.1.1.1.2.2.2.2.2.1, hk_.1.1.1.1.2.2.2.2.2.2.1, hk_.1.1.1.1.2.2.2.2.2.2.2, hk_.1.1.1.2, hk_.1.1.2, hk_.1.2⟩)); have n8_ := Aside0.mk (Kd.R_mono (ok' := fun k_ => nbk k_ Ao22 t243.length co22 ∧ nbk k_ Ao25 t246.length co25 ∧ nbk k_ Ao26 t249.length co26 ∧ nbk k_ Ao30 t254.length co30 ∧ nbk k_ Ao34 t257.length co34 ∧ nbk k_ Ao35 t260.length co35 ∧ nbk k_ Ao38 t264.length co38 ∧ nbk k_ Ao43 t267.length co43 ∧ nbk k_ Ao71 t276.length co71 ∧ nbk k_ Ao72 t279.length co72 ∧ nbk k_ Ao73 t282.length co73) (Kd.R_keptB (HO_275002.out) hkp (fun k_ hk_ hs_ => Or.elim hs_ (fun e_ => (hk_.1.1.1.2.2.2.1) e_) (fun e_ => Or.elim e_ (fun e_ => (hk_.1.1.1.2.2.2.2.1) e_) (fun e_ => (hk_.1.1.1.2.2.2.2.2.1) e_)))) (fun k_ hk_ => ⟨hk_.1.1.1.1.1, hk_.1.1.1.1.2.1, hk_.1.1.1.1.2.2.1, hk_.1.1.1.1.2.2.2.1, hk_.1.1.1.1.2.2.2.2.1, hk_.1.1.1.1.2.2.2.2.2.1, hk_.1.1.1.1.2.2.2.2.2.2.1, hk_.1.1.1.1.2.2.2.2.2.2.2, hk_.1.1.1.2, hk_.1.1.2, hk_.1.2⟩)); have n9_ := Aside0.mk (blk_kept a2_ hkp (fun hs_ => Or.elim hs_ (fun e_ => (fun e_ => (Kd.R_ne HO_264000.out BK232.out (by decide)) e_) e_) (fun e_ => Or.elim e_ (fun e_ => (fun e_ => (Kd.R_ne HO_264001.out BK232.out (by decide)) e_) e_) (fun e_ => (fun e_ => (Kd.R_ne HO_264002.out BK232.out (by decide)) e_) e_)))); have n10_ := Aside0.mk (blk_kept a4_ hkp (fun hs_ => Or.elim hs_ (fun e_ => (fun e_ => (Kd.R_ne HO_264000.out BK253.out (by decide)) e_) e_) (fun e_ => Or.elim e_ (fun e_ => (fun e_ => (Kd.R_ne HO_264001.out BK253.out (by decide)) e_) e_) (fun e_ => (fun e_ => (Kd.R_ne HO_264002.out BK253.out (by decide)) e_) e_)))); have n11_ := Aside0.mk (blk_kept a14_ hkp (fun hs_ => Or.elim hs_ (fun e_ => (fun e_ => (Kd.R_ne HO_264000.out BK263.out (by decide)) e_) e_) (fun e_ => Or.elim e_ (fun e_ => (fun e_ => (Kd.R_ne HO_264001.out BK263.out (by decide)) e_) e_) (fun e_ => (fun e_ => (Kd.R_ne HO_264002.out BK263.out (by decide)) e_) e_)))); have n12_ := Aside0.mk (blk_kept a15_ hkp (fun hs_ => Or.elim hs_ (fun e_ => (fun e_ => (Kd.R_ne HO_264000.out BK274.out (by decide)) e_) e_) (fun e_ => Or.elim e_ (fun e_ => (fun e_ => (Kd.R_ne HO_264001.out BK274.out (by decide)) e_) e_) (fun e_ => (fun e_ => (Kd.R_ne HO_264002.out BK274.out (by decide)) e_) e_)))); have n13_ := Aside0.mk (Kd.R_mono (ok' := fun k_ => nbk k_ Ao22 t243.length co22 ∧ nbk k_ Ao25 t246.length co25 ∧ nbk k_ Ao26 t249.length co26 ∧ nbk k_ Ao30 t254.length co30 ∧ nbk k_ Ao34 t257.length co34 ∧ nbk k_ Ao35 t260.length co35 ∧ nbk k_ Ao38 t264.length co38 ∧ nbk k_ Ao43 t267.length co43 ∧ nbk k_ Ao44 t270.length co44 ∧ nbk k_ Ao72 t279.length co72 ∧ nbk k_ Ao73 t282.length co73) (Kd.R_keptB (HO278.out) hkp (fun k_ hk_ hs_ => Or.elim hs_ (fun e_ => (hk_.1.1.1.1.1.2) e_) (fun e_ => Or.elim e_ (fun e_ => (hk_.1.1.1.1.2) e_) (fun e_ => (hk_.1.1.1.2) e_)))) (fun k_ hk_ => ⟨hk_.1.1.1.1.1.1.1.1.1.2, hk_.1.1.1.1.1.1.1.1.2, hk_.1.1.1.1.1.1.1.2, hk_.1.1.1.1.1.1.2, hk_.1.1.1.1.1.2, hk_.1.1.1.1.2, hk_.1.1.1.2, hk_.1.1.2, hk_.1.2, hk_.1.1.1.1.1.1.1.1.1.1.1, hk_.1.1.1.1.1.1.1.1.1.1.2⟩)); have n14_ := Aside0.mk (Kd.R_mono (ok' := fun k_ => nbk k_ Ao22 t243.length co22 ∧ nbk k_ Ao25 t246.length co25 ∧ nbk k_ Ao26 t249.length co26 ∧ nbk k_ Ao30 t254.length co30 ∧ nbk k_ Ao34 t257.length co34 ∧ nbk k_ Ao35 t260.length co35 ∧ nbk k_ Ao38 t264.length co38 ∧ nbk k_ Ao43 t267.length co43 ∧ nbk k_ Ao44 t270.length co44 ∧ nbk k_ Ao71 t276.length co71 ∧ nbk k_ Ao73 t282.length co73) (Kd.R_keptB (HO281.out) hkp (fun k_ hk_ hs_ => Or.elim hs_ (fun e_ => (hk_.1.1.1.1.1.2) e_) (fun e_ => Or.elim e_ (fun e_ => (hk_.1.1.1.1.2) e_) (fun e_ => (hk_.1.1.1.2) e_)))) (fun k_ hk_ => ⟨hk_.1.1.1.1.1.1.1.1.1.2, hk_.1.1.1.1.1.1.1.1.2, hk_.1.1.1.1.1.1.1.2, hk_.1.1.1.1.1.1.2, hk_.1.1.1.1.1.2, hk_.1.1.1.1.2, hk_.1.1.1.2, hk_.1.1.2, hk_.1.2, hk_.1.1.1.1.1.1.1.1.1.1.1, hk_.1.1.1.1.1.1.1.1.1.1.2⟩)); have n15_ := Aside0.mk (Kd.R_mono (ok' := fun k_ => nbk k_ Ao22 t243.length co22 ∧ nbk k_ Ao25 t246.length co25 ∧ nbk k_ Ao26 t249.length co26 ∧ nbk k_ Ao30 t254.length co30 ∧ nbk k_ Ao34 t257.length co34 ∧ nbk k_ Ao35 t260.length co35 ∧ nbk k_ Ao38 t264.length co38 ∧ nbk k_ Ao43 t267.length co43 ∧ nbk k_ Ao44 t270.length co44 ∧ nbk k_ Ao71 t276.length co71 ∧ nbk k_ Ao72 t279.length co72) (Kd.R_keptB (HO284.out) hkp (fun k_ hk_ hs_ => Or.elim hs_ (fun e_ => (hk_.1.1.1.1.1.2) e_) (fun e_ => Or.elim e_ (fun e_ => (hk_.1.1.1.1.2) e_) (fun e_ => (hk_.1.1.1.2) e_)))) (fun k_ hk_ => ⟨hk_.1.1.1.1.1.1.1.1.1.2, hk_.1.1.1.1.1.1.1.1.2, hk_.1.1.1.1.1.1.1.2, hk_.1.1.1.1.1.1.2, hk_.1.1.1.1.1.2, hk_.1.1.1.1.2, hk_.1.1.1.2, hk_.1.1.2, hk_.1.2, hk_.1.1.1.1.1.1.1.1.1.1.1, hk_.1.1.1.1.1.1.1.1.1.1.2⟩)); have n16_ := Aside0.mk (hb); clear HO_254000; clear HO_254001; clear HO_254002; clear HO_264000; clear HO_264001; clear HO_264002; clear HO_275000; clear HO_275001; clear HO_275002; clear BK232; clear BK253; clear BK263; clear BK274; clear HO278; clear HO281; clear HO284; clear HB; have HO_254000 := n0_; have HO_254001 := n1_; have HO_254002 := n2_; have HO_264000 := n3_; have HO_264001 := n4_; have HO_264002 := n5_; have HO_275000 := n6_; have HO_275001 := n7_; have HO_275002 := n8_; have BK232 := n9_; have BK253 := n10_; have BK263 := n11_; have BK274 := n12_; have HO278 := n13_; have HO281 := n14_; have HO284 := n15_; have HB := n16_; clear n0_ n1_ n2_ n3_ n4_ n5_ n6_ n7_ n8_ n9_ n10_ n11_ n12_ n13_ n14_ n15_ n16_; (try clear hb); (try clear hkp); (try clear hy0); (try clear hy1); (try clear hy2)))
      (try simp only [Act.put, List.setIfInBounds_toArray, List.set_cons_zero, List.set_cons_succ])
      go_cut [61] (fun v61 wc => ∃ (kq : Nat) (x61_67 : Bool), v61 = .bool x61_67 ∧ Aside0 (laws_FnExactBackwardMachine.j1 kq t252 x61_67 l0_0 l0_1 l0_2 t243 t246 t249 t264 t267 t270 = some r) ∧ Aside0 (kq ≤ kj10) ∧ Aside0 (Kd.R (Kd.int .i16) 38 wc w.heap.size (fun k_ => some k_ ≠ ((.slice Ao25 t246.length co25) : Value).ownBlock ∧ some k_ ≠ ((.slice Ao26 t249.length co26) : Value).ownBlock ∧ some k_ ≠ ((.slice Ao30 t254.length co30) : Value).ownBlock ∧ some k_ ≠ ((.slice Ao34 t257.length co34) : Value).ownBlock ∧ some k_ ≠ ((.slice Ao35 t260.length co35) : Value).ownBlock ∧ some k_ ≠ ((.slice Ao38 t264.length co38) : Value).ownBlock ∧ some k_ ≠ ((.slice Ao43 t267.length co43) : Value).ownBlock ∧ some k_ ≠ ((.slice Ao44 t270.length co44) : Value).ownBlock) (.slice Ao22 t243.length co22) t243) ∧ Aside0 (Kd.R (Kd.int .i16) 38 wc w.heap.size (fun k_ => some k_ ≠ ((.slice Ao22 t243.length co22) : Value).ownBlock ∧ some k_ ≠ ((.slice Ao26 t249.length co26) : Value).ownBlock ∧ some k_ ≠ ((.slice Ao30 t254.length co30) : Value).ownBlock ∧ some k_ ≠ ((.slice Ao34 t257.length co34) : Value).ownBlock ∧ some k_ ≠ ((.slice Ao35 t260.length co35) : Value).ownBlock ∧ some k_ ≠ ((.slice Ao38 t264.length co38) : Value).ownBlock ∧ some k_ ≠ ((.slice Ao43 t267.length co43) : Value).ownBlock ∧ some k_ ≠ ((.slice Ao44 t270.length co44) : Value).ownBlock) (.slice Ao25 t246.length co25) t246) ∧ Aside0 (Kd.R (Kd.int .i16) 38 wc w.heap.size (fun k_ => some k_ ≠ ((.slice Ao22 t243.length co22) : Value).ownBlock ∧ some k_ ≠ ((.slice Ao25 t246.length co25) : Value).ownBlock ∧ some k_ ≠ ((.slice Ao30 t254.length co30) : Value).ownBlock ∧ some k_ ≠ ((.slice Ao34 t257.length co34) : Value).ownBlock ∧ some k_ ≠ ((.slice Ao35 t260.length co35) : Value).ownBlock ∧ some k_ ≠ ((.slice Ao38 t264.length co38) : Value).ownBlock ∧ some k_ ≠ ((.slice Ao43 t267.length co43) : Value).ownBlock ∧ some k_ ≠ ((.slice Ao44 t270.length co44) : Value).ownBlock) (.slice Ao26 t249.length co26) t249) ∧ Aside0 (Kd.R (Kd.int .i16) 38 wc w.heap.size (fun k_ => some k_ ≠ ((.slice Ao22 t243.length co22) : Value).ownBlock ∧ some k_ ≠ ((.slice Ao25 t246.length co25) : Value).ownBlock ∧ some k_ ≠ ((.slice Ao26 t249.length co26) : Value).ownBlock ∧ some k_ ≠ ((.slice Ao34 t257.length co34) : Value).ownBlock ∧ some k_ ≠ ((.slice Ao35 t260.length co35) : Value).ownBlock ∧ some k_ ≠ ((.slice Ao38 t264.length co38) : Value).ownBlock ∧ some k_ ≠ ((.slice Ao43 t267.length co43) : Value).ownBlock ∧ some k_ ≠ ((.slice Ao44 t270.length co44) : Value).ownBlock) (.slice Ao30 t254.length co30) t287) ∧ Aside0 (Kd.R (Kd.int .i16) 38 wc w.heap.size (fun k_ => some k_ ≠ ((.slice Ao22 t243.length co22) : Value).ownBlock ∧ some k_ ≠ ((.slice Ao25 t246.length co25) : Value).ownBlock ∧ some k_ ≠ ((.slice Ao26 t249.length co26) : Value).ownBlock ∧ some k_ ≠ ((.slice Ao30 t254.length co30) : Value).ownBlock ∧ some k_ ≠ ((.slice Ao35 t260.length co35) : Value).ownBlock ∧ some k_ ≠ ((.slice Ao38 t264.length co38) : Value).ownBlock ∧ some k_ ≠ ((.slice Ao43 t267.length co43) : Value).ownBlock ∧ some k_ ≠ ((.slice Ao44 t270.length co44) : Value).ownBlock) (.slice Ao34 t257.length co34) t288) ∧ Aside0 (Kd.R (Kd.int .i16) 38 wc w.heap.size (fun k_ => some k_ ≠ ((.slice Ao22 t243.length co22) : Value).ownBlock ∧ some k_ ≠ ((.slice Ao25 t246.length co25) : Value).ownBlock ∧ some k_ ≠ ((.slice Ao26 t249.length co26) : Value).ownBlock ∧ some k_ ≠ ((.slice Ao30 t254.length co30) : Value).ownBlock ∧ some k_ ≠ ((.slice Ao34 t257.length co34) : Value).ownBlock ∧ some k_ ≠ ((.slice Ao38 t264.length co38) : Value).ownBlock ∧ some k_ ≠ ((.slice Ao43 t267.length co43) : Value).ownBlock ∧ some k_ ≠ ((.slice Ao44 t270.length co44) : Value).ownBlock) (.slice Ao35 t260.length co35) t289) ∧ Aside0 (Kd.R (Kd.int .i16) 38 wc w.heap.size (fun k_ => some k_ ≠ ((.slice Ao22 t243.length co22) : Value).ownBlock ∧ some k_ ≠ ((.slice Ao25 t246.length co25) : Value).ownBlock ∧ some k_ ≠ ((.slice Ao26 t249.length co26) : Value).ownBlock ∧ some k_ ≠ ((.slice Ao30 t254.length co30) : Value).ownBlock ∧ some k_ ≠ ((.slice Ao34 t257.length co34) : Value).ownBlock ∧ some k_ ≠ ((.slice Ao35 t260.length co35) : Value).ownBlock ∧ some k_ ≠ ((.slice Ao43 t267.length co43) : Value).ownBlock ∧ some k_ ≠ ((.slice Ao44 t270.length co44) : Value).ownBlock) (.slice Ao38 t264.length co38) t264) ∧ Aside0 (Kd.R (Kd.int .i16) 38 wc w.heap.size (fun k_ => some k_ ≠ ((.slice Ao22 t243.length co22) : Value).ownBlock ∧ some k_ ≠ ((.slice Ao25 t246.length co25) : Value).ownBlock ∧ some k_ ≠ ((.slice Ao26 t249.length co26) : Value).ownBlock ∧ some k_ ≠ ((.slice Ao30 t254.length co30) : Value).ownBlock ∧ some k_ ≠ ((.slice Ao34 t257.length co34) : Value).ownBlock ∧ some k_ ≠ ((.slice Ao35 t260.length co35) : Value).ownBlock ∧ some k_ ≠ ((.slice Ao38 t264.length co38) : Value).ownBlock ∧ some k_ ≠ ((.slice Ao44 t270.length co44) : Value).ownBlock) (.slice Ao43 t267.length co43) t267) ∧ Aside0 (Kd.R (Kd.int .i16) 38 wc w.heap.size (fun k_ => some k_ ≠ ((.slice Ao22 t243.length co22) : Value).ownBlock ∧ some k_ ≠ ((.slice Ao25 t246.length co25) : Value).ownBlock ∧ some k_ ≠ ((.slice Ao26 t249.length co26) : Value).ownBlock ∧ some k_ ≠ ((.slice Ao30 t254.length co30) : Value).ownBlock ∧ some k_ ≠ ((.slice Ao34 t257.length co34) : Value).ownBlock ∧ some k_ ≠ ((.slice Ao35 t260.length co35) : Value).ownBlock ∧ some k_ ≠ ((.slice Ao38 t264.length co38) : Value).ownBlock ∧ some k_ ≠ ((.slice Ao43 t267.length co43) : Value).ownBlock) (.slice Ao44 t270.length co44) t270) ∧ Aside0 (wc.heap[gb232]? = some (.cells #[(.slice A0_0 l0_0.length c0_0), (.slice A0_1 l0_1.length c0_1), (.slice A0_2 l0_2.length c0_2)] 24 (0, 0))) ∧ Aside0 (wc.heap[gb253]? = some (.cells #[(.slice Ao22 t243.length co22), (.slice Ao25 t246.length co25), (.slice Ao26 t249.length co26)] 29 (0, 0))) ∧ Aside0 (wc.heap[gb263]? = some (.cells #[(.slice Ao30 t254.length co30), (.slice Ao34 t257.length co34), (.slice Ao35 t260.length co35)] 29 (0, 0))) ∧ Aside0 (wc.heap[gb274]? = some (.cells #[(.slice Ao38 t264.length co38), (.slice Ao43 t267.length co43), (.slice Ao44 t270.length co44)] 29 (0, 0))) ∧ Aside0 (Below w.heap.size w wc))
      case first =>
       have H := HC68.out
       clear HC68
       by_cases c80 : t286 < 0
       ·rw [if_pos c80] at H
        have c80b0 : decide (t286 < 0) = true := decide_eq_true c80
        clear c80
        (first | rw [c80b0] | (simp only [i64_w, i32_w]; rw [c80b0]) | skip)
        have H' := Aside0.mk H
        clear H
        go_wp2
        go_meet
        case rel => exact ⟨_, (true), a86_, H', ⟨by have := HJ10.out; first | omega | exact Nat.le_refl _⟩, ⟨by (with_reducible repeat (first | apply Kd.R_alloc | apply Kd.R_drewN | apply Kd.R_drew)); exact Kd.R_mono HO_254000.out (fun _ hk => ⟨hk.1, ⟨hk.2.1, ⟨hk.2.2.1, ⟨hk.2.2.2.1, ⟨hk.2.2.2.2.1, ⟨hk.2.2.2.2.2.1, ⟨hk.2.2.2.2.2.2.1, hk.2.2.2.2.2.2.2.1⟩⟩⟩⟩⟩⟩⟩)⟩, ⟨by (with_reducible repeat (first | apply Kd.R_alloc | apply Kd.R_drewN | apply Kd.R_drew)); exact Kd.R_mono HO_254001.out (fun _ hk => ⟨hk.1, ⟨hk.2.1, ⟨hk.2.2.1, ⟨hk.2.2.2.1, ⟨hk.2.2.2.2.1, ⟨hk.2.2.2.2.2.1, ⟨hk.2.2.2.2.2.2.1, hk.2.2.2.2.2.2.2.1⟩⟩⟩⟩⟩⟩⟩)⟩, ⟨by (with_reducible repeat (first | apply Kd.R_alloc | apply Kd.R_drewN | apply Kd.R_drew)); exact Kd.R_mono HO_254002.out (fun _ hk => ⟨hk.1, ⟨hk.2.1, ⟨hk.2.2.1, ⟨hk.2.2.2.1, ⟨hk.2.2.2.2.1, ⟨hk.2.2.2.2.2.1, ⟨hk.2.2.2.2.2.2.1, hk.2.2.2.2.2.2.2.1⟩⟩⟩⟩⟩⟩⟩)⟩, ⟨by (with_reducible repeat (first | apply Kd.R_alloc | apply Kd.R_drewN | apply Kd.R_drew)); exact Kd.R_mono HO_264000.out (fun _ hk => ⟨hk.1.1.1.1, ⟨hk.1.1.1.2.1, ⟨hk.1.1.1.2.2.1, ⟨hk.1.1.1.2.2.2.1, ⟨hk.1.1.1.2.2.2.2.1, ⟨hk.1.1.1.2.2.2.2.2.1, ⟨hk.1.1.1.2.2.2.2.2.2.1, hk.1.1.1.2.2.2.2.2.2.2⟩⟩⟩⟩⟩⟩⟩)⟩, ⟨by (with_reducible repeat (first | apply Kd.R_alloc | apply Kd.R_drewN | apply Kd.R_drew)); exact Kd.R_mono HO_264001.out (fun _ hk => ⟨hk.1.1.1.1, ⟨hk.1.1.1.2.1, ⟨hk.1.1.1.2.2.1, ⟨hk.1.1.1.2.2.2.1, ⟨hk.1.1.1.2.2.2.2.1, ⟨hk.1.1.1.2.2.2.2.2.1, ⟨hk.1.1.1.2.2.2.2.2.2.1, hk.1.1.1.2.2.2.2.2.2.2⟩⟩⟩⟩⟩⟩⟩)⟩, ⟨by (with_reducible repeat (first | apply Kd.R_alloc | apply Kd.R_drewN | apply Kd.R_drew)); exact Kd.R_mono HO_264002.out (fun _ hk => ⟨hk.1.1.1.1, ⟨hk.1.1.1.2.1, ⟨hk.1.1.1.2.2.1, ⟨hk.1.1.1.2.2.2.1, ⟨hk.1.1.1.2.2.2.2.1, ⟨hk.1.1.1.2.2.2.2.2.1, ⟨hk.1.1.1.2.2.2.2.2.2.1, hk.1.1.1.2.2.2.2.2.2.2⟩⟩⟩⟩⟩⟩⟩)⟩, ⟨by (with_reducible repeat (first | apply Kd.R_alloc | apply Kd.R_drewN | apply Kd.R_drew)); exact Kd.R_mono HO_275000.out (fun _ hk => ⟨hk.1, ⟨hk.2.1, ⟨hk.2.2.1, ⟨hk.2.2.2.1, ⟨hk.2.2.2.2.1, ⟨hk.2.2.2.2.2.1, ⟨hk.2.2.2.2.2.2.1, hk.2.2.2.2.2.2.2.1⟩⟩⟩⟩⟩⟩⟩)⟩, ⟨by (with_reducible repeat (first | apply Kd.R_alloc | apply Kd.R_drewN | apply Kd.R_drew)); exact Kd.R_mono HO_275001.out (fun _ hk => ⟨hk.1, ⟨hk.2.1, ⟨hk.2.2.1, ⟨hk.2.2.2.1, ⟨hk.2.2.2.2.1, ⟨hk.2.2.2.2.2.1, ⟨hk.2.2.2.2.2.2.1, hk.2.2.2.2.2.2.2.1⟩⟩⟩⟩⟩⟩⟩)⟩, ⟨by (with_reducible repeat (first | apply Kd.R_alloc | apply Kd.R_drewN | apply Kd.R_drew)); exact Kd.R_mono HO_275002.out (fun _ hk => ⟨hk.1, ⟨hk.2.1, ⟨hk.2.2.1, ⟨hk.2.2.2.1, ⟨hk.2.2.2.2.1, ⟨hk.2.2.2.2.2.1, ⟨hk.2.2.2.2.2.2.1, hk.2.2.2.2.2.2.2.1⟩⟩⟩⟩⟩⟩⟩)⟩, ⟨by (with_reducible repeat (first | refine blk_drewN ?_ _ | refine blk_drew ?_ | refine blk_alloc ?_ _)); exact BK232.out⟩, ⟨by (with_reducible repeat (first | refine blk_drewN ?_ _ | refine blk_drew ?_ | refine blk_alloc ?_ _)); exact BK253.out⟩, ⟨by (with_reducible repeat (first | refine blk_drewN ?_ _ | refine blk_drew ?_ | refine blk_alloc ?_ _)); exact BK263.out⟩, ⟨by (with_reducible repeat (first | refine blk_drewN ?_ _ | refine blk_drew ?_ | refine blk_alloc ?_ _)); exact BK274.out⟩, ⟨by repeat (first | (with_reducible first | exact HB.out | apply below_alloc | apply pw_below_drewN | apply below_drew1 | refine below_set ?_ GE232.out | refine below_set ?_ GE253.out | refine below_set ?_ GE263.out | refine below_set ?_ GE274.out) | exact HB.out)⟩⟩
       ·rw [if_neg c80] at H
        have c80b0 : decide (t286 < 0) = false := decide_eq_false c80
        clear c80
        (first | rw [c80b0] | (simp only [i64_w, i32_w]; rw [c80b0]) | skip)
        replace H := Option.bind_eq_some_iff.mp H
        obtain ⟨t290, A810, H⟩ := H
        replace H : (if t290 = true then (laws_FnExactBackwardMachine.j1 kj10 t252 (t273 != t252) l0_0 l0_1 l0_2 t243 t246 t249 t264 t267 t270) else (laws_FnExactBackwardMachine.j1 kj10 t252 true l0_0 l0_1 l0_2 t243 t246 t249 t264 t267 t270)) = some r := H
        have A81 := Aside0.mk A810
        clear A810
        by_cases c82 : t290 = true
        ·subst c82
         have H1 : (laws_FnExactBackwardMachine.j1 kj10 t252 (t273 != t252) l0_0 l0_1 l0_2 t243 t246 t249 t264 t267 t270) = some r := by rw [if_pos rfl] at H; exact H
         clear H
         have H := H1
         clear H1
         have H' := Aside0.mk H
         clear H
         have hnb83 := NB274_232.out
         have hnc83 := NB232_274.out
         have hnb84 := NB274_253.out
         have hnc84 := NB253_274.out
         have hnb85 := NB274_263.out
         have hnc85 := NB263_274.out
         have hcz86_0 : w79.cell? ⟨gb274, 0, none⟩ = some (.slice Ao38 t264.length co38) := (blk_cell BK274.out 0).trans rfl
         have hcz86_1 : w79.cell? ⟨gb274, 1, none⟩ = some (.slice Ao43 t267.length co43) := (blk_cell BK274.out 1).trans rfl
         have hcz86_2 : w79.cell? ⟨gb274, 2, none⟩ = some (.slice Ao44 t270.length co44) := (blk_cell BK274.out 2).trans rfl
         have hfz86_0 := blk_frozen BK274.out 0
         have hfz86_1 := blk_frozen BK274.out 1
         have hfz86_2 := blk_frozen BK274.out 2
         have hnb87 := NB253_232.out
         have hnc87 := NB232_253.out
         have hnb88 := NB253_263.out
         have hnc88 := NB263_253.out
         have hcz89_0 : w79.cell? ⟨gb253, 0, none⟩ = some (.slice Ao22 t243.length co22) := (blk_cell BK253.out 0).trans rfl
         have hcz89_1 : w79.cell? ⟨gb253, 1, none⟩ = some (.slice Ao25 t246.length co25) := (blk_cell BK253.out 1).trans rfl
         have hcz89_2 : w79.cell? ⟨gb253, 2, none⟩ = some (.slice Ao26 t249.length co26) := (blk_cell BK253.out 2).trans rfl
         have hfz89_0 := blk_frozen BK253.out 0
         have hfz89_1 := blk_frozen BK253.out 1
         have hfz89_2 := blk_frozen BK253.out 2
         go_wp2_with (first | (go_at_call 19; (with_reducible refine (laws_eqMachine.calls kj10 _ _ t264 _ _ t267 _ _ t270 _ _ t243 _ _ t246 _ _ t249 true _ ?side1 ?side2 ?side3 ?side4 ?side5 ?side6 ?side7 ?side8 ?side9 ?side10 ?side11 ?side12 A81.out).mono ?_); (case side1 => exact a97_); (case side2 => exact (Kd.R_reads' HO_275000.out).2.1); (case side3 => exact a98_); (case side4 => exact (Kd.R_reads' HO_275001.out).2.1); (case side5 => exact a99_); (case side6 => exact (Kd.R_reads' HO_275002.out).2.1); (case side7 => exact a119_); (case side8 => exact (Kd.R_reads' HO_254000.out).2.1); (case side9 => exact a120_); (case side10 => exact (Kd.R_reads' HO_254001.out).2.1); (case side11 => exact a121_); (case side12 => exact (Kd.R_reads' HO_254002.out).2.1); rintro e w90 ⟨rfl, hb⟩; have n0_ := Aside0.mk (Kd.R_below a5_ hb); have n1_ := Aside0.mk (Kd.R_below a6_ hb); have n2_ := Aside0.mk (Kd.R_below a7_ hb); have n3_ := Aside0.mk (Kd.R_below a8_ hb); have n4_ := Aside0.mk (Kd.R_below a9_ hb); have n5_ := Aside0.mk (Kd.R_below a10_ hb); have n6_ := Aside0.mk (Kd.R_below a11_ hb); have n7_ := Aside0.mk (Kd.R_below a12_ hb); have n8_ := Aside0.mk (Kd.R_below a13_ hb); have n9_ := Aside0.mk (Kd.R_below a79_ hb); have n10_ := Aside0.mk (Kd.R_below a80_ hb); have n11_ := Aside0.mk (Kd.R_below a81_ hb); have n12_ := Aside0.mk (blk_below (g := gb232) a2_ hb); have n13_ := Aside0.mk (blk_below (g := gb253) a4_ hb); have n14_ := Aside0.mk (blk_below (g := gb263) a14_ hb); have n15_ := Aside0.mk (blk_below (g := gb274) a15_ hb); have n16_ := Aside0.mk (below_step a1_ hb); clear HO_254000; clear HO_254001; clear HO_254002; clear HO_264000; clear HO_264001; clear HO_264002; clear HO_275000; clear HO_275001; clear HO_275002; clear HO278; clear HO281; clear HO284; clear BK232; clear BK253; clear BK263; clear BK274; clear HB; have HO_254000 := n0_; have HO_254001 := n1_; have HO_254002 := n2_; have HO_264000 := n3_; have HO_264001 := n4_; have HO_264002 := n5_; have HO_275000 := n6_; have HO_275001 := n7_; have HO_275002 := n8_; have HO278 := n9_; have HO281 := n10_; have HO284 := n11_; have BK232 := n12_; have BK253 := n13_; have BK263 := n14_; have BK274 := n15_; have HB := n16_; clear n0_ n1_ n2_ n3_ n4_ n5_ n6_ n7_ n8_ n9_ n10_ n11_ n12_ n13_ n14_ n15_ n16_; (try clear hb); (try clear hb2); (try clear hk); (try clear hi)))
         go_meet
         case rel => exact ⟨_, ((t273 != t252)), a86_, H', ⟨by have := HJ10.out; first | omega | exact Nat.le_refl _⟩, ⟨by (with_reducible repeat (first | apply Kd.R_alloc | apply Kd.R_drewN | apply Kd.R_drew)); exact Kd.R_mono HO_254000.out (fun _ hk => ⟨hk.1, ⟨hk.2.1, ⟨hk.2.2.1, ⟨hk.2.2.2.1, ⟨hk.2.2.2.2.1, ⟨hk.2.2.2.2.2.1, ⟨hk.2.2.2.2.2.2.1, hk.2.2.2.2.2.2.2.1⟩⟩⟩⟩⟩⟩⟩)⟩, ⟨by (with_reducible repeat (first | apply Kd.R_alloc | apply Kd.R_drewN | apply Kd.R_drew)); exact Kd.R_mono HO_254001.out (fun _ hk => ⟨hk.1, ⟨hk.2.1, ⟨hk.2.2.1, ⟨hk.2.2.2.1, ⟨hk.2.2.2.2.1, ⟨hk.2.2.2.2.2.1, ⟨hk.2.2.2.2.2.2.1, hk.2.2.2.2.2.2.2.1⟩⟩⟩⟩⟩⟩⟩)⟩, ⟨by (with_reducible repeat (first | apply Kd.R_alloc | apply Kd.R_drewN | apply Kd.R_drew)); exact Kd.R_mono HO_254002.out (fun _ hk => ⟨hk.1, ⟨hk.2.1, ⟨hk.2.2.1, ⟨hk.2.2.2.1, ⟨hk.2.2.2.2.1, ⟨hk.2.2.2.2.2.1, ⟨hk.2.2.2.2.2.2.1, hk.2.2.2.2.2.2.2.1⟩⟩⟩⟩⟩⟩⟩)⟩, ⟨by (with_reducible repeat (first | apply Kd.R_alloc | apply Kd.R_drewN | apply Kd.R_drew)); exact Kd.R_mono HO_264000.out (fun _ hk => ⟨hk.1.1.1.1, ⟨hk.1.1.1.2.1, ⟨hk.1.1.1.2.2.1, ⟨hk.1.1.1.2.2.2.1, ⟨hk.1.1.1.2.2.2.2.1, ⟨hk.1.1.1.2.2.2.2.2.1, ⟨hk.1.1.1.2.2.2.2.2.2.1, hk.1.1.1.2.2.2.2.2.2.2⟩⟩⟩⟩⟩⟩⟩)⟩, ⟨by (with_reducible repeat (first | apply Kd.R_alloc | apply Kd.R_drewN | apply Kd.R_drew)); exact Kd.R_mono HO_264001.out (fun _ hk => ⟨hk.1.1.1.1, ⟨hk.1.1.1.2.1, ⟨hk.1.1.1.2.2.1, ⟨hk.1.1.1.2.2.2.1, ⟨hk.1.1.1.2.2.2.2.1, ⟨hk.1.1.1.2.2.2.2.2.1, ⟨hk.1.1.1.2.2.2.2.2.2.1, hk.1.1.1.2.2.2.2.2.2.2⟩⟩⟩⟩⟩⟩⟩)⟩, ⟨by (with_reducible repeat (first | apply Kd.R_alloc | apply Kd.R_drewN | apply Kd.R_drew)); exact Kd.R_mono HO_264002.out (fun _ hk => ⟨hk.1.1.1.1, ⟨hk.1.1.1.2.1, ⟨hk.1.1.1.2.2.1, ⟨hk.1.1.1.2.2.2.1, ⟨hk.1.1.1.2.2.2.2.1, ⟨hk.1.1.1.2.2.2.2.2.1, ⟨hk.1.1.1.2.2.2.2.2.2.1, hk.1.1.1.2.2.2.2.2.2.2⟩⟩⟩⟩⟩⟩⟩)⟩, ⟨by (with_reducible repeat (first | apply Kd.R_alloc | apply Kd.R_drewN | apply Kd.R_drew)); exact Kd.R_mono HO_275000.out (fun _ hk => ⟨hk.1, ⟨hk.2.1, ⟨hk.2.2.1, ⟨hk.2.2.2.1, ⟨hk.2.2.2.2.1, ⟨hk.2.2.2.2.2.1, ⟨hk.2.2.2.2.2.2.1, hk.2.2.2.2.2.2.2.1⟩⟩⟩⟩⟩⟩⟩)⟩, ⟨by (with_reducible repeat (first | apply Kd.R_alloc | apply Kd.R_drewN | apply Kd.R_drew)); exact Kd.R_mono HO_275001.out (fun _ hk => ⟨hk.1, ⟨hk.2.1, ⟨hk.2.2.1, ⟨hk.2.2.2.1, ⟨hk.2.2.2.2.1, ⟨hk.2.2.2.2.2.1, ⟨hk.2.2.2.2.2.2.1, hk.2.2.2.2.2.2.2.1⟩⟩⟩⟩⟩⟩⟩)⟩, ⟨by (with_reducible repeat (first | apply Kd.R_alloc | apply Kd.R_drewN | apply Kd.R_drew)); exact Kd.R_mono HO_275002.out (fun _ hk => ⟨hk.1, ⟨hk.2.1, ⟨hk.2.2.1, ⟨hk.2.2.2.1, ⟨hk.2.2.2.2.1, ⟨hk.2.2.2.2.2.1, ⟨hk.2.2.2.2.2.2.1, hk.2.2.2.2.2.2.2.1⟩⟩⟩⟩⟩⟩⟩)⟩, ⟨by (with_reducible repeat (first | refine blk_drewN ?_ _ | refine blk_drew ?_ | refine blk_alloc ?_ _)); exact BK232.out⟩, ⟨by (with_reducible repeat (first | refine blk_drewN ?_ _ | refine blk_drew ?_ | refine blk_alloc ?_ _)); exact BK253.out⟩, ⟨by (with_reducible repeat (first | refine blk_drewN ?_ _ | refine blk_drew ?_ | refine blk_alloc ?_ _)); exact BK263.out⟩, ⟨by (with_reducible repeat (first | refine blk_drewN ?_ _ | refine blk_drew ?_ | refine blk_alloc ?_ _)); exact BK274.out⟩, ⟨by repeat (first | (with_reducible first | exact HB.out | apply below_alloc | apply pw_below_drewN | apply below_drew1 | refine below_set ?_ GE232.out | refine below_set ?_ GE253.out | refine below_set ?_ GE263.out | refine below_set ?_ GE274.out) | exact HB.out)⟩⟩
        ·replace c82 := Bool.eq_false_iff.mpr c82
         subst c82
         have H1 : (laws_FnExactBackwardMachine.j1 kj10 t252 true l0_0 l0_1 l0_2 t243 t246 t249 t264 t267 t270) = some r := by rw [if_neg (show ¬ (false = true) by decide)] at H; exact H
         clear H
         have H := H1
         clear H1
         have H' := Aside0.mk H
         clear H
         have hnb91 := NB274_232.out
         have hnc91 := NB232_274.out
         have hnb92 := NB274_253.out
         have hnc92 := NB253_274.out
         have hnb93 := NB274_263.out
         have hnc93 := NB263_274.out
         have hcz94_0 : w79.cell? ⟨gb274, 0, none⟩ = some (.slice Ao38 t264.length co38) := (blk_cell BK274.out 0).trans rfl
         have hcz94_1 : w79.cell? ⟨gb274, 1, none⟩ = some (.slice Ao43 t267.length co43) := (blk_cell BK274.out 1).trans rfl
         have hcz94_2 : w79.cell? ⟨gb274, 2, none⟩ = some (.slice Ao44 t270.length co44) := (blk_cell BK274.out 2).trans rfl
         have hfz94_0 := blk_frozen BK274.out 0
         have hfz94_1 := blk_frozen BK274.out 1
         have hfz94_2 := blk_frozen BK274.out 2
         have hnb95 := NB253_232.out
         have hnc95 := NB232_253.out
         have hnb96 := NB253_263.out
         have hnc96 := NB263_253.out
         have hcz97_0 : w79.cell? ⟨gb253, 0, none⟩ = some (.slice Ao22 t243.length co22) := (blk_cell BK253.out 0).trans rfl
         have hcz97_1 : w79.cell? ⟨gb253, 1, none⟩ = some (.slice Ao25 t246.length co25) := (blk_cell BK253.out 1).trans rfl
         have hcz97_2 : w79.cell? ⟨gb253, 2, none⟩ = some (.slice Ao26 t249.length co26) := (blk_cell BK253.out 2).trans rfl
         have hfz97_0 := blk_frozen BK253.out 0
         have hfz97_1 := blk_frozen BK253.out 1
         have hfz97_2 := blk_frozen BK253.out 2
         go_wp2_with (first | (go_at_call 19; (with_reducible refine (laws_eqMachine.calls kj10 _ _ t264 _ _ t267 _ _ t270 _ _ t243 _ _ t246 _ _ t249 false _ ?side1 ?side2 ?side3 ?side4 ?side5 ?side6 ?side7 ?side8 ?side9 ?side10 ?side11 ?side12 A81.out).mono ?_); (case side1 => exact a97_); (case side2 => exact (Kd.R_reads' HO_275000.out).2.1); (case side3 => exact a98_); (case side4 => exact (Kd.R_reads' HO_275001.out).2.1); (case side5 => exact a99_); (case side6 => exact (Kd.R_reads' HO_275002.out).2.1); (case side7 => exact a119_); (case side8 => exact (Kd.R_reads' HO_254000.out).2.1); (case side9 => exact a120_); (case side10 => exact (Kd.R_reads' HO_254001.out).2.1); (case side11 => exact a121_); (case side12 => exact (Kd.R_reads' HO_254002.out).2.1); rintro e w98 ⟨rfl, hb⟩; have n0_ := Aside0.mk (Kd.R_below a5_ hb); have n1_ := Aside0.mk (Kd.R_below a6_ hb); have n2_ := Aside0.mk (Kd.R_below a7_ hb); have n3_ := Aside0.mk (Kd.R_below a8_ hb); have n4_ := Aside0.mk (Kd.R_below a9_ hb); have n5_ := Aside0.mk (Kd.R_below a10_ hb); have n6_ := Aside0.mk (Kd.R_below a11_ hb); have n7_ := Aside0.mk (Kd.R_below a12_ hb); have n8_ := Aside0.mk (Kd.R_below a13_ hb); have n9_ := Aside0.mk (Kd.R_below a79_ hb); have n10_ := Aside0.mk (Kd.R_below a80_ hb); have n11_ := Aside0.mk (Kd.R_below a81_ hb); have n12_ := Aside0.mk (blk_below (g := gb232) a2_ hb); have n13_ := Aside0.mk (blk_below (g := gb253) a4_ hb); have n14_ := Aside0.mk (blk_below (g := gb263) a14_ hb); have n15_ := Aside0.mk (blk_below (g := gb274) a15_ hb); have n16_ := Aside0.mk (below_step a1_ hb); clear HO_254000; clear HO_254001; clear HO_254002; clear HO_264000; clear HO_264001; clear HO_264002; clear HO_275000; clear HO_275001; clear HO_275002; clear HO278; clear HO281; clear HO284; clear BK232; clear BK253; clear BK263; clear BK274; clear HB; have HO_254000 := n0_; have HO_254001 := n1_; have HO_254002 := n2_; have HO_264000 := n3_; have HO_264001 := n4_; have HO_264002 := n5_; have HO_275000 := n6_; have HO_275001 := n7_; have HO_275002 := n8_; have HO278 := n9_; have HO281 := n10_; have HO284 := n11_; have BK232 := n12_; have BK253 := n13_; have BK263 := n14_; have BK274 := n15_; have HB := n16_; clear n0_ n1_ n2_ n3_ n4_ n5_ n6_ n7_ n8_ n9_ n10_ n11_ n12_ n13_ n14_ n15_ n16_; (try clear hb); (try clear hb2); (try clear hk); (try clear hi)))
         go_meet
         case rel => exact ⟨_, (true), a86_, H', ⟨by have := HJ10.out; first | omega | exact Nat.le_refl _⟩, ⟨by (with_reducible repeat (first | apply Kd.R_alloc | apply Kd.R_drewN | apply Kd.R_drew)); exact Kd.R_mono HO_254000.out (fun _ hk => ⟨hk.1, ⟨hk.2.1, ⟨hk.2.2.1, ⟨hk.2.2.2.1, ⟨hk.2.2.2.2.1, ⟨hk.2.2.2.2.2.1, ⟨hk.2.2.2.2.2.2.1, hk.2.2.2.2.2.2.2.1⟩⟩⟩⟩⟩⟩⟩)⟩, ⟨by (with_reducible repeat (first | apply Kd.R_alloc | apply Kd.R_drewN | apply Kd.R_drew)); exact Kd.R_mono HO_254001.out (fun _ hk => ⟨hk.1, ⟨hk.2.1, ⟨hk.2.2.1, ⟨hk.2.2.2.1, ⟨hk.2.2.2.2.1, ⟨hk.2.2.2.2.2.1, ⟨hk.2.2.2.2.2.2.1, hk.2.2.2.2.2.2.2.1⟩⟩⟩⟩⟩⟩⟩)⟩, ⟨by (with_reducible repeat (first | apply Kd.R_alloc | apply Kd.R_drewN | apply Kd.R_drew)); exact Kd.R_mono HO_254002.out (fun _ hk => ⟨hk.1, ⟨hk.2.1, ⟨hk.2.2.1, ⟨hk.2.2.2.1, ⟨hk.2.2.2.2.1, ⟨hk.2.2.2.2.2.1, ⟨hk.2.2.2.2.2.2.1, hk.2.2.2.2.2.2.2.1⟩⟩⟩⟩⟩⟩⟩)⟩, ⟨by (with_reducible repeat (first | apply Kd.R_alloc | apply Kd.R_drewN | apply Kd.R_drew)); exact Kd.R_mono HO_264000.out (fun _ hk => ⟨hk.1.1.1.1, ⟨hk.1.1.1.2.1, ⟨hk.1.1.1.2.2.1, ⟨hk.1.1.1.2.2.2.1, ⟨hk.1.1.1.2.2.2.2.1, ⟨hk.1.1.1.2.2.2.2.2.1, ⟨hk.1.1.1.2.2.2.2.2.2.1, hk.1.1.1.2.2.2.2.2.2.2⟩⟩⟩⟩⟩⟩⟩)⟩, ⟨by (with_reducible repeat (first | apply Kd.R_alloc | apply Kd.R_drewN | apply Kd.R_drew)); exact Kd.R_mono HO_264001.out (fun _ hk => ⟨hk.1.1.1.1, ⟨hk.1.1.1.2.1, ⟨hk.1.1.1.2.2.1, ⟨hk.1.1.1.2.2.2.1, ⟨hk.1.1.1.2.2.2.2.1, ⟨hk.1.1.1.2.2.2.2.2.1, ⟨hk.1.1.1.2.2.2.2.2.2.1, hk.1.1.1.2.2.2.2.2.2.2⟩⟩⟩⟩⟩⟩⟩)⟩, ⟨by (with_reducible repeat (first | apply Kd.R_alloc | apply Kd.R_drewN | apply Kd.R_drew)); exact Kd.R_mono HO_264002.out (fun _ hk => ⟨hk.1.1.1.1, ⟨hk.1.1.1.2.1, ⟨hk.1.1.1.2.2.1, ⟨hk.1.1.1.2.2.2.1, ⟨hk.1.1.1.2.2.2.2.1, ⟨hk.1.1.1.2.2.2.2.2.1, ⟨hk.1.1.1.2.2.2.2.2.2.1, hk.1.1.1.2.2.2.2.2.2.2⟩⟩⟩⟩⟩⟩⟩)⟩, ⟨by (with_reducible repeat (first | apply Kd.R_alloc | apply Kd.R_drewN | apply Kd.R_drew)); exact Kd.R_mono HO_275000.out (fun _ hk => ⟨hk.1, ⟨hk.2.1, ⟨hk.2.2.1, ⟨hk.2.2.2.1, ⟨hk.2.2.2.2.1, ⟨hk.2.2.2.2.2.1, ⟨hk.2.2.2.2.2.2.1, hk.2.2.2.2.2.2.2.1⟩⟩⟩⟩⟩⟩⟩)⟩, ⟨by (with_reducible repeat (first | apply Kd.R_alloc | apply Kd.R_drewN | apply Kd.R_drew)); exact Kd.R_mono HO_275001.out (fun _ hk => ⟨hk.1, ⟨hk.2.1, ⟨hk.2.2.1, ⟨hk.2.2.2.1, ⟨hk.2.2.2.2.1, ⟨hk.2.2.2.2.2.1, ⟨hk.2.2.2.2.2.2.1, hk.2.2.2.2.2.2.2.1⟩⟩⟩⟩⟩⟩⟩)⟩, ⟨by (with_reducible repeat (first | apply Kd.R_alloc | apply Kd.R_drewN | apply Kd.R_drew)); exact Kd.R_mono HO_275002.out (fun _ hk => ⟨hk.1, ⟨hk.2.1, ⟨hk.2.2.1, ⟨hk.2.2.2.1, ⟨hk.2.2.2.2.1, ⟨hk.2.2.2.2.2.1, ⟨hk.2.2.2.2.2.2.1, hk.2.2.2.2.2.2.2.1⟩⟩⟩⟩⟩⟩⟩)⟩, ⟨by (with_reducible repeat (first | refine blk_drewN ?_ _ | refine blk_drew ?_ | refine blk_alloc ?_ _)); exact BK232.out⟩, ⟨by (with_reducible repeat (first | refine blk_drewN ?_ _ | refine blk_drew ?_ | refine blk_alloc ?_ _)); exact BK253.out⟩, ⟨by (with_reducible repeat (first | refine blk_drewN ?_ _ | refine blk_drew ?_ | refine blk_alloc ?_ _)); exact BK263.out⟩, ⟨by (with_reducible repeat (first | refine blk_drewN ?_ _ | refine blk_drew ?_ | refine blk_alloc ?_ _)); exact BK274.out⟩, ⟨by repeat (first | (with_reducible first | exact HB.out | apply below_alloc | apply pw_below_drewN | apply below_drew1 | refine below_set ?_ GE232.out | refine below_set ?_ GE253.out | refine below_set ?_ GE263.out | refine below_set ?_ GE274.out) | exact HB.out)⟩⟩
      case rest =>
       clear HC68
       try clear c1
       try clear c2
       try clear p2
       try clear c3
       try clear c3b0
       try clear c4
       try clear c5
       try clear c6
       try clear c7
       try clear c8
       try clear c9
       try clear c15
       try clear c17
       try clear c19
       try clear c22
       try clear c23
       try clear c24
       try clear c25
       try clear c31
       try clear c32
       try clear c39
       try clear c40
       try clear c41
       try clear c46
       try clear c47
       try clear c48
       try clear c49
       try clear c51
       try clear c52
       try clear c55
       try clear c56
       try clear c57
       try clear c59
       try clear c60
       try clear c63
       try clear c66
       try clear c75
       try clear c76
       try clear c77
       try clear c80
       try clear c80b0
       try clear c82
       try clear c83
       try clear c84
       try clear c85
       try clear c87
       try clear c88
       try clear c91
       try clear c92
       try clear c93
       try clear c95
       try clear c96
       try clear hcz13_0
       try clear hcz13_1
       try clear hcz13_2
       try clear hcz15_0
       try clear hcz15_1
       try clear hcz15_2
       try clear hcz24_0
       try clear hcz24_1
       try clear hcz24_2
       try clear hcz27_0
       try clear hcz27_1
       try clear hcz27_2
       try clear hcz33_0
       try clear hcz33_1
       try clear hcz33_2
       try clear hcz42_0
       try clear hcz42_1
       try clear hcz42_2
       try clear hcz50_0
       try clear hcz50_1
       try clear hcz50_2
       try clear hcz53_0
       try clear hcz53_1
       try clear hcz53_2
       try clear hcz58_0
       try clear hcz58_1
       try clear hcz58_2
       try clear hcz5_0
       try clear hcz5_1
       try clear hcz5_2
       try clear hcz61_0
       try clear hcz61_1
       try clear hcz61_2
       try clear hcz78_0
       try clear hcz78_1
       try clear hcz78_2
       try clear hcz86_0
       try clear hcz86_1
       try clear hcz86_2
       try clear hcz89_0
       try clear hcz89_1
       try clear hcz89_2
       try clear hcz94_0
       try clear hcz94_1
       try clear hcz94_2
       try clear hcz97_0
       try clear hcz97_1
       try clear hcz97_2
       try clear hfz13_0
       try clear hfz13_1
       try clear hfz13_2
       try clear hfz15_0
       try clear hfz15_1
       try clear hfz15_2
       try clear hfz24_0
       try clear hfz24_1
       try clear hfz24_2
       try clear hfz27_0
       try clear hfz27_1
       try clear hfz27_2
       try clear hfz33_0
       try clear hfz33_1
       try clear hfz33_2
       try clear hfz42_0
       try clear hfz42_1
       try clear hfz42_2
       try clear hfz50_0
       try clear hfz50_1
       try clear hfz50_2
       try clear hfz53_0
       try clear hfz53_1
       try clear hfz53_2
       try clear hfz58_0
       try clear hfz58_1
       try clear hfz58_2
       try clear hfz5_0
       try clear hfz5_1
       try clear hfz5_2
       try clear hfz61_0
       try clear hfz61_1
       try clear hfz61_2
       try clear hfz78_0
       try clear hfz78_1
       try clear hfz78_2
       try clear hfz86_0
       try clear hfz86_1
       try clear hfz86_2
       try clear hfz89_0
       try clear hfz89_1
       try clear hfz89_2
       try clear hfz94_0
       try clear hfz94_1
       try clear hfz94_2
       try clear hfz97_0
       try clear hfz97_1
       try clear hfz97_2
       try clear p2
       obtain ⟨kq, x61_67, rfl, HA, HJ67, HO_254000, HO_254001, HO_254002, HO_264000, HO_264001, HO_264002, HO_275000, HO_275001, HO_275002, BK232, BK253, BK263, BK274, HB⟩ := hcut
       have hl264000_67 := (Kd.R_reads' HO_264000.out).1
       rw [hl264000_67] at HO_264000
       (try simp only [hl264000_67])
       (try simp only [hl264000_67] at BK232)
       (try simp only [hl264000_67] at BK253)
       (try simp only [hl264000_67] at BK263)
       (try simp only [hl264000_67] at BK274)
       (try simp only [hl264000_67] at HO_254000)
       (try simp only [hl264000_67] at HO_254001)
       (try simp only [hl264000_67] at HO_254002)
       (try simp only [hl264000_67] at HO_264001)
       (try simp only [hl264000_67] at HO_264002)
       (try simp only [hl264000_67] at HO_275000)
       (try simp only [hl264000_67] at HO_275001)
       (try simp only [hl264000_67] at HO_275002)
       have hl264001_67 := (Kd.R_reads' HO_264001.out).1
       rw [hl264001_67] at HO_264001
       (try simp only [hl264001_67])
       (try simp only [hl264001_67] at BK232)
       (try simp only [hl264001_67] at BK253)
       (try simp only [hl264001_67] at BK263)
       (try simp only [hl264001_67] at BK274)
       (try simp only [hl264001_67] at HO_254000)
       (try simp only [hl264001_67] at HO_254001)
       (try simp only [hl264001_67] at HO_254002)
       (try simp only [hl264001_67] at HO_264000)
       (try simp only [hl264001_67] at HO_264002)
       (try simp only [hl264001_67] at HO_275000)
       (try simp only [hl264001_67] at HO_275001)
       (try simp only [hl264001_67] at HO_275002)
       have hl264002_67 := (Kd.R_reads' HO_264002.out).1
       rw [hl264002_67] at HO_264002
       (try simp only [hl264002_67])
       (try simp only [hl264002_67] at BK232)
       (try simp only [hl264002_67] at BK253)
       (try simp only [hl264002_67] at BK263)
       (try simp only [hl264002_67] at BK274)
       (try simp only [hl264002_67] at HO_254000)
       (try simp only [hl264002_67] at HO_254001)
       (try simp only [hl264002_67] at HO_254002)
       (try simp only [hl264002_67] at HO_264000)
       (try simp only [hl264002_67] at HO_264001)
       (try simp only [hl264002_67] at HO_275000)
       (try simp only [hl264002_67] at HO_275001)
       (try simp only [hl264002_67] at HO_275002)
       cases kq with
       | zero => exact absurd HA.out (by simp [laws_FnExactBackwardMachine.j1])
       | succ kj67 =>
        have H := HA.out
        clear HA
        simp only [laws_FnExactBackwardMachine.j1] at H
        by_cases c99 : x61_67 = true
        ·subst c99
         have H1 : (some false) = some r := by rw [if_pos rfl] at H; exact H
         clear H
         have H := H1
         clear H1
         obtain rfl := Option.some.inj H
         go_wp2
         go_ret
         exact ⟨by first | rfl | (simp [errW_none, errW_some] <;> rfl) | (simp [*, errW_none, errW_some] <;> rfl), by repeat (first | (with_reducible first | exact HB.out | apply below_alloc | apply pw_below_drewN | apply below_drew1 | refine below_set ?_ GE232.out | refine below_set ?_ GE253.out | refine below_set ?_ GE263.out | refine below_set ?_ GE274.out) | exact HB.out)⟩
        ·replace c99 := Bool.eq_false_iff.mpr c99
         subst c99
         have H1 : ((laws_markMachine.f kj67 t264 t267 t270 1).bind fun bt291 => ((laws_heldMachine.f kj67 bt291.2.1 bt291.2.2.1 bt291.2.2.2 1).bind fun t295 => (if t295 < 0 then (some false) else (if t295 = bt291.1 then ((laws_toMachine.f kj67 l0_0 l0_1 l0_2).bind fun bt296 => ((impl_BackwardMachine.f kj67 bt296.1 bt296.2.1 bt296.2.2).bind fun bt305 => ((laws_eqMachine.f kj67 bt305.1 bt305.2.1 bt305.2.2.1 t243 t246 t249).bind fun t316 => (if t316 = true then (laws_FnExactBackwardMachine.j2 kj67 bt291.1 (bt305.2.2.2 != t252) bt291.2.1 bt291.2.2.1 bt291.2.2.2) else (laws_FnExactBackwardMachine.j2 kj67 bt291.1 true bt291.2.1 bt291.2.2.1 bt291.2.2.2))))) else (some false))))) = some r := by rw [if_neg (show ¬ (false = true) by decide)] at H; exact H
         clear H
         have H := H1
         clear H1
         replace H := Option.bind_eq_some_iff.mp H
         obtain ⟨⟨t291, t292, t293, t294⟩, A1000, H⟩ := H
         replace H : ((laws_heldMachine.f kj67 t292 t293 t294 1).bind fun t295 => (if t295 < 0 then (some false) else (if t295 = t291 then ((laws_toMachine.f kj67 l0_0 l0_1 l0_2).bind fun bt296 => ((impl_BackwardMachine.f kj67 bt296.1 bt296.2.1 bt296.2.2).bind fun bt305 => ((laws_eqMachine.f kj67 bt305.1 bt305.2.1 bt305.2.2.1 t243 t246 t249).bind fun t316 => (if t316 = true then (laws_FnExactBackwardMachine.j2 kj67 t291 (bt305.2.2.2 != t252) t292 t293 t294) else (laws_FnExactBackwardMachine.j2 kj67 t291 true t292 t293 t294))))) else (some false)))) = some r := H
         have A100 := Aside0.mk A1000
         clear A1000
         replace H := Option.bind_eq_some_iff.mp H
         obtain ⟨t295, A1010, H⟩ := H
         replace H : (if t295 < 0 then (some false) else (if t295 = t291 then ((laws_toMachine.f kj67 l0_0 l0_1 l0_2).bind fun bt296 => ((impl_BackwardMachine.f kj67 bt296.1 bt296.2.1 bt296.2.2).bind fun bt305 => ((laws_eqMachine.f kj67 bt305.1 bt305.2.1 bt305.2.2.1 t243 t246 t249).bind fun t316 => (if t316 = true then (laws_FnExactBackwardMachine.j2 kj67 t291 (bt305.2.2.2 != t252) t292 t293 t294) else (laws_FnExactBackwardMachine.j2 kj67 t291 true t292 t293 t294))))) else (some false))) = some r := H
         have A101 := Aside0.mk A1010
         clear A1010
         by_cases c102 : t295 < 0
         ·rw [if_pos c102] at H
          have c102b0 : decide (t295 < 0) = true := decide_eq_true c102
          clear c102
          obtain rfl := Option.some.inj H
          have hnb103 := NB274_232.out
          have hnc103 := NB232_274.out
          have hnb104 := NB274_253.out
          have hnc104 := NB253_274.out
          have hnb105 := NB274_263.out
          have hnc105 := NB263_274.out
          have hcz106_0 : wc.cell? ⟨gb274, 0, none⟩ = some (.slice Ao38 t264.length co38) := (blk_cell BK274.out 0).trans rfl
          have hcz106_1 : wc.cell? ⟨gb274, 1, none⟩ = some (.slice Ao43 t267.length co43) := (blk_cell BK274.out 1).trans rfl
          have hcz106_2 : wc.cell? ⟨gb274, 2, none⟩ = some (.slice Ao44 t270.length co44) := (blk_cell BK274.out 2).trans rfl
          have hfz106_0 := blk_frozen BK274.out 0
          have hfz106_1 := blk_frozen BK274.out 1
          have hfz106_2 := blk_frozen BK274.out 2
          go_wp2_with (first | ((with_reducible refine gate_callee (f := 22) rfl ?_); refine goesL_ (some 64) rfl rfl Try.func22 (by kernel_rfl) rfl #[.agg #[.slice Ao38 t264.length co38, .slice Ao43 t267.length co43, .slice Ao44 t270.length co44], .int .i64 1] rfl a3_ ?_; (with_reducible refine (laws_markMachine.calls kj67 (fun k_ => some k_ = (.slice Ao38 t264.length co38 : Value).ownBlock) (.slice Ao38 t264.length co38) t264 (fun k_ => some k_ = (.slice Ao43 t267.length co43 : Value).ownBlock) (.slice Ao43 t267.length co43) t267 (fun k_ => some k_ = (.slice Ao44 t270.length co44 : Value).ownBlock) (.slice Ao44 t270.length co44) t270 1 t291 t292 t293 t294 w _ ?side1 ?side2 ?side3 ?side4 ?side5 ?side6 ?side7 ?side8 ?side9 ?side10 A100.out).mono ?_); (case side1 => exact a109_); (case side2 => exact Kd.R_tight rfl HO_275000.out); (case side3 => exact a129_); (case side4 => exact a130_); (case side5 => exact Kd.R_tight rfl HO_275001.out); (case side6 => exact a131_); (case side7 => exact a132_); (case side8 => exact Kd.R_tight rfl HO_275002.out); (case side9 => exact a133_); (case side10 => exact a134_); rintro e w107 ⟨rfl, hy0, hy1, hy2, hb, hkp⟩; refine ⟨_, rfl, ?_⟩; have n0_ := Aside0.mk (Kd.R_mono (ok' := fun k_ => nbk k_ Ao25 t246.length co25 ∧ nbk k_ Ao26 t249.length co26 ∧ nbk k_ Ao30 t287.length co30 ∧ nbk k_ Ao34 t288.length co34 ∧ nbk k_ Ao35 t289.length co35 ∧ nbk k_ Ao38 t264.length co38 ∧ nbk k_ Ao43 t267.length co43 ∧ nbk k_ Ao44 t270.length co44) (Kd.R_keptB (HO_254000.out) hkp (fun k_ hk_ hs_ => Or.elim hs_ (fun e_ => (hk_.2.2.2.2.2.1) e_) (fun e_ => Or.elim e_ (fun e_ => (hk_.2.2.2.2.2.2.1) e_) (fun e_ => (hk_.2.2.2.2.2.2.2) e_)))) (fun k_ hk_ => ⟨hk_.1.1, hk_.1.2.1, hk_.1.2.2.1, hk_.1.2.2.2.1, hk_.1.2.2.2.2.1, hk_.1.2.2.2.2.2.1, hk_.1.2.2.2.2.2.2.1, hk_.1.2.2.2.2.2.2.2⟩)); have n1_ := Aside0.mk (Kd.R_mono (ok' := fun k_ => nbk k_ Ao22 t243.length co22 ∧ nbk k_ Ao26 t249.length co26 ∧ nbk k_ Ao30 t287.length co30 ∧ nbk k_ Ao34 t288.length co34 ∧ nbk k_ Ao35 t289.length co35 ∧ nbk k_ Ao38 t264.length co38 ∧ nbk k_ Ao43 t267.length co43 ∧ nbk k_ Ao44 t270.length co44) (Kd.R_keptB (HO_254001.out) hkp (fun k_ hk_ hs_ => Or.elim hs_ (fun e_ => (hk_.2.2.2.2.2.1) e_) (fun e_ => Or.elim e_ (fun e_ => (hk_.2.2.2.2.2.2.1) e_) (fun e_ => (hk_.2.2.2.2.2.2.2) e_)))) (fun k_ hk_ => ⟨hk_.1.1, hk_.1.2.1, hk_.1.2.2.1, hk_.1.2.2.2.1, hk_.1.2.2.2.2.1, hk_.1.2.2.2.2.2.1, hk_.1.2.2.2.2.2.2.1, hk_.1.2.2.2.2.2.2.2⟩)); have n2_ := Aside0.mk (Kd.R_mono (ok' := fun k_ => nbk k_ Ao22 t243.length co22 ∧ nbk k_ Ao25 t246.length co25 ∧ nbk k_ Ao30 t287.length co30 ∧ nbk k_ Ao34 t288.length co34 ∧ nbk k_ Ao35 t289.length co35 ∧ nbk k_ Ao38 t264.length co38 ∧ nbk k_ Ao43 t267.length co43 ∧ nbk k_ Ao44 t270.length co44) (Kd.R_keptB (HO_254002.out) hkp (fun k_ hk_ hs_ => Or.elim hs_ (fun e_ => (hk_.2.2.2.2.2.1) e_) (fun e_ => Or.elim e_ (fun e_ => (hk_.2.2.2.2.2.2.1) e_) (fun e_ => (hk_.2.2.2.2.2.2.2) e_)))) (fun k_ hk_ => ⟨hk_.1.1, hk_.1.2.1, hk_.1.2.2.1, hk_.1.2.2.2.1, hk_.1.2.2.2.2.1, hk_.1.2.2.2.2.2.1, hk_.1.2.2.2.2.2.2.1, hk_.1.2.2.2.2.2.2.2⟩)); have n3_ := Aside0.mk (Kd.R_mono (ok' := fun k_ => nbk k_ Ao22 t243.length co22 ∧ nbk k_ Ao25 t246.length co25 ∧ nbk k_ Ao26 t249.length co26 ∧ nbk k_ Ao34 t288.length co34 ∧ nbk k_ Ao35 t289.length co35 ∧ nbk k_ Ao38 t264.length co38 ∧ nbk k_ Ao43 t267.length co43 ∧ nbk k_ Ao44 t270.length co44) (Kd.R_keptB (HO_264000.out) hkp (fun k_ hk_ hs_ => Or.elim hs_ (fun e_ => (hk_.2.2.2.2.2.1) e_) (fun e_ => Or.elim e_ (fun e_ => (hk_.2.2.2.2.2.2.1) e_) (fun e_ => (hk_.2.2.2.2.2.2.2) e_)))) (fun k_ hk_ => ⟨hk_.1.1, hk_.1.2.1, hk_.1.2.2.1, hk_.1.2.2.2.1, hk_.1.2.2.2.2.1, hk_.1.2.2.2.2.2.1, hk_.1.2.2.2.2.2.2.1, hk_.1.2.2.2.2.2.2.2⟩)); have n4_ := Aside0.mk (Kd.R_mono (ok' := fun k_ => nbk k_ Ao22 t243.length co22 ∧ nbk k_ Ao25 t246.length co25 ∧ nbk k_ Ao26 t249.length co26 ∧ nbk k_ Ao30 t287.length co30 ∧ nbk k_ Ao35 t289.length co35 ∧ nbk k_ Ao38 t264.length co38 ∧ nbk k_ Ao43 t267.length co43 ∧ nbk k_ Ao44 t270.length co44) (Kd.R_keptB (HO_264001.out) hkp (fun k_ hk_ hs_ => Or.elim hs_ (fun e_ => (hk_.2.2.2.2.2.1) e_) (fun e_ => Or.elim e_ (fun e_ => (hk_.2.2.2.2.2.2.1) e_) (fun e_ => (hk_.2.2.2.2.2.2.2) e_)))) (fun k_ hk_ => ⟨hk_.1.1, hk_.1.2.1, hk_.1.2.2.1, hk_.1.2.2.2.1, hk_.1.2.2.2.2.1, hk_.1.2.2.2.2.2.1, hk_.1.2.2.2.2.2.2.1, hk_.1.2.2.2.2.2.2.2⟩)); have n5_ := Aside0.mk (Kd.R_mono (ok' := fun k_ => nbk k_ Ao22 t243.length co22 ∧ nbk k_ Ao25 t246.length co25 ∧ nbk k_ Ao26 t249.length co26 ∧ nbk k_ Ao30 t287.length co30 ∧ nbk k_ Ao34 t288.length co34 ∧ nbk k_ Ao38 t264.length co38 ∧ nbk k_ Ao43 t267.length co43 ∧ nbk k_ Ao44 t270.length co44) (Kd.R_keptB (HO_264002.out) hkp (fun k_ hk_ hs_ => Or.elim hs_ (fun e_ => (hk_.2.2.2.2.2.1) e_) (fun e_ => Or.elim e_ (fun e_ => (hk_.2.2.2.2.2.2.1) e_) (fun e_ => (hk_.2.2.2.2.2.2.2) e_)))) (fun k_ hk_ => ⟨hk_.1.1, hk_.1.2.1, hk_.1.2.2.1, hk_.1.2.2.2.1, hk_.1.2.2.2.2.1, hk_.1.2.2.2.2.2.1, hk_.1.2.2.2.2.2.2.1, hk_.1.2.2.2.2.2.2.2⟩)); have n6_ := Aside0.mk (Kd.R_reok rfl hy0 (fun k_ e_ => HO_275000.out.1 k_ e_)); have n7_ := Aside0.mk (Kd.R_reok rfl hy1 (fun k_ e_ => HO_275001.out.1 k_ e_)); have n8_ := Aside0.mk (Kd.R_reok rfl hy2 (fun k_ e_ => HO_275002.out.1 k_ e_)); have n9_ := Aside0.mk (blk_kept a2_ hkp (fun hs_ => Or.elim hs_ (fun e_ => (fun e_ => (Kd.R_ne HO_275000.out BK232.out (by decide)) e_) e_) (fun e_ => Or.elim e_ (fun e_ => (fun e_ => (Kd.R_ne HO_275001.out BK232.out (by decide)) e_) e_) (fun e_ => (fun e_ => (Kd.R_ne HO_275002.out BK232.out (by decide)) e_) e_)))); have n10_ := Aside0.mk (blk_kept a4_ hkp (fun hs_ => Or.elim hs_ (fun e_ => (fun e_ => (Kd.R_ne HO_275000.out BK253.out (by decide)) e_) e_) (fun e_ => Or.elim e_ (fun e_ => (fun e_ => (Kd.R_ne HO_275001.out BK253.out (by decide)) e_) e_) (fun e_ => (fun e_ => (Kd.R_ne HO_275002.out BK253.out (by decide)) e_) e_)))); have n11_ := Aside0.mk (blk_kept a14_ hkp (fun hs_ => Or.elim hs_ (fun e_ => (fun e_ => (Kd.R_ne HO_275000.out BK263.out (by decide)) e_) e_) (fun e_ => Or.elim e_ (fun e_ => (fun e_ => (Kd.R_ne HO_275001.out BK263.out (by decide)) e_) e_) (fun e_ => (fun e_ => (Kd.R_ne HO_275002.out BK263.out (by decide)) e_) e_)))); have n12_ := Aside0.mk (blk_kept a15_ hkp (fun hs_ => Or.elim hs_ (fun e_ => (fun e_ => (Kd.R_ne HO_275000.out BK274.out (by decide)) e_) e_) (fun e_ => Or.elim e_ (fun e_ => (fun e_ => (Kd.R_ne HO_275001.out BK274.out (by decide)) e_) e_) (fun e_ => (fun e_ => (Kd.R_ne HO_275002.out BK274.out (by decide)) e_) e_)))); have n13_ := Aside0.mk (hb); clear HO_254000; clear HO_254001; clear HO_254002; clear HO_264000; clear HO_264001; clear HO_264002; clear HO_275000; clear HO_275001; clear HO_275002; clear BK232; clear BK253; clear BK263; clear BK274; clear HB; have HO_254000 := n0_; have HO_254001 := n1_; have HO_254002 := n2_; have HO_264000 := n3_; have HO_264001 := n4_; have HO_264002 := n5_; have HO_275000 := n6_; have HO_275001 := n7_; have HO_275002 := n8_; have BK232 := n9_; have BK253 := n10_; have BK263 := n11_; have BK274 := n12_; have HB := n13_; clear n0_ n1_ n2_ n3_ n4_ n5_ n6_ n7_ n8_ n9_ n10_ n11_ n12_ n13_; (try clear hb); (try clear hkp); (try clear hy0); (try clear hy1); (try clear hy2); have hcz108_0 : w107.cell? ⟨gb274, 0, none⟩ = some (.slice Ao38 t264.length co38) := (blk_cell BK274.out 0).trans rfl; have hcz108_1 : w107.cell? ⟨gb274, 1, none⟩ = some (.slice Ao43 t267.length co43) := (blk_cell BK274.out 1).trans rfl; have hcz108_2 : w107.cell? ⟨gb274, 2, none⟩ = some (.slice Ao44 t270.length co44) := (blk_cell BK274.out 2).trans rfl; have hfz108_0 := blk_frozen BK274.out 0; have hfz108_1 := blk_frozen BK274.out 1; have hfz108_2 := blk_frozen BK274.out 2) | ((with_reducible refine gate_callee (f := 23) rfl ?_); refine goesL_ (some 67) rfl rfl Try.func23 (by kernel_rfl) rfl #[.agg #[.slice Ao38 t292.length co38, .slice Ao43 t293.length co43, .slice Ao44 t294.length co44], .int .i64 1] rfl a49_ ?_; (with_reducible refine (laws_heldMachine.calls kj67 _ _ t292 _ _ t293 _ _ t294 1 t295 _ ?side1 ?side2 ?side3 ?side4 ?side5 ?side6 A101.out).mono ?_); (case side1 => exact a97_); (case side2 => exact a125_); (case side3 => exact a98_); (case side4 => exact a126_); (case side5 => exact a99_); (case side6 => exact a127_); rintro e w109 ⟨rfl, hb⟩; refine ⟨_, rfl, ?_⟩; have n0_ := Aside0.mk (Kd.R_below a5_ hb); have n1_ := Aside0.mk (Kd.R_below a6_ hb); have n2_ := Aside0.mk (Kd.R_below a7_ hb); have n3_ := Aside0.mk (Kd.R_below a8_ hb); have n4_ := Aside0.mk (Kd.R_below a9_ hb); have n5_ := Aside0.mk (Kd.R_below a10_ hb); have n6_ := Aside0.mk (Kd.R_below a11_ hb); have n7_ := Aside0.mk (Kd.R_below a12_ hb); have n8_ := Aside0.mk (Kd.R_below a13_ hb); have n9_ := Aside0.mk (blk_below (g := gb232) a2_ hb); have n10_ := Aside0.mk (blk_below (g := gb253) a4_ hb); have n11_ := Aside0.mk (blk_below (g := gb263) a14_ hb); have n12_ := Aside0.mk (blk_below (g := gb274) a15_ hb); have n13_ := Aside0.mk (below_step a1_ hb); clear HO_254000; clear HO_254001; clear HO_254002; clear HO_264000; clear HO_264001; clear HO_264002; clear HO_275000; clear HO_275001; clear HO_275002; clear BK232; clear BK253; clear BK263; clear BK274; clear HB; have HO_254000 := n0_; have HO_254001 := n1_; have HO_254002 := n2_; have HO_264000 := n3_; have HO_264001 := n4_; have HO_264002 := n5_; have HO_275000 := n6_; have HO_275001 := n7_; have HO_275002 := n8_; have BK232 := n9_; have BK253 := n10_; have BK263 := n11_; have BK274 := n12_; have HB := n13_; clear n0_ n1_ n2_ n3_ n4_ n5_ n6_ n7_ n8_ n9_ n10_ n11_ n12_ n13_; (try clear hb); (try clear hb2); (try clear hk); (try clear hi)))
          go_ret
          exact ⟨by first | rfl | (simp [errW_none, errW_some] <;> rfl) | (simp [*, errW_none, errW_some] <;> rfl), by repeat (first | (with_reducible first | exact HB.out | apply below_alloc | apply pw_below_drewN | apply below_drew1 | refine below_set ?_ GE232.out | refine below_set ?_ GE253.out | refine below_set ?_ GE263.out | refine below_set ?_ GE274.out) | exact HB.out)⟩
         ·rw [if_neg c102] at H
          have c102b0 : decide (t295 < 0) = false := decide_eq_false c102
          clear c102
          by_cases c110 : t295 = t291
          ·rw [if_pos c110] at H
           have c110b0 : (t295 == t291) = true := beq_iff_eq.mpr c110
           have c110b1 : (t295 != t291) = false := bne_eq_false_iff_eq.mpr c110
           clear c110
           replace H := Option.bind_eq_some_iff.mp H
           obtain ⟨⟨t296, t299, t302⟩, A1110, H⟩ := H
           replace H : ((impl_BackwardMachine.f kj67 t296 t299 t302).bind fun bt305 => ((laws_eqMachine.f kj67 bt305.1 bt305.2.1 bt305.2.2.1 t243 t246 t249).bind fun t316 => (if t316 = true then (laws_FnExactBackwardMachine.j2 kj67 t291 (bt305.2.2.2 != t252) t292 t293 t294) else (laws_FnExactBackwardMachine.j2 kj67 t291 true t292 t293 t294)))) = some r := H
           have A111 := Aside0.mk A1110
           clear A1110
           replace H := Option.bind_eq_some_iff.mp H
           obtain ⟨⟨t305, t308, t311, t314⟩, A1120, H⟩ := H
           replace H : ((laws_eqMachine.f kj67 t305 t308 t311 t243 t246 t249).bind fun t316 => (if t316 = true then (laws_FnExactBackwardMachine.j2 kj67 t291 (t314 != t252) t292 t293 t294) else (laws_FnExactBackwardMachine.j2 kj67 t291 true t292 t293 t294))) = some r := H
           have A112 := Aside0.mk A1120
           clear A1120
           have HC113 := Aside0.mk H
           clear H
           have hnb114 := NB274_232.out
           have hnc114 := NB232_274.out
           have hnb115 := NB274_253.out
           have hnc115 := NB253_274.out
           have hnb116 := NB274_263.out
           have hnc116 := NB263_274.out
           have hcz117_0 : wc.cell? ⟨gb274, 0, none⟩ = some (.slice Ao38 t264.length co38) := (blk_cell BK274.out 0).trans rfl
           have hcz117_1 : wc.cell? ⟨gb274, 1, none⟩ = some (.slice Ao43 t267.length co43) := (blk_cell BK274.out 1).trans rfl
           have hcz117_2 : wc.cell? ⟨gb274, 2, none⟩ = some (.slice Ao44 t270.length co44) := (blk_cell BK274.out 2).trans rfl
           have hfz117_0 := blk_frozen BK274.out 0
           have hfz117_1 := blk_frozen BK274.out 1
           have hfz117_2 := blk_frozen BK274.out 2
           go_upto_region 25 with (first | ((with_reducible refine gate_callee (f := 22) rfl ?_); refine goesL_ (some 64) rfl rfl Try.func22 (by kernel_rfl) rfl #[.agg #[.slice Ao38 t264.length co38, .slice Ao43 t267.length co43, .slice Ao44 t270.length co44], .int .i64 1] rfl a3_ ?_; (with_reducible refine (laws_markMachine.calls kj67 (fun k_ => some k_ = (.slice Ao38 t264.length co38 : Value).ownBlock) (.slice Ao38 t264.length co38) t264 (fun k_ => some k_ = (.slice Ao43 t267.length co43 : Value).ownBlock) (.slice Ao43 t267.length co43) t267 (fun k_ => some k_ = (.slice Ao44 t270.length co44 : Value).ownBlock) (.slice Ao44 t270.length co44) t270 1 t291 t292 t293 t294 w _ ?side1 ?side2 ?side3 ?side4 ?side5 ?side6 ?side7 ?side8 ?side9 ?side10 A100.out).mono ?_); (case side1 => exact a109_); (case side2 => exact Kd.R_tight rfl HO_275000.out); (case side3 => exact a129_); (case side4 => exact a130_); (case side5 => exact Kd.R_tight rfl HO_275001.out); (case side6 => exact a131_); (case side7 => exact a132_); (case side8 => exact Kd.R_tight rfl HO_275002.out); (case side9 => exact a133_); (case side10 => exact a134_); rintro e w118 ⟨rfl, hy0, hy1, hy2, hb, hkp⟩; refine ⟨_, rfl, ?_⟩; have n0_ := Aside0.mk (Kd.R_mono (ok' := fun k_ => nbk k_ Ao25 t246.length co25 ∧ nbk k_ Ao26 t249.length co26 ∧ nbk k_ Ao30 t287.length co30 ∧ nbk k_ Ao34 t288.length co34 ∧ nbk k_ Ao35 t289.length co35 ∧ nbk k_ Ao38 t264.length co38 ∧ nbk k_ Ao43 t267.length co43 ∧ nbk k_ Ao44 t270.length co44) (Kd.R_keptB (HO_254000.out) hkp (fun k_ hk_ hs_ => Or.elim hs_ (fun e_ => (hk_.2.2.2.2.2.1) e_) (fun e_ => Or.elim e_ (fun e_ => (hk_.2.2.2.2.2.2.1) e_) (fun e_ => (hk_.2.2.2.2.2.2.2) e_)))) (fun k_ hk_ => ⟨hk_.1.1, hk_.1.2.1, hk_.1.2.2.1, hk_.1.2.2.2.1, hk_.1.2.2.2.2.1, hk_.1.2.2.2.2.2.1, hk_.1.2.2.2.2.2.2.1, hk_.1.2.2.2.2.2.2.2⟩)); have n1_ := Aside0.mk (Kd.R_mono (ok' := fun k_ => nbk k_ Ao22 t243.length co22 ∧ nbk k_ Ao26 t249.length co26 ∧ nbk k_ Ao30 t287.length co30 ∧ nbk k_ Ao34 t288.length co34 ∧ nbk k_ Ao35 t289.length co35 ∧ nbk k_ Ao38 t264.length co38 ∧ nbk k_ Ao43 t267.length co43 ∧ nbk k_ Ao44 t270.length co44) (Kd.R_keptB (HO_254001.out) hkp (fun k_ hk_ hs_ => Or.elim hs_ (fun e_ => (hk_.2.2.2.2.2.1) e_) (fun e_ => Or.elim e_ (fun e_ => (hk_.2.2.2.2.2.2.1) e_) (fun e_ => (hk_.2.2.2.2.2.2.2) e_)))) (fun k_ hk_ => ⟨hk_.1.1, hk_.1.2.1, hk_.1.2.2.1, hk_.1.2.2.2.1, hk_.1.2.2.2.2.1, hk_.1.2.2.2.2.2.1, hk_.1.2.2.2.2.2.2.1, hk_.1.2.2.2.2.2.2.2⟩)); have n2_ := Aside0.mk (Kd.R_mono (ok' := fun k_ => nbk k_ Ao22 t243.length co22 ∧ nbk k_ Ao25 t246.length co25 ∧ nbk k_ Ao30 t287.length co30 ∧ nbk k_ Ao34 t288.length co34 ∧ nbk k_ Ao35 t289.length co35 ∧ nbk k_ Ao38 t264.length co38 ∧ nbk k_ Ao43 t267.length co43 ∧ nbk k_ Ao44 t270.length co44) (Kd.R_keptB (HO_254002.out) hkp (fun k_ hk_ hs_ => Or.elim hs_ (fun e_ => (hk_.2.2.2.2.2.1) e_) (fun e_ => Or.elim e_ (fun e_ => (hk_.2.2.2.2.2.2.1) e_) (fun e_ => (hk_.2.2.2.2.2.2.2) e_)))) (fun k_ hk_ => ⟨hk_.1.1, hk_.1.2.1, hk_.1.2.2.1, hk_.1.2.2.2.1, hk_.1.2.2.2.2.1, hk_.1.2.2.2.2.2.1, hk_.1.2.2.2.2.2.2.1, hk_.1.2.2.2.2.2.2.2⟩)); have n3_ := Aside0.mk (Kd.R_mono (ok' := fun k_ => nbk k_ Ao22 t243.length co22 ∧ nbk k_ Ao25 t246.length co25 ∧ nbk k_ Ao26 t249.length co26 ∧ nbk k_ Ao34 t288.length co34 ∧ nbk k_ Ao35 t289.length co35 ∧ nbk k_ Ao38 t264.length co38 ∧ nbk k_ Ao43 t267.length co43 ∧ nbk k_ Ao44 t270.length co44) (Kd.R_keptB (HO_264000.out) hkp (fun k_ hk_ hs_ => Or.elim hs_ (fun e_ => (hk_.2.2.2.2.2.1) e_) (fun e_ => Or.elim e_ (fun e_ => (hk_.2.2.2.2.2.2.1) e_) (fun e_ => (hk_.2.2.2.2.2.2.2) e_)))) (fun k_ hk_ => ⟨hk_.1.1, hk_.1.2.1, hk_.1.2.2.1, hk_.1.2.2.2.1, hk_.1.2.2.2.2.1, hk_.1.2.2.2.2.2.1, hk_.1.2.2.2.2.2.2.1, hk_.1.2.2.2.2.2.2.2⟩)); have n4_ := Aside0.mk (Kd.R_mono (ok' := fun k_ => nbk k_ Ao22 t243.length co22 ∧ nbk k_ Ao25 t246.length co25 ∧ nbk k_ Ao26 t249.length co26 ∧ nbk k_ Ao30 t287.length co30 ∧ nbk k_ Ao35 t289.length co35 ∧ nbk k_ Ao38 t264.length co38 ∧ nbk k_ Ao43 t267.length co43 ∧ nbk k_ Ao44 t270.length co44) (Kd.R_keptB (HO_264001.out) hkp (fun k_ hk_ hs_ => Or.elim hs_ (fun e_ => (hk_.2.2.2.2.2.1) e_) (fun e_ => Or.elim e_ (fun e_ => (hk_.2.2.2.2.2.2.1) e_) (fun e_ => (hk_.2.2.2.2.2.2.2) e_)))) (fun k_ hk_ => ⟨hk_.1.1, hk_.1.2.1, hk_.1.2.2.1, hk_.1.2.2.2.1, hk_.1.2.2.2.2.1, hk_.1.2.2.2.2.2.1, hk_.1.2.2.2.2.2.2.1, hk_.1.2.2.2.2.2.2.2⟩)); have n5_ := Aside0.mk (Kd.R_mono (ok' := fun k_ => nbk k_ Ao22 t243.length co22 ∧ nbk k_ Ao25 t246.length co25 ∧ nbk k_ Ao26 t249.length co26 ∧ nbk k_ Ao30 t287.length co30 ∧ nbk k_ Ao34 t288.length co34 ∧ nbk k_ Ao38 t264.length co38 ∧ nbk k_ Ao43 t267.length co43 ∧ nbk k_ Ao44 t270.length co44) (Kd.R_keptB (HO_264002.out) hkp (fun k_ hk_ hs_ => Or.elim hs_ (fun e_ => (hk_.2.2.2.2.2.1) e_) (fun e_ => Or.elim e_ (fun e_ => (hk_.2.2.2.2.2.2.1) e_) (fun e_ => (hk_.2.2.2.2.2.2.2) e_)))) (fun k_ hk_ => ⟨hk_.1.1, hk_.1.2.1, hk_.1.2.2.1, hk_.1.2.2.2.1, hk_.1.2.2.2.2.1, hk_.1.2.2.2.2.2.1, hk_.1.2.2.2.2.2.2.1, hk_.1.2.2.2.2.2.2.2⟩)); have n6_ := Aside0.mk (Kd.R_reok rfl hy0 (fun k_ e_ => HO_275000.out.1 k_ e_)); have n7_ := Aside0.mk (Kd.R_reok rfl hy1 (fun k_ e_ => HO_275001.out.1 k_ e_)); have n8_ := Aside0.mk (Kd.R_reok rfl hy2 (fun k_ e_ => HO_275002.out.1 k_ e_)); have n9_ := Aside0.mk (blk_kept a2_ hkp (fun hs_ => Or.elim hs_ (fun e_ => (fun e_ => (Kd.R_ne HO_275000.out BK232.out (by decide)) e_) e_) (fun e_ => Or.elim e_ (fun e_ => (fun e_ => (Kd.R_ne HO_275001.out BK232.out (by decide)) e_) e_) (fun e_ => (fun e_ => (Kd.R_ne HO_275002.out BK232.out (by decide)) e_) e_)))); have n10_ := Aside0.mk (blk_kept a4_ hkp (fun hs_ => Or.elim hs_ (fun e_ => (fun e_ => (Kd.R_ne HO_275000.out BK253.out (by decide)) e_) e_) (fun e_ => Or.elim e_ (fun e_ => (fun e_ => (Kd.R_ne HO_275001.out BK253.out (by decide)) e_) e_) (fun e_ => (fun e_ => (Kd.R_ne HO_275002.out BK253.out (by decide)) e_) e_)))); have n11_ := Aside0.mk (blk_kept a14_ hkp (fun hs_ => Or.elim hs_ (fun e_ => (fun e_ => (Kd.R_ne HO_275000.out BK263.out (by decide)) e_) e_) (fun e_ => Or.elim e_ (fun e_ => (fun e_ => (Kd.R_ne HO_275001.out BK263.out (by decide)) e_) e_) (fun e_ => (fun e_ => (Kd.R_ne HO_275002.out BK263.out (by decide)) e_) e_)))); have n12_ := Aside0.mk (blk_kept a15_ hkp (fun hs_ => Or.elim hs_ (fun e_ => (fun e_ => (Kd.R_ne HO_275000.out BK274.out (by decide)) e_) e_) (fun e_ => Or.elim e_ (fun e_ => (fun e_ => (Kd.R_ne HO_275001.out BK274.out (by decide)) e_) e_) (fun e_ => (fun e_ => (Kd.R_ne HO_275002.out BK274.out (by decide)) e_) e_)))); have n13_ := Aside0.mk (hb); clear HO_254000; clear HO_254001; clear HO_254002; clear HO_264000; clear HO_264001; clear HO_264002; clear HO_275000; clear HO_275001; clear HO_275002; clear BK232; clear BK253; clear BK263; clear BK274; clear HB; have HO_254000 := n0_; have HO_254001 := n1_; have HO_254002 := n2_; have HO_264000 := n3_; have HO_264001 := n4_; have HO_264002 := n5_; have HO_275000 := n6_; have HO_275001 := n7_; have HO_275002 := n8_; have BK232 := n9_; have BK253 := n10_; have BK263 := n11_; have BK274 := n12_; have HB := n13_; clear n0_ n1_ n2_ n3_ n4_ n5_ n6_ n7_ n8_ n9_ n10_ n11_ n12_ n13_; (try clear hb); (try clear hkp); (try clear hy0); (try clear hy1); (try clear hy2); have hcz119_0 : w118.cell? ⟨gb274, 0, none⟩ = some (.slice Ao38 t264.length co38) := (blk_cell BK274.out 0).trans rfl; have hcz119_1 : w118.cell? ⟨gb274, 1, none⟩ = some (.slice Ao43 t267.length co43) := (blk_cell BK274.out 1).trans rfl; have hcz119_2 : w118.cell? ⟨gb274, 2, none⟩ = some (.slice Ao44 t270.length co44) := (blk_cell BK274.out 2).trans rfl; have hfz119_0 := blk_frozen BK274.out 0; have hfz119_1 := blk_frozen BK274.out 1; have hfz119_2 := blk_frozen BK274.out 2) | ((with_reducible refine gate_callee (f := 23) rfl ?_); refine goesL_ (some 67) rfl rfl Try.func23 (by kernel_rfl) rfl #[.agg #[.slice Ao38 t292.length co38, .slice Ao43 t293.length co43, .slice Ao44 t294.length co44], .int .i64 1] rfl a49_ ?_; (with_reducible refine (laws_heldMachine.calls kj67 _ _ t292 _ _ t293 _ _ t294 1 t295 _ ?side1 ?side2 ?side3 ?side4 ?side5 ?side6 A101.out).mono ?_); (case side1 => exact a97_); (case side2 => exact a125_); (case side3 => exact a98_); (case side4 => exact a126_); (case side5 => exact a99_); (case side6 => exact a127_); rintro e w120 ⟨rfl, hb⟩; refine ⟨_, rfl, ?_⟩; have n0_ := Aside0.mk (Kd.R_below a5_ hb); have n1_ := Aside0.mk (Kd.R_below a6_ hb); have n2_ := Aside0.mk (Kd.R_below a7_ hb); have n3_ := Aside0.mk (Kd.R_below a8_ hb); have n4_ := Aside0.mk (Kd.R_below a9_ hb); have n5_ := Aside0.mk (Kd.R_below a10_ hb); have n6_ := Aside0.mk (Kd.R_below a11_ hb); have n7_ := Aside0.mk (Kd.R_below a12_ hb); have n8_ := Aside0.mk (Kd.R_below a13_ hb); have n9_ := Aside0.mk (blk_below (g := gb232) a2_ hb); have n10_ := Aside0.mk (blk_below (g := gb253) a4_ hb); have n11_ := Aside0.mk (blk_below (g := gb263) a14_ hb); have n12_ := Aside0.mk (blk_below (g := gb274) a15_ hb); have n13_ := Aside0.mk (below_step a1_ hb); clear HO_254000; clear HO_254001; clear HO_254002; clear HO_264000; clear HO_264001; clear HO_264002; clear HO_275000; clear HO_275001; clear HO_275002; clear BK232; clear BK253; clear BK263; clear BK274; clear HB; have HO_254000 := n0_; have HO_254001 := n1_; have HO_254002 := n2_; have HO_264000 := n3_; have HO_264001 := n4_; have HO_264002 := n5_; have HO_275000 := n6_; have HO_275001 := n7_; have HO_275002 := n8_; have BK232 := n9_; have BK253 := n10_; have BK263 := n11_; have BK274 := n12_; have HB := n13_; clear n0_ n1_ n2_ n3_ n4_ n5_ n6_ n7_ n8_ n9_ n10_ n11_ n12_ n13_; (try clear hb); (try clear hb2); (try clear hk); (try clear hi); have hnb121 := NB232_253.out; have hnc121 := NB253_232.out; have hnb122 := NB232_263.out; have hnc122 := NB263_232.out; have hcz123_0 : w120.cell? ⟨gb232, 0, none⟩ = some (.slice A0_0 l0_0.length c0_0) := (blk_cell BK232.out 0).trans rfl; have hcz123_1 : w120.cell? ⟨gb232, 1, none⟩ = some (.slice A0_1 l0_1.length c0_1) := (blk_cell BK232.out 1).trans rfl; have hcz123_2 : w120.cell? ⟨gb232, 2, none⟩ = some (.slice A0_2 l0_2.length c0_2) := (blk_cell BK232.out 2).trans rfl; have hfz123_0 := blk_frozen BK232.out 0; have hfz123_1 := blk_frozen BK232.out 1; have hfz123_2 := blk_frozen BK232.out 2) | ((with_reducible refine gate_callee (f := 17) rfl ?_); refine goesL_ (some 75) rfl rfl Try.func17 (by kernel_rfl) rfl #[.agg #[.slice A0_0 l0_0.length c0_0, .slice A0_1 l0_1.length c0_1, .slice A0_2 l0_2.length c0_2]] rfl a3_ ?_; (with_reducible refine (laws_toMachine.calls kj67 _ _ l0_0 _ _ l0_1 _ _ l0_2 t296 t299 t302 _ ?side1 ?side2 ?side3 ?side4 ?side5 ?side6 A111.out).mono ?_); (case side1 => exact a106_); (case side2 => exact HC0_0.out); (case side3 => exact a107_); (case side4 => exact HC0_1.out); (case side5 => exact a108_); (case side6 => exact HC0_2.out); rintro e w124 ⟨v297, v300, v303, rfl, ho0, ho1, ho2, hb⟩; refine ⟨_, rfl, ?_⟩; have n0_ := Aside0.mk (Kd.R_mono (Kd.R_told (Kd.R_told (Kd.R_told (Kd.R_old a5_ hb) (Kd.R_base ho0)) (Kd.R_base ho1)) (Kd.R_base ho2)) (fun _ h_ => h_.1)); have n1_ := Aside0.mk (Kd.R_mono (Kd.R_told (Kd.R_told (Kd.R_told (Kd.R_old a6_ hb) (Kd.R_base ho0)) (Kd.R_base ho1)) (Kd.R_base ho2)) (fun _ h_ => h_.1)); have n2_ := Aside0.mk (Kd.R_mono (Kd.R_told (Kd.R_told (Kd.R_told (Kd.R_old a7_ hb) (Kd.R_base ho0)) (Kd.R_base ho1)) (Kd.R_base ho2)) (fun _ h_ => h_.1)); have n3_ := Aside0.mk (Kd.R_mono (Kd.R_told (Kd.R_told (Kd.R_told (Kd.R_old a8_ hb) (Kd.R_base ho0)) (Kd.R_base ho1)) (Kd.R_base ho2)) (fun _ h_ => h_.1)); have n4_ := Aside0.mk (Kd.R_mono (Kd.R_told (Kd.R_told (Kd.R_told (Kd.R_old a9_ hb) (Kd.R_base ho0)) (Kd.R_base ho1)) (Kd.R_base ho2)) (fun _ h_ => h_.1)); have n5_ := Aside0.mk (Kd.R_mono (Kd.R_told (Kd.R_told (Kd.R_told (Kd.R_old a10_ hb) (Kd.R_base ho0)) (Kd.R_base ho1)) (Kd.R_base ho2)) (fun _ h_ => h_.1)); have n6_ := Aside0.mk (Kd.R_mono (Kd.R_told (Kd.R_told (Kd.R_told (Kd.R_old a11_ hb) (Kd.R_base ho0)) (Kd.R_base ho1)) (Kd.R_base ho2)) (fun _ h_ => h_.1)); have n7_ := Aside0.mk (Kd.R_mono (Kd.R_told (Kd.R_told (Kd.R_told (Kd.R_old a12_ hb) (Kd.R_base ho0)) (Kd.R_base ho1)) (Kd.R_base ho2)) (fun _ h_ => h_.1)); have n8_ := Aside0.mk (Kd.R_mono (Kd.R_told (Kd.R_told (Kd.R_told (Kd.R_old a13_ hb) (Kd.R_base ho0)) (Kd.R_base ho1)) (Kd.R_base ho2)) (fun _ h_ => h_.1)); have n9_ := Aside0.mk (Kd.R_lower (Kd.R_new' (Kd.R_new' (Kd.R_new' (Kd.R_new' (Kd.R_new' (Kd.R_new' (Kd.R_new' (Kd.R_new' (Kd.R_new' ho0 (Kd.R_lt a5_)) (Kd.R_lt a6_)) (Kd.R_lt a7_)) (Kd.R_lt a8_)) (Kd.R_lt a9_)) (Kd.R_lt a10_)) (Kd.R_lt a11_)) (Kd.R_lt a12_)) (Kd.R_lt a13_)) (below_size a1_)); have n10_ := Aside0.mk (Kd.R_lower (Kd.R_new' (Kd.R_new' (Kd.R_new' (Kd.R_new' (Kd.R_new' (Kd.R_new' (Kd.R_new' (Kd.R_new' (Kd.R_new' ho1 (Kd.R_lt a5_)) (Kd.R_lt a6_)) (Kd.R_lt a7_)) (Kd.R_lt a8_)) (Kd.R_lt a9_)) (Kd.R_lt a10_)) (Kd.R_lt a11_)) (Kd.R_lt a12_)) (Kd.R_lt a13_)) (below_size a1_)); have n11_ := Aside0.mk (Kd.R_lower (Kd.R_new' (Kd.R_new' (Kd.R_new' (Kd.R_new' (Kd.R_new' (Kd.R_new' (Kd.R_new' (Kd.R_new' (Kd.R_new' ho2 (Kd.R_lt a5_)) (Kd.R_lt a6_)) (Kd.R_lt a7_)) (Kd.R_lt a8_)) (Kd.R_lt a9_)) (Kd.R_lt a10_)) (Kd.R_lt a11_)) (Kd.R_lt a12_)) (Kd.R_lt a13_)) (below_size a1_)); have n12_ := Aside0.mk (blk_below (g := gb232) a2_ hb); have n13_ := Aside0.mk (blk_below (g := gb253) a4_ hb); have n14_ := Aside0.mk (blk_below (g := gb263) a14_ hb); have n15_ := Aside0.mk (blk_below (g := gb274) a15_ hb); have n16_ := Aside0.mk (below_step a1_ hb); clear HO_254000; clear HO_254001; clear HO_254002; clear HO_264000; clear HO_264001; clear HO_264002; clear HO_275000; clear HO_275001; clear HO_275002; clear BK232; clear BK253; clear BK263; clear BK274; clear HB; have HO_254000 := n0_; have HO_254001 := n1_; have HO_254002 := n2_; have HO_264000 := n3_; have HO_264001 := n4_; have HO_264002 := n5_; have HO_275000 := n6_; have HO_275001 := n7_; have HO_275002 := n8_; have HO298 := n9_; have HO301 := n10_; have HO304 := n11_; have BK232 := n12_; have BK253 := n13_; have BK263 := n14_; have BK274 := n15_; have HB := n16_; clear n0_ n1_ n2_ n3_ n4_ n5_ n6_ n7_ n8_ n9_ n10_ n11_ n12_ n13_ n14_ n15_ n16_; (try clear hb); (try clear hb2); (try clear hk); (try clear hi); (try clear ho0); (try clear ho1); (try clear ho2); obtain ⟨Ao125, co125, eo125⟩ := Kd.R_slice HO298.out; subst eo125; obtain ⟨Ao126, co126, eo126⟩ := Kd.R_slice HO301.out; subst eo126; obtain ⟨Ao127, co127, eo127⟩ := Kd.R_slice HO304.out; subst eo127) | ((with_reducible refine gate_callee (f := 25) rfl ?_); refine goesL_ (some 76) rfl rfl Try.func25 (by kernel_rfl) rfl #[.agg #[.slice Ao125 t296.length co125, .slice Ao126 t299.length co126, .slice Ao127 t302.length co127]] rfl a3_ ?_; (with_reducible refine (impl_BackwardMachine.calls kj67 _ _ t296 _ _ t299 _ _ t302 t305 t308 t311 t314 _ ?side1 ?side2 ?side3 ?side4 ?side5 ?side6 A112.out).mono ?_); (case side1 => repeat (first | exact (Kd.R_reads' HO298.out).2.2 | (with_reducible refine Kd.C_alloc ?_ _) | (with_reducible refine Kd.C_drewN ?_ _) | (with_reducible refine Kd.C_drew ?_))); (case side2 => exact (Kd.R_reads' HO298.out).2.1); (case side3 => repeat (first | exact (Kd.R_reads' HO301.out).2.2 | (with_reducible refine Kd.C_alloc ?_ _) | (with_reducible refine Kd.C_drewN ?_ _) | (with_reducible refine Kd.C_drew ?_))); (case side4 => exact (Kd.R_reads' HO301.out).2.1); (case side5 => repeat (first | exact (Kd.R_reads' HO304.out).2.2 | (with_reducible refine Kd.C_alloc ?_ _) | (with_reducible refine Kd.C_drewN ?_ _) | (with_reducible refine Kd.C_drew ?_))); (case side6 => exact (Kd.R_reads' HO304.out).2.1); rintro e w128 ⟨v306, v309, v312, rfl, ho0, ho1, ho2, hb⟩; refine ⟨_, rfl, ?_⟩; have n0_ := Aside0.mk (Kd.R_mono (Kd.R_told (Kd.R_told (Kd.R_told (Kd.R_old a5_ hb) (Kd.R_base ho0)) (Kd.R_base ho1)) (Kd.R_base ho2)) (fun _ h_ => h_.1)); have n1_ := Aside0.mk (Kd.R_mono (Kd.R_told (Kd.R_told (Kd.R_told (Kd.R_old a6_ hb) (Kd.R_base ho0)) (Kd.R_base ho1)) (Kd.R_base ho2)) (fun _ h_ => h_.1)); have n2_ := Aside0.mk (Kd.R_mono (Kd.R_told (Kd.R_told (Kd.R_told (Kd.R_old a7_ hb) (Kd.R_base ho0)) (Kd.R_base ho1)) (Kd.R_base ho2)) (fun _ h_ => h_.1)); have n3_ := Aside0.mk (Kd.R_mono (Kd.R_told (Kd.R_told (Kd.R_told (Kd.R_old a8_ hb) (Kd.R_base ho0)) (Kd.R_base ho1)) (Kd.R_base ho2)) (fun _ h_ => h_.1)); have n4_ := Aside0.mk (Kd.R_mono (Kd.R_told (Kd.R_told (Kd.R_told (Kd.R_old a9_ hb) (Kd.R_base ho0)) (Kd.R_base ho1)) (Kd.R_base ho2)) (fun _ h_ => h_.1)); have n5_ := Aside0.mk (Kd.R_mono (Kd.R_told (Kd.R_told (Kd.R_told (Kd.R_old a10_ hb) (Kd.R_base ho0)) (Kd.R_base ho1)) (Kd.R_base ho2)) (fun _ h_ => h_.1)); have n6_ := Aside0.mk (Kd.R_mono (Kd.R_told (Kd.R_told (Kd.R_told (Kd.R_old a11_ hb) (Kd.R_base ho0)) (Kd.R_base ho1)) (Kd.R_base ho2)) (fun _ h_ => h_.1)); have n7_ := Aside0.mk (Kd.R_mono (Kd.R_told (Kd.R_told (Kd.R_told (Kd.R_old a12_ hb) (Kd.R_base ho0)) (Kd.R_base ho1)) (Kd.R_base ho2)) (fun _ h_ => h_.1)); have n8_ := Aside0.mk (Kd.R_mono (Kd.R_told (Kd.R_told (Kd.R_told (Kd.R_old a13_ hb) (Kd.R_base ho0)) (Kd.R_base ho1)) (Kd.R_base ho2)) (fun _ h_ => h_.1)); have n9_ := Aside0.mk (Kd.R_mono (Kd.R_told (Kd.R_told (Kd.R_told (Kd.R_old a76_ hb) (Kd.R_base ho0)) (Kd.R_base ho1)) (Kd.R_base ho2)) (fun _ h_ => h_.1)); have n10_ := Aside0.mk (Kd.R_mono (Kd.R_told (Kd.R_told (Kd.R_told (Kd.R_old a77_ hb) (Kd.R_base ho0)) (Kd.R_base ho1)) (Kd.R_base ho2)) (fun _ h_ => h_.1)); have n11_ := Aside0.mk (Kd.R_mono (Kd.R_told (Kd.R_told (Kd.R_told (Kd.R_old a78_ hb) (Kd.R_base ho0)) (Kd.R_base ho1)) (Kd.R_base ho2)) (fun _ h_ => h_.1)); have n12_ := Aside0.mk (Kd.R_lower (Kd.R_new' (Kd.R_new' (Kd.R_new' (Kd.R_new' (Kd.R_new' (Kd.R_new' (Kd.R_new' (Kd.R_new' (Kd.R_new' (Kd.R_new' (Kd.R_new' (Kd.R_new' ho0 (Kd.R_lt a5_)) (Kd.R_lt a6_)) (Kd.R_lt a7_)) (Kd.R_lt a8_)) (Kd.R_lt a9_)) (Kd.R_lt a10_)) (Kd.R_lt a11_)) (Kd.R_lt a12_)) (Kd.R_lt a13_)) (Kd.R_lt a76_)) (Kd.R_lt a77_)) (Kd.R_lt a78_)) (below_size a1_)); have n13_ := Aside0.mk (Kd.R_lower (Kd.R_new' (Kd.R_new' (Kd.R_new' (Kd.R_new' (Kd.R_new' (Kd.R_new' (Kd.R_new' (Kd.R_new' (Kd.R_new' (Kd.R_new' (Kd.R_new' (Kd.R_new' ho1 (Kd.R_lt a5_)) (Kd.R_lt a6_)) (Kd.R_lt a7_)) (Kd.R_lt a8_)) (Kd.R_lt a9_)) (Kd.R_lt a10_)) (Kd.R_lt a11_)) (Kd.R_lt a12_)) (Kd.R_lt a13_)) (Kd.R_lt a76_)) (Kd.R_lt a77_)) (Kd.R_lt a78_)) (below_size a1_)); have n14_ := Aside0.mk (Kd.R_lower (Kd.R_new' (Kd.R_new' (Kd.R_new' (Kd.R_new' (Kd.R_new' (Kd.R_new' (Kd.R_new' (Kd.R_new' (Kd.R_new' (Kd.R_new' (Kd.R_new' (Kd.R_new' ho2 (Kd.R_lt a5_)) (Kd.R_lt a6_)) (Kd.R_lt a7_)) (Kd.R_lt a8_)) (Kd.R_lt a9_)) (Kd.R_lt a10_)) (Kd.R_lt a11_)) (Kd.R_lt a12_)) (Kd.R_lt a13_)) (Kd.R_lt a76_)) (Kd.R_lt a77_)) (Kd.R_lt a78_)) (below_size a1_)); have n15_ := Aside0.mk (blk_below (g := gb232) a2_ hb); have n16_ := Aside0.mk (blk_below (g := gb253) a4_ hb); have n17_ := Aside0.mk (blk_below (g := gb263) a14_ hb); have n18_ := Aside0.mk (blk_below (g := gb274) a15_ hb); have n19_ := Aside0.mk (below_step a1_ hb); clear HO_254000; clear HO_254001; clear HO_254002; clear HO_264000; clear HO_264001; clear HO_264002; clear HO_275000; clear HO_275001; clear HO_275002; clear HO298; clear HO301; clear HO304; clear BK232; clear BK253; clear BK263; clear BK274; clear HB; have HO_254000 := n0_; have HO_254001 := n1_; have HO_254002 := n2_; have HO_264000 := n3_; have HO_264001 := n4_; have HO_264002 := n5_; have HO_275000 := n6_; have HO_275001 := n7_; have HO_275002 := n8_; have HO298 := n9_; have HO301 := n10_; have HO304 := n11_; have HO307 := n12_; have HO310 := n13_; have HO313 := n14_; have BK232 := n15_; have BK253 := n16_; have BK263 := n17_; have BK274 := n18_; have HB := n19_; clear n0_ n1_ n2_ n3_ n4_ n5_ n6_ n7_ n8_ n9_ n10_ n11_ n12_ n13_ n14_ n15_ n16_ n17_ n18_ n19_; (try clear hb); (try clear hb2); (try clear hk); (try clear hi); (try clear ho0); (try clear ho1); (try clear ho2)) | ((with_reducible refine gate_dst (N := 12) rfl ?_); refine box_event ?hg (N := 12) ?hd (cs := #[.slice none 0 0, .slice none 0 0, .slice none 0 0]) (t := 29) ?hr ?_; (case hd => rfl); (case hg => rfl); (case hr => exact a128_); intro gb315 hg w129 hbox hb; have n0_ := Aside0.mk (Kd.R_below a5_ hb); have n1_ := Aside0.mk (Kd.R_below a6_ hb); have n2_ := Aside0.mk (Kd.R_below a7_ hb); have n3_ := Aside0.mk (Kd.R_below a8_ hb); have n4_ := Aside0.mk (Kd.R_below a9_ hb); have n5_ := Aside0.mk (Kd.R_below a10_ hb); have n6_ := Aside0.mk (Kd.R_below a11_ hb); have n7_ := Aside0.mk (Kd.R_below a12_ hb); have n8_ := Aside0.mk (Kd.R_below a13_ hb); have n9_ := Aside0.mk (Kd.R_below a76_ hb); have n10_ := Aside0.mk (Kd.R_below a77_ hb); have n11_ := Aside0.mk (Kd.R_below a78_ hb); have n12_ := Aside0.mk (Kd.R_below (by (with_reducible repeat (first | apply Kd.R_alloc | apply Kd.R_drewN | apply Kd.R_drew)); exact HO307.out) hb); have n13_ := Aside0.mk (Kd.R_below (by (with_reducible repeat (first | apply Kd.R_alloc | apply Kd.R_drewN | apply Kd.R_drew)); exact HO310.out) hb); have n14_ := Aside0.mk (Kd.R_below (by (with_reducible repeat (first | apply Kd.R_alloc | apply Kd.R_drewN | apply Kd.R_drew)); exact HO313.out) hb); have n15_ := Aside0.mk (blk_below (g := gb232) a2_ hb); have n16_ := Aside0.mk (blk_below (g := gb253) a4_ hb); have n17_ := Aside0.mk (blk_below (g := gb263) a14_ hb); have n18_ := Aside0.mk (blk_below (g := gb274) a15_ hb); have n19_ := Aside0.mk (below_step a1_ hb); have n20_ := Aside0.mk (hbox); have n21_ := Aside0.mk ((by rw [hg]; exact (below_size a1_) : w.heap.size ≤ gb315)); have n22_ := Aside0.mk ((by rw [hg]; exact (below_size a1_) : w.heap.size ≤ gb315)); have n23_ := Aside0.mk ((a93_ : gb232 ≠ gb315)); have n24_ := Aside0.mk ((a94_ : gb315 ≠ gb232)); have n25_ := Aside0.mk ((a95_ : gb253 ≠ gb315)); have n26_ := Aside0.mk ((a96_ : gb315 ≠ gb253)); have n27_ := Aside0.mk ((by rw [hg]; exact Nat.ne_of_lt (blk_lt (g := gb263) (o := .cells #[.slice Ao30 t287.length co30, .slice Ao34 t288.length co34, .slice Ao35 t289.length co35] 29 (0, 0)) a14_) : gb263 ≠ gb315)); have n28_ := Aside0.mk ((by rw [hg]; exact Nat.ne_of_gt (blk_lt (g := gb263) (o := .cells #[.slice Ao30 t287.length co30, .slice Ao34 t288.length co34, .slice Ao35 t289.length co35] 29 (0, 0)) a14_) : gb315 ≠ gb263)); have n29_ := Aside0.mk ((by rw [hg]; exact Nat.ne_of_lt (blk_lt (g := gb274) (o := .cells #[.slice Ao38 t264.length co38, .slice Ao43 t267.length co43, .slice Ao44 t270.length co44] 29 (0, 0)) a15_) : gb274 ≠ gb315)); have n30_ := Aside0.mk ((by rw [hg]; exact Nat.ne_of_gt (blk_lt (g := gb274) (o := .cells #[.slice Ao38 t264.length co38, .slice Ao43 t267.length co43, .slice Ao44 t270.length co44] 29 (0, 0)) a15_) : gb315 ≠ gb274)); clear HO_254000; clear HO_254001; clear HO_254002; clear HO_264000; clear HO_264001; clear HO_264002; clear HO_275000; clear HO_275001; clear HO_275002; clear HO298; clear HO301; clear HO304; clear HO307; clear HO310; clear HO313; clear BK232; clear BK253; clear BK263; clear BK274; clear HB; have HO_254000 := n0_; have HO_254001 := n1_; have HO_254002 := n2_; have HO_264000 := n3_; have HO_264001 := n4_; have HO_264002 := n5_; have HO_275000 := n6_; have HO_275001 := n7_; have HO_275002 := n8_; have HO298 := n9_; have HO301 := n10_; have HO304 := n11_; have HO307 := n12_; have HO310 := n13_; have HO313 := n14_; have BK232 := n15_; have BK253 := n16_; have BK263 := n17_; have BK274 := n18_; have HB := n19_; have BK315 := n20_; have GW315 := n21_; have GE315 := n22_; have NB232_315 := n23_; have NB315_232 := n24_; have NB253_315 := n25_; have NB315_253 := n26_; have NB263_315 := n27_; have NB315_263 := n28_; have NB274_315 := n29_; have NB315_274 := n30_; clear n0_ n1_ n2_ n3_ n4_ n5_ n6_ n7_ n8_ n9_ n10_ n11_ n12_ n13_ n14_ n15_ n16_ n17_ n18_ n19_ n20_ n21_ n22_ n23_ n24_ n25_ n26_ n27_ n28_ n29_ n30_; clear hb hbox hg; obtain ⟨Ao130, co130, eo130⟩ := Kd.R_slice HO307.out; subst eo130; have hnb131 := NB315_232.out; have hnc131 := NB232_315.out; have hnb132 := NB315_253.out; have hnc132 := NB253_315.out; have hnb133 := NB315_263.out; have hnc133 := NB263_315.out; have hnb134 := NB315_274.out; have hnc134 := NB274_315.out; have hcz135_0 : w129.cell? ⟨gb315, 0, none⟩ = some (.slice none 0 0) := (blk_cell BK315.out 0).trans rfl; have hcz135_1 : w129.cell? ⟨gb315, 1, none⟩ = some (.slice none 0 0) := (blk_cell BK315.out 1).trans rfl; have hcz135_2 : w129.cell? ⟨gb315, 2, none⟩ = some (.slice none 0 0) := (blk_cell BK315.out 2).trans rfl; have hfz135_0 := blk_frozen BK315.out 0; have hfz135_1 := blk_frozen BK315.out 1; have hfz135_2 := blk_frozen BK315.out 2; obtain ⟨Ao136, co136, eo136⟩ := Kd.R_slice HO310.out; subst eo136; obtain ⟨Ao137, co137, eo137⟩ := Kd.R_slice HO313.out; subst eo137))
           (try simp only [Act.put, List.setIfInBounds_toArray, List.set_cons_zero, List.set_cons_succ])
           go_cut [87] (fun v87 wc => ∃ (kq : Nat) (x87_112 : Bool), v87 = .bool x87_112 ∧ Aside0 (laws_FnExactBackwardMachine.j2 kq t291 x87_112 t292 t293 t294 = some r) ∧ Aside0 (kq ≤ kj67) ∧ Aside0 (Kd.R (Kd.int .i16) 38 wc w.heap.size (fun k_ => some k_ ≠ ((.slice Ao25 t246.length co25) : Value).ownBlock ∧ some k_ ≠ ((.slice Ao26 t249.length co26) : Value).ownBlock ∧ some k_ ≠ ((.slice Ao30 t287.length co30) : Value).ownBlock ∧ some k_ ≠ ((.slice Ao34 t288.length co34) : Value).ownBlock ∧ some k_ ≠ ((.slice Ao35 t289.length co35) : Value).ownBlock ∧ some k_ ≠ ((.slice Ao38 t264.length co38) : Value).ownBlock ∧ some k_ ≠ ((.slice Ao43 t267.length co43) : Value).ownBlock ∧ some k_ ≠ ((.slice Ao44 t270.length co44) : Value).ownBlock ∧ some k_ ≠ ((.slice Ao130 t305.length co130) : Value).ownBlock ∧ some k_ ≠ ((.slice Ao136 t308.length co136) : Value).ownBlock ∧ some k_ ≠ ((.slice Ao137 t311.length co137) : Value).ownBlock) (.slice Ao22 t243.length co22) t243) ∧ Aside0 (Kd.R (Kd.int .i16) 38 wc w.heap.size (fun k_ => some k_ ≠ ((.slice Ao22 t243.length co22) : Value).ownBlock ∧ some k_ ≠ ((.slice Ao26 t249.length co26) : Value).ownBlock ∧ some k_ ≠ ((.slice Ao30 t287.length co30) : Value).ownBlock ∧ some k_ ≠ ((.slice Ao34 t288.length co34) : Value).ownBlock ∧ some k_ ≠ ((.slice Ao35 t289.length co35) : Value).ownBlock ∧ some k_ ≠ ((.slice Ao38 t264.length co38) : Value).ownBlock ∧ some k_ ≠ ((.slice Ao43 t267.length co43) : Value).ownBlock ∧ some k_ ≠ ((.slice Ao44 t270.length co44) : Value).ownBlock ∧ some k_ ≠ ((.slice Ao130 t305.length co130) : Value).ownBlock ∧ some k_ ≠ ((.slice Ao136 t308.length co136) : Value).ownBlock ∧ some k_ ≠ ((.slice Ao137 t311.length co137) : Value).ownBlock) (.slice Ao25 t246.length co25) t246) ∧ Aside0 (Kd.R (Kd.int .i16) 38 wc w.heap.size (fun k_ => some k_ ≠ ((.slice Ao22 t243.length co22) : Value).ownBlock ∧ some k_ ≠ ((.slice Ao25 t246.length co25) : Value).ownBlock ∧ some k_ ≠ ((.slice Ao30 t287.length co30) : Value).ownBlock ∧ some k_ ≠ ((.slice Ao34 t288.length co34) : Value).ownBlock ∧ some k_ ≠ ((.slice Ao35 t289.length co35) : Value).ownBlock ∧ some k_ ≠ ((.slice Ao38 t264.length co38) : Value).ownBlock ∧ some k_ ≠ ((.slice Ao43 t267.length co43) : Value).ownBlock ∧ some k_ ≠ ((.slice Ao44 t270.length co44) : Value).ownBlock ∧ some k_ ≠ ((.slice Ao130 t305.length co130) : Value).ownBlock ∧ some k_ ≠ ((.slice Ao136 t308.length co136) : Value).ownBlock ∧ some k_ ≠ ((.slice Ao137 t311.length co137) : Value).ownBlock) (.slice Ao26 t249.length co26) t249) ∧ Aside0 (Kd.R (Kd.int .i16) 38 wc w.heap.size (fun k_ => some k_ ≠ ((.slice Ao22 t243.length co22) : Value).ownBlock ∧ some k_ ≠ ((.slice Ao25 t246.length co25) : Value).ownBlock ∧ some k_ ≠ ((.slice Ao26 t249.length co26) : Value).ownBlock ∧ some k_ ≠ ((.slice Ao34 t288.length co34) : Value).ownBlock ∧ some k_ ≠ ((.slice Ao35 t289.length co35) : Value).ownBlock ∧ some k_ ≠ ((.slice Ao38 t264.length co38) : Value).ownBlock ∧ some k_ ≠ ((.slice Ao43 t267.length co43) : Value).ownBlock ∧ some k_ ≠ ((.slice Ao44 t270.length co44) : Value).ownBlock ∧ some k_ ≠ ((.slice Ao130 t305.length co130) : Value).ownBlock ∧ some k_ ≠ ((.slice Ao136 t308.length co136) : Value).ownBlock ∧ some k_ ≠ ((.slice Ao137 t311.length co137) : Value).ownBlock) (.slice Ao30 t287.length co30) t287) ∧ Aside0 (Kd.R (Kd.int .i16) 38 wc w.heap.size (fun k_ => some k_ ≠ ((.slice Ao22 t243.length co22) : Value).ownBlock ∧ some k_ ≠ ((.slice Ao25 t246.length co25) : Value).ownBlock ∧ some k_ ≠ ((.slice Ao26 t249.length co26) : Value).ownBlock ∧ some k_ ≠ ((.slice Ao30 t287.length co30) : Value).ownBlock ∧ some k_ ≠ ((.slice Ao35 t289.length co35) : Value).ownBlock ∧ some k_ ≠ ((.slice Ao38 t264.length co38) : Value).ownBlock ∧ some k_ ≠ ((.slice Ao43 t267.length co43) : Value).ownBlock ∧ some k_ ≠ ((.slice Ao44 t270.length co44) : Value).ownBlock ∧ some k_ ≠ ((.slice Ao130 t305.length co130) : Value).ownBlock ∧ some k_ ≠ ((.slice Ao136 t308.length co136) : Value).ownBlock ∧ some k_ ≠ ((.slice Ao137 t311.length co137) : Value).ownBlock) (.slice Ao34 t288.length co34) t288) ∧ Aside0 (Kd.R (Kd.int .i16) 38 wc w.heap.size (fun k_ => some k_ ≠ ((.slice Ao22 t243.length co22) : Value).ownBlock ∧ some k_ ≠ ((.slice Ao25 t246.length co25) : Value).ownBlock ∧ some k_ ≠ ((.slice Ao26 t249.length co26) : Value).ownBlock ∧ some k_ ≠ ((.slice Ao30 t287.length co30) : Value).ownBlock ∧ some k_ ≠ ((.slice Ao34 t288.length co34) : Value).ownBlock ∧ some k_ ≠ ((.slice Ao38 t264.length co38) : Value).ownBlock ∧ some k_ ≠ ((.slice Ao43 t267.length co43) : Value).ownBlock ∧ some k_ ≠ ((.slice Ao44 t270.length co44) : Value).ownBlock ∧ some k_ ≠ ((.slice Ao130 t305.length co130) : Value).ownBlock ∧ some k_ ≠ ((.slice Ao136 t308.length co136) : Value).ownBlock ∧ some k_ ≠ ((.slice Ao137 t311.length co137) : Value).ownBlock) (.slice Ao35 t289.length co35) t289) ∧ Aside0 (Kd.R (Kd.int .i16) 38 wc w.heap.size (fun k_ => some k_ ≠ ((.slice Ao22 t243.length co22) : Value).ownBlock ∧ some k_ ≠ ((.slice Ao25 t246.length co25) : Value).ownBlock ∧ some k_ ≠ ((.slice Ao26 t249.length co26) : Value).ownBlock ∧ some k_ ≠ ((.slice Ao30 t287.length co30) : Value).ownBlock ∧ some k_ ≠ ((.slice Ao34 t288.length co34) : Value).ownBlock ∧ some k_ ≠ ((.slice Ao35 t289.length co35) : Value).ownBlock ∧ some k_ ≠ ((.slice Ao43 t267.length co43) : Value).ownBlock ∧ some k_ ≠ ((.slice Ao44 t270.length co44) : Value).ownBlock ∧ some k_ ≠ ((.slice Ao130 t305.length co130) : Value).ownBlock ∧ some k_ ≠ ((.slice Ao136 t308.length co136) : Value).ownBlock ∧ some k_ ≠ ((.slice Ao137 t311.length co137) : Value).ownBlock) (.slice Ao38 t264.length co38) t292) ∧ Aside0 (Kd.R (Kd.int .i16) 38 wc w.heap.size (fun k_ => some k_ ≠ ((.slice Ao22 t243.length co22) : Value).ownBlock ∧ some k_ ≠ ((.slice Ao25 t246.length co25) : Value).ownBlock ∧ some k_ ≠ ((.slice Ao26 t249.length co26) : Value).ownBlock ∧ some k_ ≠ ((.slice Ao30 t287.length co30) : Value).ownBlock ∧ some k_ ≠ ((.slice Ao34 t288.length co34) : Value).ownBlock ∧ some k_ ≠ ((.slice Ao35 t289.length co35) : Value).ownBlock ∧ some k_ ≠ ((.slice Ao38 t264.length co38) : Value).ownBlock ∧ some k_ ≠ ((.slice Ao44 t270.length co44) : Value).ownBlock ∧ some k_ ≠ ((.slice Ao130 t305.length co130) : Value).ownBlock ∧ some k_ ≠ ((.slice Ao136 t308.length co136) : Value).ownBlock ∧ some k_ ≠ ((.slice Ao137 t311.length co137) : Value).ownBlock) (.slice Ao43 t267.length co43) t293) ∧ Aside0 (Kd.R (Kd.int .i16) 38 wc w.heap.size (fun k_ => some k_ ≠ ((.slice Ao22 t243.length co22) : Value).ownBlock ∧ some k_ ≠ ((.slice Ao25 t246.length co25) : Value).ownBlock ∧ some k_ ≠ ((.slice Ao26 t249.length co26) : Value).ownBlock ∧ some k_ ≠ ((.slice Ao30 t287.length co30) : Value).ownBlock ∧ some k_ ≠ ((.slice Ao34 t288.length co34) : Value).ownBlock ∧ some k_ ≠ ((.slice Ao35 t289.length co35) : Value).ownBlock ∧ some k_ ≠ ((.slice Ao38 t264.length co38) : Value).ownBlock ∧ some k_ ≠ ((.slice Ao43 t267.length co43) : Value).ownBlock ∧ some k_ ≠ ((.slice Ao130 t305.length co130) : Value).ownBlock ∧ some k_ ≠ ((.slice Ao136 t308.length co136) : Value).ownBlock ∧ some k_ ≠ ((.slice Ao137 t311.length co137) : Value).ownBlock) (.slice Ao44 t270.length co44) t294) ∧ Aside0 (Kd.R (Kd.int .i16) 38 wc w.heap.size (fun k_ => some k_ ≠ ((.slice Ao22 t243.length co22) : Value).ownBlock ∧ some k_ ≠ ((.slice Ao25 t246.length co25) : Value).ownBlock ∧ some k_ ≠ ((.slice Ao26 t249.length co26) : Value).ownBlock ∧ some k_ ≠ ((.slice Ao30 t287.length co30) : Value).ownBlock ∧ some k_ ≠ ((.slice Ao34 t288.length co34) : Value).ownBlock ∧ some k_ ≠ ((.slice Ao35 t289.length co35) : Value).ownBlock ∧ some k_ ≠ ((.slice Ao38 t264.length co38) : Value).ownBlock ∧ some k_ ≠ ((.slice Ao43 t267.length co43) : Value).ownBlock ∧ some k_ ≠ ((.slice Ao44 t270.length co44) : Value).ownBlock ∧ some k_ ≠ ((.slice Ao136 t308.length co136) : Value).ownBlock ∧ some k_ ≠ ((.slice Ao137 t311.length co137) : Value).ownBlock) (.slice Ao130 t305.length co130) t305) ∧ Aside0 (Kd.R (Kd.int .i16) 38 wc w.heap.size (fun k_ => some k_ ≠ ((.slice Ao22 t243.length co22) : Value).ownBlock ∧ some k_ ≠ ((.slice Ao25 t246.length co25) : Value).ownBlock ∧ some k_ ≠ ((.slice Ao26 t249.length co26) : Value).ownBlock ∧ some k_ ≠ ((.slice Ao30 t287.length co30) : Value).ownBlock ∧ some k_ ≠ ((.slice Ao34 t288.length co34) : Value).ownBlock ∧ some k_ ≠ ((.slice Ao35 t289.length co35) : Value).ownBlock ∧ some k_ ≠ ((.slice Ao38 t264.length co38) : Value).ownBlock ∧ some k_ ≠ ((.slice Ao43 t267.length co43) : Value).ownBlock ∧ some k_ ≠ ((.slice Ao44 t270.length co44) : Value).ownBlock ∧ some k_ ≠ ((.slice Ao130 t305.length co130) : Value).ownBlock ∧ some k_ ≠ ((.slice Ao137 t311.length co137) : Value).ownBlock) (.slice Ao136 t308.length co136) t308) ∧ Aside0 (Kd.R (Kd.int .i16) 38 wc w.heap.size (fun k_ => some k_ ≠ ((.slice Ao22 t243.length co22) : Value).ownBlock ∧ some k_ ≠ ((.slice Ao25 t246.length co25) : Value).ownBlock ∧ some k_ ≠ ((.slice Ao26 t249.length co26) : Value).ownBlock ∧ some k_ ≠ ((.slice Ao30 t287.length co30) : Value).ownBlock ∧ some k_ ≠ ((.slice Ao34 t288.length co34) : Value).ownBlock ∧ some k_ ≠ ((.slice Ao35 t289.length co35) : Value).ownBlock ∧ some k_ ≠ ((.slice Ao38 t264.length co38) : Value).ownBlock ∧ some k_ ≠ ((.slice Ao43 t267.length co43) : Value).ownBlock ∧ some k_ ≠ ((.slice Ao44 t270.length co44) : Value).ownBlock ∧ some k_ ≠ ((.slice Ao130 t305.length co130) : Value).ownBlock ∧ some k_ ≠ ((.slice Ao136 t308.length co136) : Value).ownBlock) (.slice Ao137 t311.length co137) t311) ∧ Aside0 (wc.heap[gb232]? = some (.cells #[(.slice A0_0 l0_0.length c0_0), (.slice A0_1 l0_1.length c0_1), (.slice A0_2 l0_2.length c0_2)] 24 (0, 0))) ∧ Aside0 (wc.heap[gb253]? = some (.cells #[(.slice Ao22 t243.length co22), (.slice Ao25 t246.length co25), (.slice Ao26 t249.length co26)] 29 (0, 0))) ∧ Aside0 (wc.heap[gb263]? = some (.cells #[(.slice Ao30 t287.length co30), (.slice Ao34 t288.length co34), (.slice Ao35 t289.length co35)] 29 (0, 0))) ∧ Aside0 (wc.heap[gb274]? = some (.cells #[(.slice Ao38 t264.length co38), (.slice Ao43 t267.length co43), (.slice Ao44 t270.length co44)] 29 (0, 0))) ∧ Aside0 (wc.heap[gb315]? = some (.cells #[(.slice Ao130 t305.length co130), (.slice Ao136 t308.length co136), (.slice Ao137 t311.length co137)] 29 (0, 0))) ∧ Aside0 (Below w.heap.size w wc))
           case first =>
            have H := HC113.out
            clear HC113
            replace H := Option.bind_eq_some_iff.mp H
            obtain ⟨t316, A1380, H⟩ := H
            replace H : (if t316 = true then (laws_FnExactBackwardMachine.j2 kj67 t291 (t314 != t252) t292 t293 t294) else (laws_FnExactBackwardMachine.j2 kj67 t291 true t292 t293 t294)) = some r := H
            have A138 := Aside0.mk A1380
            clear A1380
            by_cases c139 : t316 = true
            ·subst c139
             have H1 : (laws_FnExactBackwardMachine.j2 kj67 t291 (t314 != t252) t292 t293 t294) = some r := by rw [if_pos rfl] at H; exact H
             clear H
             have H := H1
             clear H1
             have H' := Aside0.mk H
             clear H
             have hnb140 := NB315_232.out
             have hnc140 := NB232_315.out
             have hnb141 := NB315_253.out
             have hnc141 := NB253_315.out
             have hnb142 := NB315_263.out
             have hnc142 := NB263_315.out
             have hnb143 := NB315_274.out
             have hnc143 := NB274_315.out
             have hcz144_0 : w129.cell? ⟨gb315, 0, none⟩ = some (.slice none 0 0) := (blk_cell BK315.out 0).trans rfl
             have hcz144_1 : w129.cell? ⟨gb315, 1, none⟩ = some (.slice none 0 0) := (blk_cell BK315.out 1).trans rfl
             have hcz144_2 : w129.cell? ⟨gb315, 2, none⟩ = some (.slice none 0 0) := (blk_cell BK315.out 2).trans rfl
             have hfz144_0 := blk_frozen BK315.out 0
             have hfz144_1 := blk_frozen BK315.out 1
             have hfz144_2 := blk_frozen BK315.out 2
             have hnb145 := NB253_232.out
             have hnc145 := NB232_253.out
             have hnb146 := NB253_263.out
             have hnc146 := NB263_253.out
             have hnb147 := NB253_274.out
             have hnc147 := NB274_253.out
             have hcz148_0 : w129.cell? ⟨gb253, 0, none⟩ = some (.slice Ao22 t243.length co22) := (blk_cell BK253.out 0).trans rfl
             have hcz148_1 : w129.cell? ⟨gb253, 1, none⟩ = some (.slice Ao25 t246.length co25) := (blk_cell BK253.out 1).trans rfl
             have hcz148_2 : w129.cell? ⟨gb253, 2, none⟩ = some (.slice Ao26 t249.length co26) := (blk_cell BK253.out 2).trans rfl
             have hfz148_0 := blk_frozen BK253.out 0
             have hfz148_1 := blk_frozen BK253.out 1
             have hfz148_2 := blk_frozen BK253.out 2
             go_wp2_with (first | ((with_reducible refine gate_callee (f := 19) rfl ?_); refine goesL_ (some 81) rfl rfl Try.func19 (by kernel_rfl) rfl #[.agg #[.slice Ao130 t305.length co130, .slice Ao136 t308.length co136, .slice Ao137 t311.length co137], .agg #[.slice Ao22 t243.length co22, .slice Ao25 t246.length co25, .slice Ao26 t249.length co26]] rfl a3_ ?_; (with_reducible refine (laws_eqMachine.calls kj67 _ _ t305 _ _ t308 _ _ t311 _ _ t243 _ _ t246 _ _ t249 true _ ?side1 ?side2 ?side3 ?side4 ?side5 ?side6 ?side7 ?side8 ?side9 ?side10 ?side11 ?side12 A138.out).mono ?_); (case side1 => exact a103_); (case side2 => exact (Kd.R_reads' HO307.out).2.1); (case side3 => exact a104_); (case side4 => exact (Kd.R_reads' HO310.out).2.1); (case side5 => exact a105_); (case side6 => exact (Kd.R_reads' HO313.out).2.1); (case side7 => exact a100_); (case side8 => exact (Kd.R_reads' HO_254000.out).2.1); (case side9 => exact a101_); (case side10 => exact (Kd.R_reads' HO_254001.out).2.1); (case side11 => exact a102_); (case side12 => exact (Kd.R_reads' HO_254002.out).2.1); rintro e w149 ⟨rfl, hb⟩; refine ⟨_, rfl, ?_⟩; have n0_ := Aside0.mk (Kd.R_below a21_ hb); have n1_ := Aside0.mk (Kd.R_below a22_ hb); have n2_ := Aside0.mk (Kd.R_below a23_ hb); have n3_ := Aside0.mk (Kd.R_below a57_ hb); have n4_ := Aside0.mk (Kd.R_below a58_ hb); have n5_ := Aside0.mk (Kd.R_below a59_ hb); have n6_ := Aside0.mk (Kd.R_below a60_ hb); have n7_ := Aside0.mk (Kd.R_below a61_ hb); have n8_ := Aside0.mk (Kd.R_below a62_ hb); have n9_ := Aside0.mk (Kd.R_below a63_ hb); have n10_ := Aside0.mk (Kd.R_below a64_ hb); have n11_ := Aside0.mk (Kd.R_below a65_ hb); have n12_ := Aside0.mk (Kd.R_below a24_ hb); have n13_ := Aside0.mk (Kd.R_below a25_ hb); have n14_ := Aside0.mk (Kd.R_below a26_ hb); have n15_ := Aside0.mk (blk_below (g := gb232) (o := .cells #[.slice A0_0 l0_0.length c0_0, .slice A0_1 l0_1.length c0_1, .slice A0_2 l0_2.length c0_2] 24 (0, 0)) a53_ hb); have n16_ := Aside0.mk (blk_below (g := gb253) (o := .cells #[.slice Ao22 t243.length co22, .slice Ao25 t246.length co25, .slice Ao26 t249.length co26] 29 (0, 0)) a54_ hb); have n17_ := Aside0.mk (blk_below (g := gb263) (o := .cells #[.slice Ao30 t287.length co30, .slice Ao34 t288.length co34, .slice Ao35 t289.length co35] 29 (0, 0)) a55_ hb); have n18_ := Aside0.mk (blk_below (g := gb274) (o := .cells #[.slice Ao38 t264.length co38, .slice Ao43 t267.length co43, .slice Ao44 t270.length co44] 29 (0, 0)) a56_ hb); have n19_ := Aside0.mk (blk_below (g := gb315) (o := .cells #[.slice Ao130 t305.length co130, .slice Ao136 t308.length co136, .slice Ao137 t311.length co137] 29 (0, 0)) a46_ hb); have n20_ := Aside0.mk (below_step a47_ hb); clear HO_254000; clear HO_254001; clear HO_254002; clear HO_264000; clear HO_264001; clear HO_264002; clear HO_275000; clear HO_275001; clear HO_275002; clear HO298; clear HO301; clear HO304; clear HO307; clear HO310; clear HO313; clear BK232; clear BK253; clear BK263; clear BK274; clear BK315; clear HB; have HO_254000 := n0_; have HO_254001 := n1_; have HO_254002 := n2_; have HO_264000 := n3_; have HO_264001 := n4_; have HO_264002 := n5_; have HO_275000 := n6_; have HO_275001 := n7_; have HO_275002 := n8_; have HO298 := n9_; have HO301 := n10_; have HO304 := n11_; have HO307 := n12_; have HO310 := n13_; have HO313 := n14_; have BK232 := n15_; have BK253 := n16_; have BK263 := n17_; have BK274 := n18_; have BK315 := n19_; have HB := n20_; clear n0_ n1_ n2_ n3_ n4_ n5_ n6_ n7_ n8_ n9_ n10_ n11_ n12_ n13_ n14_ n15_ n16_ n17_ n18_ n19_ n20_; (try clear hb); (try clear hb2); (try clear hk); (try clear hi)))
             go_meet
             case rel => exact ⟨_, ((t314 != t252)), a86_, H', ⟨by have := HJ10.out; have := HJ67.out; first | omega | exact Nat.le_refl _⟩, ⟨by (try simp only [hl264000_67]); (try simp only [hl264001_67]); (try simp only [hl264002_67]); (with_reducible repeat (first | apply Kd.R_alloc | apply Kd.R_drewN | apply Kd.R_drew)); exact Kd.R_mono HO_254000.out (fun _ hk => ⟨hk.1.1.1.1.1.1.1, ⟨hk.1.1.1.1.1.1.2.1, ⟨hk.1.1.1.1.1.1.2.2.1, ⟨hk.1.1.1.1.1.1.2.2.2.1, ⟨hk.1.1.1.1.1.1.2.2.2.2.1, ⟨hk.1.1.1.1.1.1.2.2.2.2.2.1, ⟨hk.1.1.1.1.1.1.2.2.2.2.2.2.1, ⟨hk.1.1.1.1.1.1.2.2.2.2.2.2.2, ⟨hk.1.1.2, ⟨hk.1.2, hk.2⟩⟩⟩⟩⟩⟩⟩⟩⟩⟩)⟩, ⟨by (try simp only [hl264000_67]); (try simp only [hl264001_67]); (try simp only [hl264002_67]); (with_reducible repeat (first | apply Kd.R_alloc | apply Kd.R_drewN | apply Kd.R_drew)); exact Kd.R_mono HO_254001.out (fun _ hk => ⟨hk.1.1.1.1.1.1.1, ⟨hk.1.1.1.1.1.1.2.1, ⟨hk.1.1.1.1.1.1.2.2.1, ⟨hk.1.1.1.1.1.1.2.2.2.1, ⟨hk.1.1.1.1.1.1.2.2.2.2.1, ⟨hk.1.1.1.1.1.1.2.2.2.2.2.1, ⟨hk.1.1.1.1.1.1.2.2.2.2.2.2.1, ⟨hk.1.1.1.1.1.1.2.2.2.2.2.2.2, ⟨hk.1.1.2, ⟨hk.1.2, hk.2⟩⟩⟩⟩⟩⟩⟩⟩⟩⟩)⟩, ⟨by (try simp only [hl264000_67]); (try simp only [hl264001_67]); (try simp only [hl264002_67]); (with_reducible repeat (first | apply Kd.R_alloc | apply Kd.R_drewN | apply Kd.R_drew)); exact Kd.R_mono HO_254002.out (fun _ hk => ⟨hk.1.1.1.1.1.1.1, ⟨hk.1.1.1.1.1.1.2.1, ⟨hk.1.1.1.1.1.1.2.2.1, ⟨hk.1.1.1.1.1.1.2.2.2.1, ⟨hk.1.1.1.1.1.1.2.2.2.2.1, ⟨hk.1.1.1.1.1.1.2.2.2.2.2.1, ⟨hk.1.1.1.1.1.1.2.2.2.2.2.2.1, ⟨hk.1.1.1.1.1.1.2.2.2.2.2.2.2, ⟨hk.1.1.2, ⟨hk.1.2, hk.2⟩⟩⟩⟩⟩⟩⟩⟩⟩⟩)⟩, ⟨by (try simp only [hl264000_67]); (try simp only [hl264001_67]); (try simp only [hl264002_67]); (with_reducible repeat (first | apply Kd.R_alloc | apply Kd.R_drewN | apply Kd.R_drew)); exact Kd.R_mono HO_264000.out (fun _ hk => ⟨hk.1.1.1.1.1.1.1, ⟨hk.1.1.1.1.1.1.2.1, ⟨hk.1.1.1.1.1.1.2.2.1, ⟨hk.1.1.1.1.1.1.2.2.2.1, ⟨hk.1.1.1.1.1.1.2.2.2.2.1, ⟨hk.1.1.1.1.1.1.2.2.2.2.2.1, ⟨hk.1.1.1.1.1.1.2.2.2.2.2.2.1, ⟨hk.1.1.1.1.1.1.2.2.2.2.2.2.2, ⟨hk.1.1.2, ⟨hk.1.2, hk.2⟩⟩⟩⟩⟩⟩⟩⟩⟩⟩)⟩, ⟨by (try simp only [hl264000_67]); (try simp only [hl264001_67]); (try simp only [hl264002_67]); (with_reducible repeat (first | apply Kd.R_alloc | apply Kd.R_drewN | apply Kd.R_drew)); exact Kd.R_mono HO_264001.out (fun _ hk => ⟨hk.1.1.1.1.1.1.1, ⟨hk.1.1.1.1.1.1.2.1, ⟨hk.1.1.1.1.1.1.2.2.1, ⟨hk.1.1.1.1.1.1.2.2.2.1, ⟨hk.1.1.1.1.1.1.2.2.2.2.1, ⟨hk.1.1.1.1.1.1.2.2.2.2.2.1, ⟨hk.1.1.1.1.1.1.2.2.2.2.2.2.1, ⟨hk.1.1.1.1.1.1.2.2.2.2.2.2.2, ⟨hk.1.1.2, ⟨hk.1.2, hk.2⟩⟩⟩⟩⟩⟩⟩⟩⟩⟩)⟩, ⟨by (try simp only [hl264000_67]); (try simp only [hl264001_67]); (try simp only [hl264002_67]); (with_reducible repeat (first | apply Kd.R_alloc | apply Kd.R_drewN | apply Kd.R_drew)); exact Kd.R_mono HO_264002.out (fun _ hk => ⟨hk.1.1.1.1.1.1.1, ⟨hk.1.1.1.1.1.1.2.1, ⟨hk.1.1.1.1.1.1.2.2.1, ⟨hk.1.1.1.1.1.1.2.2.2.1, ⟨hk.1.1.1.1.1.1.2.2.2.2.1, ⟨hk.1.1.1.1.1.1.2.2.2.2.2.1, ⟨hk.1.1.1.1.1.1.2.2.2.2.2.2.1, ⟨hk.1.1.1.1.1.1.2.2.2.2.2.2.2, ⟨hk.1.1.2, ⟨hk.1.2, hk.2⟩⟩⟩⟩⟩⟩⟩⟩⟩⟩)⟩, ⟨by (try simp only [hl264000_67]); (try simp only [hl264001_67]); (try simp only [hl264002_67]); (with_reducible repeat (first | apply Kd.R_alloc | apply Kd.R_drewN | apply Kd.R_drew)); exact Kd.R_mono HO_275000.out (fun _ hk => ⟨hk.1.1.1.1.1.1.1, ⟨hk.1.1.1.1.1.1.2.1, ⟨hk.1.1.1.1.1.1.2.2.1, ⟨hk.1.1.1.1.1.1.2.2.2.1, ⟨hk.1.1.1.1.1.1.2.2.2.2.1, ⟨hk.1.1.1.1.1.1.2.2.2.2.2.1, ⟨hk.1.1.1.1.1.1.2.2.2.2.2.2.1, ⟨hk.1.1.1.1.1.1.2.2.2.2.2.2.2, ⟨hk.1.1.2, ⟨hk.1.2, hk.2⟩⟩⟩⟩⟩⟩⟩⟩⟩⟩)⟩, ⟨by (try simp only [hl264000_67]); (try simp only [hl264001_67]); (try simp only [hl264002_67]); (with_reducible repeat (first | apply Kd.R_alloc | apply Kd.R_drewN | apply Kd.R_drew)); exact Kd.R_mono HO_275001.out (fun _ hk => ⟨hk.1.1.1.1.1.1.1, ⟨hk.1.1.1.1.1.1.2.1, ⟨hk.1.1.1.1.1.1.2.2.1, ⟨hk.1.1.1.1.1.1.2.2.2.1, ⟨hk.1.1.1.1.1.1.2.2.2.2.1, ⟨hk.1.1.1.1.1.1.2.2.2.2.2.1, ⟨hk.1.1.1.1.1.1.2.2.2.2.2.2.1, ⟨hk.1.1.1.1.1.1.2.2.2.2.2.2.2, ⟨hk.1.1.2, ⟨hk.1.2, hk.2⟩⟩⟩⟩⟩⟩⟩⟩⟩⟩)⟩, ⟨by (try simp only [hl264000_67]); (try simp only [hl264001_67]); (try simp only [hl264002_67]); (with_reducible repeat (first | apply Kd.R_alloc | apply Kd.R_drewN | apply Kd.R_drew)); exact Kd.R_mono HO_275002.out (fun _ hk => ⟨hk.1.1.1.1.1.1.1, ⟨hk.1.1.1.1.1.1.2.1, ⟨hk.1.1.1.1.1.1.2.2.1, ⟨hk.1.1.1.1.1.1.2.2.2.1, ⟨hk.1.1.1.1.1.1.2.2.2.2.1, ⟨hk.1.1.1.1.1.1.2.2.2.2.2.1, ⟨hk.1.1.1.1.1.1.2.2.2.2.2.2.1, ⟨hk.1.1.1.1.1.1.2.2.2.2.2.2.2, ⟨hk.1.1.2, ⟨hk.1.2, hk.2⟩⟩⟩⟩⟩⟩⟩⟩⟩⟩)⟩, ⟨by (try simp only [hl264000_67]); (try simp only [hl264001_67]); (try simp only [hl264002_67]); (with_reducible repeat (first | apply Kd.R_alloc | apply Kd.R_drewN | apply Kd.R_drew)); exact Kd.R_mono HO307.out (fun _ hk => ⟨hk.1.1.1.1.1.1.1.1.1.1.1.2, ⟨hk.1.1.1.1.1.1.1.1.1.1.2, ⟨hk.1.1.1.1.1.1.1.1.1.2, ⟨hk.1.1.1.1.1.1.1.1.2, ⟨hk.1.1.1.1.1.1.1.2, ⟨hk.1.1.1.1.1.1.2, ⟨hk.1.1.1.1.1.2, ⟨hk.1.1.1.1.2, ⟨hk.1.1.1.2, ⟨hk.1.1.1.1.1.1.1.1.1.1.1.1.1, hk.1.1.1.1.1.1.1.1.1.1.1.1.2⟩⟩⟩⟩⟩⟩⟩⟩⟩⟩)⟩, ⟨by (try simp only [hl264000_67]); (try simp only [hl264001_67]); (try simp only [hl264002_67]); (with_reducible repeat (first | apply Kd.R_alloc | apply Kd.R_drewN | apply Kd.R_drew)); exact Kd.R_mono HO310.out (fun _ hk => ⟨hk.1.1.1.1.1.1.1.1.1.1.1.2, ⟨hk.1.1.1.1.1.1.1.1.1.1.2, ⟨hk.1.1.1.1.1.1.1.1.1.2, ⟨hk.1.1.1.1.1.1.1.1.2, ⟨hk.1.1.1.1.1.1.1.2, ⟨hk.1.1.1.1.1.1.2, ⟨hk.1.1.1.1.1.2, ⟨hk.1.1.1.1.2, ⟨hk.1.1.1.2, ⟨hk.1.1.1.1.1.1.1.1.1.1.1.1.1, hk.1.1.1.1.1.1.1.1.1.1.1.1.2⟩⟩⟩⟩⟩⟩⟩⟩⟩⟩)⟩, ⟨by (try simp only [hl264000_67]); (try simp only [hl264001_67]); (try simp only [hl264002_67]); (with_reducible repeat (first | apply Kd.R_alloc | apply Kd.R_drewN | apply Kd.R_drew)); exact Kd.R_mono HO313.out (fun _ hk => ⟨hk.1.1.1.1.1.1.1.1.1.1.1.2, ⟨hk.1.1.1.1.1.1.1.1.1.1.2, ⟨hk.1.1.1.1.1.1.1.1.1.2, ⟨hk.1.1.1.1.1.1.1.1.2, ⟨hk.1.1.1.1.1.1.1.2, ⟨hk.1.1.1.1.1.1.2, ⟨hk.1.1.1.1.1.2, ⟨hk.1.1.1.1.2, ⟨hk.1.1.1.2, ⟨hk.1.1.1.1.1.1.1.1.1.1.1.1.1, hk.1.1.1.1.1.1.1.1.1.1.1.1.2⟩⟩⟩⟩⟩⟩⟩⟩⟩⟩)⟩, ⟨by (try simp only [hl264000_67]); (try simp only [hl264001_67]); (try simp only [hl264002_67]); (with_reducible repeat (first | refine blk_drewN ?_ _ | refine blk_drew ?_ | refine blk_alloc ?_ _)); exact BK232.out⟩, ⟨by (try simp only [hl264000_67]); (try simp only [hl264001_67]); (try simp only [hl264002_67]); (with_reducible repeat (first | refine blk_drewN ?_ _ | refine blk_drew ?_ | refine blk_alloc ?_ _)); exact BK253.out⟩, ⟨by (try simp only [hl264000_67]); (try simp only [hl264001_67]); (try simp only [hl264002_67]); (with_reducible repeat (first | refine blk_drewN ?_ _ | refine blk_drew ?_ | refine blk_alloc ?_ _)); exact BK263.out⟩, ⟨by (try simp only [hl264000_67]); (try simp only [hl264001_67]); (try simp only [hl264002_67]); (with_reducible repeat (first | refine blk_drewN ?_ _ | refine blk_drew ?_ | refine blk_alloc ?_ _)); exact BK274.out⟩, ⟨by (try simp only [hl264000_67]); (try simp only [hl264001_67]); (try simp only [hl264002_67]); (with_reducible repeat (first | refine blk_drewN ?_ _ | refine blk_drew ?_ | refine blk_alloc ?_ _)); exact BK315.out⟩, ⟨by repeat (first | (with_reducible first | exact HB.out | apply below_alloc | apply pw_below_drewN | apply below_drew1 | refine below_set ?_ GE232.out | refine below_set ?_ GE253.out | refine below_set ?_ GE263.out | refine below_set ?_ GE274.out | refine below_set ?_ GE315.out) | exact HB.out)⟩⟩
            ·replace c139 := Bool.eq_false_iff.mpr c139
             subst c139
             have H1 : (laws_FnExactBackwardMachine.j2 kj67 t291 true t292 t293 t294) = some r := by rw [if_neg (show ¬ (false = true) by decide)] at H; exact H
             clear H
             have H := H1
             clear H1
             have H' := Aside0.mk H
             clear H
             have hnb150 := NB315_232.out
             have hnc150 := NB232_315.out
             have hnb151 := NB315_253.out
             have hnc151 := NB253_315.out
             have hnb152 := NB315_263.out
             have hnc152 := NB263_315.out
             have hnb153 := NB315_274.out
             have hnc153 := NB274_315.out
             have hcz154_0 : w129.cell? ⟨gb315, 0, none⟩ = some (.slice none 0 0) := (blk_cell BK315.out 0).trans rfl
             have hcz154_1 : w129.cell? ⟨gb315, 1, none⟩ = some (.slice none 0 0) := (blk_cell BK315.out 1).trans rfl
             have hcz154_2 : w129.cell? ⟨gb315, 2, none⟩ = some (.slice none 0 0) := (blk_cell BK315.out 2).trans rfl
             have hfz154_0 := blk_frozen BK315.out 0
             have hfz154_1 := blk_frozen BK315.out 1
             have hfz154_2 := blk_frozen BK315.out 2
             have hnb155 := NB253_232.out
             have hnc155 := NB232_253.out
             have hnb156 := NB253_263.out
             have hnc156 := NB263_253.out
             have hnb157 := NB253_274.out
             have hnc157 := NB274_253.out
             have hcz158_0 : w129.cell? ⟨gb253, 0, none⟩ = some (.slice Ao22 t243.length co22) := (blk_cell BK253.out 0).trans rfl
             have hcz158_1 : w129.cell? ⟨gb253, 1, none⟩ = some (.slice Ao25 t246.length co25) := (blk_cell BK253.out 1).trans rfl
             have hcz158_2 : w129.cell? ⟨gb253, 2, none⟩ = some (.slice Ao26 t249.length co26) := (blk_cell BK253.out 2).trans rfl
             have hfz158_0 := blk_frozen BK253.out 0
             have hfz158_1 := blk_frozen BK253.out 1
             have hfz158_2 := blk_frozen BK253.out 2
             go_wp2_with (first | ((with_reducible refine gate_callee (f := 19) rfl ?_); refine goesL_ (some 81) rfl rfl Try.func19 (by kernel_rfl) rfl #[.agg #[.slice Ao130 t305.length co130, .slice Ao136 t308.length co136, .slice Ao137 t311.length co137], .agg #[.slice Ao22 t243.length co22, .slice Ao25 t246.length co25, .slice Ao26 t249.length co26]] rfl a3_ ?_; (with_reducible refine (laws_eqMachine.calls kj67 _ _ t305 _ _ t308 _ _ t311 _ _ t243 _ _ t246 _ _ t249 false _ ?side1 ?side2 ?side3 ?side4 ?side5 ?side6 ?side7 ?side8 ?side9 ?side10 ?side11 ?side12 A138.out).mono ?_); (case side1 => exact a103_); (case side2 => exact (Kd.R_reads' HO307.out).2.1); (case side3 => exact a104_); (case side4 => exact (Kd.R_reads' HO310.out).2.1); (case side5 => exact a105_); (case side6 => exact (Kd.R_reads' HO313.out).2.1); (case side7 => exact a100_); (case side8 => exact (Kd.R_reads' HO_254000.out).2.1); (case side9 => exact a101_); (case side10 => exact (Kd.R_reads' HO_254001.out).2.1); (case side11 => exact a102_); (case side12 => exact (Kd.R_reads' HO_254002.out).2.1); rintro e w159 ⟨rfl, hb⟩; refine ⟨_, rfl, ?_⟩; have n0_ := Aside0.mk (Kd.R_below a21_ hb); have n1_ := Aside0.mk (Kd.R_below a22_ hb); have n2_ := Aside0.mk (Kd.R_below a23_ hb); have n3_ := Aside0.mk (Kd.R_below a57_ hb); have n4_ := Aside0.mk (Kd.R_below a58_ hb); have n5_ := Aside0.mk (Kd.R_below a59_ hb); have n6_ := Aside0.mk (Kd.R_below a60_ hb); have n7_ := Aside0.mk (Kd.R_below a61_ hb); have n8_ := Aside0.mk (Kd.R_below a62_ hb); have n9_ := Aside0.mk (Kd.R_below a63_ hb); have n10_ := Aside0.mk (Kd.R_below a64_ hb); have n11_ := Aside0.mk (Kd.R_below a65_ hb); have n12_ := Aside0.mk (Kd.R_below a24_ hb); have n13_ := Aside0.mk (Kd.R_below a25_ hb); have n14_ := Aside0.mk (Kd.R_below a26_ hb); have n15_ := Aside0.mk (blk_below (g := gb232) (o := .cells #[.slice A0_0 l0_0.length c0_0, .slice A0_1 l0_1.length c0_1, .slice A0_2 l0_2.length c0_2] 24 (0, 0)) a53_ hb); have n16_ := Aside0.mk (blk_below (g := gb253) (o := .cells #[.slice Ao22 t243.length co22, .slice Ao25 t246.length co25, .slice Ao26 t249.length co26] 29 (0, 0)) a54_ hb); have n17_ := Aside0.mk (blk_below (g := gb263) (o := .cells #[.slice Ao30 t287.length co30, .slice Ao34 t288.length co34, .slice Ao35 t289.length co35] 29 (0, 0)) a55_ hb); have n18_ := Aside0.mk (blk_below (g := gb274) (o := .cells #[.slice Ao38 t264.length co38, .slice Ao43 t267.length co43, .slice Ao44 t270.length co44] 29 (0, 0)) a56_ hb); have n19_ := Aside0.mk (blk_below (g := gb315) (o := .cells #[.slice Ao130 t305.length co130, .slice Ao136 t308.length co136, .slice Ao137 t311.length co137] 29 (0, 0)) a46_ hb); have n20_ := Aside0.mk (below_step a47_ hb); clear HO_254000; clear HO_254001; clear HO_254002; clear HO_264000; clear HO_264001; clear HO_264002; clear HO_275000; clear HO_275001; clear HO_275002; clear HO298; clear HO301; clear HO304; clear HO307; clear HO310; clear HO313; clear BK232; clear BK253; clear BK263; clear BK274; clear BK315; clear HB; have HO_254000 := n0_; have HO_254001 := n1_; have HO_254002 := n2_; have HO_264000 := n3_; have HO_264001 := n4_; have HO_264002 := n5_; have HO_275000 := n6_; have HO_275001 := n7_; have HO_275002 := n8_; have HO298 := n9_; have HO301 := n10_; have HO304 := n11_; have HO307 := n12_; have HO310 := n13_; have HO313 := n14_; have BK232 := n15_; have BK253 := n16_; have BK263 := n17_; have BK274 := n18_; have BK315 := n19_; have HB := n20_; clear n0_ n1_ n2_ n3_ n4_ n5_ n6_ n7_ n8_ n9_ n10_ n11_ n12_ n13_ n14_ n15_ n16_ n17_ n18_ n19_ n20_; (try clear hb); (try clear hb2); (try clear hk); (try clear hi)))
             go_meet
             case rel => exact ⟨_, (true), a86_, H', ⟨by have := HJ10.out; have := HJ67.out; first | omega | exact Nat.le_refl _⟩, ⟨by (try simp only [hl264000_67]); (try simp only [hl264001_67]); (try simp only [hl264002_67]); (with_reducible repeat (first | apply Kd.R_alloc | apply Kd.R_drewN | apply Kd.R_drew)); exact Kd.R_mono HO_254000.out (fun _ hk => ⟨hk.1.1.1.1.1.1.1, ⟨hk.1.1.1.1.1.1.2.1, ⟨hk.1.1.1.1.1.1.2.2.1, ⟨hk.1.1.1.1.1.1.2.2.2.1, ⟨hk.1.1.1.1.1.1.2.2.2.2.1, ⟨hk.1.1.1.1.1.1.2.2.2.2.2.1, ⟨hk.1.1.1.1.1.1.2.2.2.2.2.2.1, ⟨hk.1.1.1.1.1.1.2.2.2.2.2.2.2, ⟨hk.1.1.2, ⟨hk.1.2, hk.2⟩⟩⟩⟩⟩⟩⟩⟩⟩⟩)⟩, ⟨by (try simp only [hl264000_67]); (try simp only [hl264001_67]); (try simp only [hl264002_67]); (with_reducible repeat (first | apply Kd.R_alloc | apply Kd.R_drewN | apply Kd.R_drew)); exact Kd.R_mono HO_254001.out (fun _ hk => ⟨hk.1.1.1.1.1.1.1, ⟨hk.1.1.1.1.1.1.2.1, ⟨hk.1.1.1.1.1.1.2.2.1, ⟨hk.1.1.1.1.1.1.2.2.2.1, ⟨hk.1.1.1.1.1.1.2.2.2.2.1, ⟨hk.1.1.1.1.1.1.2.2.2.2.2.1, ⟨hk.1.1.1.1.1.1.2.2.2.2.2.2.1, ⟨hk.1.1.1.1.1.1.2.2.2.2.2.2.2, ⟨hk.1.1.2, ⟨hk.1.2, hk.2⟩⟩⟩⟩⟩⟩⟩⟩⟩⟩)⟩, ⟨by (try simp only [hl264000_67]); (try simp only [hl264001_67]); (try simp only [hl264002_67]); (with_reducible repeat (first | apply Kd.R_alloc | apply Kd.R_drewN | apply Kd.R_drew)); exact Kd.R_mono HO_254002.out (fun _ hk => ⟨hk.1.1.1.1.1.1.1, ⟨hk.1.1.1.1.1.1.2.1, ⟨hk.1.1.1.1.1.1.2.2.1, ⟨hk.1.1.1.1.1.1.2.2.2.1, ⟨hk.1.1.1.1.1.1.2.2.2.2.1, ⟨hk.1.1.1.1.1.1.2.2.2.2.2.1, ⟨hk.1.1.1.1.1.1.2.2.2.2.2.2.1, ⟨hk.1.1.1.1.1.1.2.2.2.2.2.2.2, ⟨hk.1.1.2, ⟨hk.1.2, hk.2⟩⟩⟩⟩⟩⟩⟩⟩⟩⟩)⟩, ⟨by (try simp only [hl264000_67]); (try simp only [hl264001_67]); (try simp only [hl264002_67]); (with_reducible repeat (first | apply Kd.R_alloc | apply Kd.R_drewN | apply Kd.R_drew)); exact Kd.R_mono HO_264000.out (fun _ hk => ⟨hk.1.1.1.1.1.1.1, ⟨hk.1.1.1.1.1.1.2.1, ⟨hk.1.1.1.1.1.1.2.2.1, ⟨hk.1.1.1.1.1.1.2.2.2.1, ⟨hk.1.1.1.1.1.1.2.2.2.2.1, ⟨hk.1.1.1.1.1.1.2.2.2.2.2.1, ⟨hk.1.1.1.1.1.1.2.2.2.2.2.2.1, ⟨hk.1.1.1.1.1.1.2.2.2.2.2.2.2, ⟨hk.1.1.2, ⟨hk.1.2, hk.2⟩⟩⟩⟩⟩⟩⟩⟩⟩⟩)⟩, ⟨by (try simp only [hl264000_67]); (try simp only [hl264001_67]); (try simp only [hl264002_67]); (with_reducible repeat (first | apply Kd.R_alloc | apply Kd.R_drewN | apply Kd.R_drew)); exact Kd.R_mono HO_264001.out (fun _ hk => ⟨hk.1.1.1.1.1.1.1, ⟨hk.1.1.1.1.1.1.2.1, ⟨hk.1.1.1.1.1.1.2.2.1, ⟨hk.1.1.1.1.1.1.2.2.2.1, ⟨hk.1.1.1.1.1.1.2.2.2.2.1, ⟨hk.1.1.1.1.1.1.2.2.2.2.2.1, ⟨hk.1.1.1.1.1.1.2.2.2.2.2.2.1, ⟨hk.1.1.1.1.1.1.2.2.2.2.2.2.2, ⟨hk.1.1.2, ⟨hk.1.2, hk.2⟩⟩⟩⟩⟩⟩⟩⟩⟩⟩)⟩, ⟨by (try simp only [hl264000_67]); (try simp only [hl264001_67]); (try simp only [hl264002_67]); (with_reducible repeat (first | apply Kd.R_alloc | apply Kd.R_drewN | apply Kd.R_drew)); exact Kd.R_mono HO_264002.out (fun _ hk => ⟨hk.1.1.1.1.1.1.1, ⟨hk.1.1.1.1.1.1.2.1, ⟨hk.1.1.1.1.1.1.2.2.1, ⟨hk.1.1.1.1.1.1.2.2.2.1, ⟨hk.1.1.1.1.1.1.2.2.2.2.1, ⟨hk.1.1.1.1.1.1.2.2.2.2.2.1, ⟨hk.1.1.1.1.1.1.2.2.2.2.2.2.1, ⟨hk.1.1.1.1.1.1.2.2.2.2.2.2.2, ⟨hk.1.1.2, ⟨hk.1.2, hk.2⟩⟩⟩⟩⟩⟩⟩⟩⟩⟩)⟩, ⟨by (try simp only [hl264000_67]); (try simp only [hl264001_67]); (try simp only [hl264002_67]); (with_reducible repeat (first | apply Kd.R_alloc | apply Kd.R_drewN | apply Kd.R_drew)); exact Kd.R_mono HO_275000.out (fun _ hk => ⟨hk.1.1.1.1.1.1.1, ⟨hk.1.1.1.1.1.1.2.1, ⟨hk.1.1.1.1.1.1.2.2.1, ⟨hk.1.1.1.1.1.1.2.2.2.1, ⟨hk.1.1.1.1.1.1.2.2.2.2.1, ⟨hk.1.1.1.1.1.1.2.2.2.2.2.1, ⟨hk.1.1.1.1.1.1.2.2.2.2.2.2.1, ⟨hk.1.1.1.1.1.1.2.2.2.2.2.2.2, ⟨hk.1.1.2, ⟨hk.1.2, hk.2⟩⟩⟩⟩⟩⟩⟩⟩⟩⟩)⟩, ⟨by (try simp only [hl264000_67]); (try simp only [hl264001_67]); (try simp only [hl264002_67]); (with_reducible repeat (first | apply Kd.R_alloc | apply Kd.R_drewN | apply Kd.R_drew)); exact Kd.R_mono HO_275001.out (fun _ hk => ⟨hk.1.1.1.1.1.1.1, ⟨hk.1.1.1.1.1.1.2.1, ⟨hk.1.1.1.1.1.1.2.2.1, ⟨hk.1.1.1.1.1.1.2.2.2.1, ⟨hk.1.1.1.1.1.1.2.2.2.2.1, ⟨hk.1.1.1.1.1.1.2.2.2.2.2.1, ⟨hk.1.1.1.1.1.1.2.2.2.2.2.2.1, ⟨hk.1.1.1.1.1.1.2.2.2.2.2.2.2, ⟨hk.1.1.2, ⟨hk.1.2, hk.2⟩⟩⟩⟩⟩⟩⟩⟩⟩⟩)⟩, ⟨by (try simp only [hl264000_67]); (try simp only [hl264001_67]); (try simp only [hl264002_67]); (with_reducible repeat (first | apply Kd.R_alloc | apply Kd.R_drewN | apply Kd.R_drew)); exact Kd.R_mono HO_275002.out (fun _ hk => ⟨hk.1.1.1.1.1.1.1, ⟨hk.1.1.1.1.1.1.2.1, ⟨hk.1.1.1.1.1.1.2.2.1, ⟨hk.1.1.1.1.1.1.2.2.2.1, ⟨hk.1.1.1.1.1.1.2.2.2.2.1, ⟨hk.1.1.1.1.1.1.2.2.2.2.2.1, ⟨hk.1.1.1.1.1.1.2.2.2.2.2.2.1, ⟨hk.1.1.1.1.1.1.2.2.2.2.2.2.2, ⟨hk.1.1.2, ⟨hk.1.2, hk.2⟩⟩⟩⟩⟩⟩⟩⟩⟩⟩)⟩, ⟨by (try simp only [hl264000_67]); (try simp only [hl264001_67]); (try simp only [hl264002_67]); (with_reducible repeat (first | apply Kd.R_alloc | apply Kd.R_drewN | apply Kd.R_drew)); exact Kd.R_mono HO307.out (fun _ hk => ⟨hk.1.1.1.1.1.1.1.1.1.1.1.2, ⟨hk.1.1.1.1.1.1.1.1.1.1.2, ⟨hk.1.1.1.1.1.1.1.1.1.2, ⟨hk.1.1.1.1.1.1.1.1.2, ⟨hk.1.1.1.1.1.1.1.2, ⟨hk.1.1.1.1.1.1.2, ⟨hk.1.1.1.1.1.2, ⟨hk.1.1.1.1.2, ⟨hk.1.1.1.2, ⟨hk.1.1.1.1.1.1.1.1.1.1.1.1.1, hk.1.1.1.1.1.1.1.1.1.1.1.1.2⟩⟩⟩⟩⟩⟩⟩⟩⟩⟩)⟩, ⟨by (try simp only [hl264000_67]); (try simp only [hl264001_67]); (try simp only [hl264002_67]); (with_reducible repeat (first | apply Kd.R_alloc | apply Kd.R_drewN | apply Kd.R_drew)); exact Kd.R_mono HO310.out (fun _ hk => ⟨hk.1.1.1.1.1.1.1.1.1.1.1.2, ⟨hk.1.1.1.1.1.1.1.1.1.1.2, ⟨hk.1.1.1.1.1.1.1.1.1.2, ⟨hk.1.1.1.1.1.1.1.1.2, ⟨hk.1.1.1.1.1.1.1.2, ⟨hk.1.1.1.1.1.1.2, ⟨hk.1.1.1.1.1.2, ⟨hk.1.1.1.1.2, ⟨hk.1.1.1.2, ⟨hk.1.1.1.1.1.1.1.1.1.1.1.1.1, hk.1.1.1.1.1.1.1.1.1.1.1.1.2⟩⟩⟩⟩⟩⟩⟩⟩⟩⟩)⟩, ⟨by (try simp only [hl264000_67]); (try simp only [hl264001_67]); (try simp only [hl264002_67]); (with_reducible repeat (first | apply Kd.R_alloc | apply Kd.R_drewN | apply Kd.R_drew)); exact Kd.R_mono HO313.out (fun _ hk => ⟨hk.1.1.1.1.1.1.1.1.1.1.1.2, ⟨hk.1.1.1.1.1.1.1.1.1.1.2, ⟨hk.1.1.1.1.1.1.1.1.1.2, ⟨hk.1.1.1.1.1.1.1.1.2, ⟨hk.1.1.1.1.1.1.1.2, ⟨hk.1.1.1.1.1.1.2, ⟨hk.1.1.1.1.1.2, ⟨hk.1.1.1.1.2, ⟨hk.1.1.1.2, ⟨hk.1.1.1.1.1.1.1.1.1.1.1.1.1, hk.1.1.1.1.1.1.1.1.1.1.1.1.2⟩⟩⟩⟩⟩⟩⟩⟩⟩⟩)⟩, ⟨by (try simp only [hl264000_67]); (try simp only [hl264001_67]); (try simp only [hl264002_67]); (with_reducible repeat (first | refine blk_drewN ?_ _ | refine blk_drew ?_ | refine blk_alloc ?_ _)); exact BK232.out⟩, ⟨by (try simp only [hl264000_67]); (try simp only [hl264001_67]); (try simp only [hl264002_67]); (with_reducible repeat (first | refine blk_drewN ?_ _ | refine blk_drew ?_ | refine blk_alloc ?_ _)); exact BK253.out⟩, ⟨by (try simp only [hl264000_67]); (try simp only [hl264001_67]); (try simp only [hl264002_67]); (with_reducible repeat (first | refine blk_drewN ?_ _ | refine blk_drew ?_ | refine blk_alloc ?_ _)); exact BK263.out⟩, ⟨by (try simp only [hl264000_67]); (try simp only [hl264001_67]); (try simp only [hl264002_67]); (with_reducible repeat (first | refine blk_drewN ?_ _ | refine blk_drew ?_ | refine blk_alloc ?_ _)); exact BK274.out⟩, ⟨by (try simp only [hl264000_67]); (try simp only [hl264001_67]); (try simp only [hl264002_67]); (with_reducible repeat (first | refine blk_drewN ?_ _ | refine blk_drew ?_ | refine blk_alloc ?_ _)); exact BK315.out⟩, ⟨by repeat (first | (with_reducible first | exact HB.out | apply below_alloc | apply pw_below_drewN | apply below_drew1 | refine below_set ?_ GE232.out | refine below_set ?_ GE253.out | refine below_set ?_ GE263.out | refine below_set ?_ GE274.out | refine below_set ?_ GE315.out) | exact HB.out)⟩⟩
           case rest =>
            clear HC113
            try clear c1
            try clear c2
            try clear p2
            try clear c3
            try clear c3b0
            try clear c4
            try clear c5
            try clear c6
            try clear c7
            try clear c8
            try clear c9
            try clear c10
            try clear c11
            try clear c12
            try clear c13
            try clear c14
            try clear c15
            try clear c17
            try clear c19
            try clear c22
            try clear c23
            try clear c24
            try clear c25
            try clear c31
            try clear c32
            try clear c39
            try clear c40
            try clear c41
            try clear c46
            try clear c47
            try clear c48
            try clear c49
            try clear c51
            try clear c52
            try clear c55
            try clear c56
            try clear c57
            try clear c59
            try clear c60
            try clear c63
            try clear c66
            try clear c75
            try clear c76
            try clear c77
            try clear c80
            try clear c80b0
            try clear c82
            try clear c83
            try clear c84
            try clear c85
            try clear c87
            try clear c88
            try clear c91
            try clear c92
            try clear c93
            try clear c95
            try clear c96
            try clear c99
            try clear c102
            try clear c102b0
            try clear c103
            try clear c104
            try clear c105
            try clear c110
            try clear c110b0
            try clear c110b1
            try clear c114
            try clear c115
            try clear c116
            try clear c121
            try clear c122
            try clear c131
            try clear c132
            try clear c133
            try clear c134
            try clear c139
            try clear c140
            try clear c141
            try clear c142
            try clear c143
            try clear c145
            try clear c146
            try clear c147
            try clear c150
            try clear c151
            try clear c152
            try clear c153
            try clear c155
            try clear c156
            try clear c157
            try clear hcz106_0
            try clear hcz106_1
            try clear hcz106_2
            try clear hcz108_0
            try clear hcz108_1
            try clear hcz108_2
            try clear hcz117_0
            try clear hcz117_1
            try clear hcz117_2
            try clear hcz119_0
            try clear hcz119_1
            try clear hcz119_2
            try clear hcz123_0
            try clear hcz123_1
            try clear hcz123_2
            try clear hcz135_0
            try clear hcz135_1
            try clear hcz135_2
            try clear hcz13_0
            try clear hcz13_1
            try clear hcz13_2
            try clear hcz144_0
            try clear hcz144_1
            try clear hcz144_2
            try clear hcz148_0
            try clear hcz148_1
            try clear hcz148_2
            try clear hcz154_0
            try clear hcz154_1
            try clear hcz154_2
            try clear hcz158_0
            try clear hcz158_1
            try clear hcz158_2
            try clear hcz15_0
            try clear hcz15_1
            try clear hcz15_2
            try clear hcz24_0
            try clear hcz24_1
            try clear hcz24_2
            try clear hcz27_0
            try clear hcz27_1
            try clear hcz27_2
            try clear hcz33_0
            try clear hcz33_1
            try clear hcz33_2
            try clear hcz42_0
            try clear hcz42_1
            try clear hcz42_2
            try clear hcz50_0
            try clear hcz50_1
            try clear hcz50_2
            try clear hcz53_0
            try clear hcz53_1
            try clear hcz53_2
            try clear hcz58_0
            try clear hcz58_1
            try clear hcz58_2
            try clear hcz5_0
            try clear hcz5_1
            try clear hcz5_2
            try clear hcz61_0
            try clear hcz61_1
            try clear hcz61_2
            try clear hcz78_0
            try clear hcz78_1
            try clear hcz78_2
            try clear hcz86_0
            try clear hcz86_1
            try clear hcz86_2
            try clear hcz89_0
            try clear hcz89_1
            try clear hcz89_2
            try clear hcz94_0
            try clear hcz94_1
            try clear hcz94_2
            try clear hcz97_0
            try clear hcz97_1
            try clear hcz97_2
            try clear hfz106_0
            try clear hfz106_1
            try clear hfz106_2
            try clear hfz108_0
            try clear hfz108_1
            try clear hfz108_2
            try clear hfz117_0
            try clear hfz117_1
            try clear hfz117_2
            try clear hfz119_0
            try clear hfz119_1
            try clear hfz119_2
            try clear hfz123_0
            try clear hfz123_1
            try clear hfz123_2
            try clear hfz135_0
            try clear hfz135_1
            try clear hfz135_2
            try clear hfz13_0
            try clear hfz13_1
            try clear hfz13_2
            try clear hfz144_0
            try clear hfz144_1
            try clear hfz144_2
            try clear hfz148_0
            try clear hfz148_1
            try clear hfz148_2
            try clear hfz154_0
            try clear hfz154_1
            try clear hfz154_2
            try clear hfz158_0
            try clear hfz158_1
            try clear hfz158_2
            try clear hfz15_0
            try clear hfz15_1
            try clear hfz15_2
            try clear hfz24_0
            try clear hfz24_1
            try clear hfz24_2
            try clear hfz27_0
            try clear hfz27_1
            try clear hfz27_2
            try clear hfz33_0
            try clear hfz33_1
            try clear hfz33_2
            try clear hfz42_0
            try clear hfz42_1
            try clear hfz42_2
            try clear hfz50_0
            try clear hfz50_1
            try clear hfz50_2
            try clear hfz53_0
            try clear hfz53_1
            try clear hfz53_2
            try clear hfz58_0
            try clear hfz58_1
            try clear hfz58_2
            try clear hfz5_0
            try clear hfz5_1
            try clear hfz5_2
            try clear hfz61_0
            try clear hfz61_1
            try clear hfz61_2
            try clear hfz78_0
            try clear hfz78_1
            try clear hfz78_2
            try clear hfz86_0
            try clear hfz86_1
            try clear hfz86_2
            try clear hfz89_0
            try clear hfz89_1
            try clear hfz89_2
            try clear hfz94_0
            try clear hfz94_1
            try clear hfz94_2
            try clear hfz97_0
            try clear hfz97_1
            try clear hfz97_2
            try clear p2
            obtain ⟨kq, x87_112, rfl, HA, HJ112, HO_254000, HO_254001, HO_254002, HO_264000, HO_264001, HO_264002, HO_275000, HO_275001, HO_275002, HO_316000, HO_316001, HO_316002, BK232, BK253, BK263, BK274, BK315, HB⟩ := hcut
            have hl275000_112 := (Kd.R_reads' HO_275000.out).1
            rw [hl275000_112] at HO_275000
            (try simp only [hl275000_112])
            (try simp only [hl275000_112] at BK232)
            (try simp only [hl275000_112] at BK253)
            (try simp only [hl275000_112] at BK263)
            (try simp only [hl275000_112] at BK274)
            (try simp only [hl275000_112] at BK315)
            (try simp only [hl275000_112] at HO_254000)
            (try simp only [hl275000_112] at HO_254001)
            (try simp only [hl275000_112] at HO_254002)
            (try simp only [hl275000_112] at HO_264000)
            (try simp only [hl275000_112] at HO_264001)
            (try simp only [hl275000_112] at HO_264002)
            (try simp only [hl275000_112] at HO_275001)
            (try simp only [hl275000_112] at HO_275002)
            (try simp only [hl275000_112] at HO_316000)
            (try simp only [hl275000_112] at HO_316001)
            (try simp only [hl275000_112] at HO_316002)
            have hl275001_112 := (Kd.R_reads' HO_275001.out).1
            rw [hl275001_112] at HO_275001
            (try simp only [hl275001_112])
            (try simp only [hl275001_112] at BK232)
            (try simp only [hl275001_112] at BK253)
            (try simp only [hl275001_112] at BK263)
            (try simp only [hl275001_112] at BK274)
            (try simp only [hl275001_112] at BK315)
            (try simp only [hl275001_112] at HO_254000)
            (try simp only [hl275001_112] at HO_254001)
            (try simp only [hl275001_112] at HO_254002)
            (try simp only [hl275001_112] at HO_264000)
            (try simp only [hl275001_112] at HO_264001)
            (try simp only [hl275001_112] at HO_264002)
            (try simp only [hl275001_112] at HO_275000)
            (try simp only [hl275001_112] at HO_275002)
            (try simp only [hl275001_112] at HO_316000)
            (try simp only [hl275001_112] at HO_316001)
            (try simp only [hl275001_112] at HO_316002)
            have hl275002_112 := (Kd.R_reads' HO_275002.out).1
            rw [hl275002_112] at HO_275002
            (try simp only [hl275002_112])
            (try simp only [hl275002_112] at BK232)
            (try simp only [hl275002_112] at BK253)
            (try simp only [hl275002_112] at BK263)
            (try simp only [hl275002_112] at BK274)
            (try simp only [hl275002_112] at BK315)
            (try simp only [hl275002_112] at HO_254000)
            (try simp only [hl275002_112] at HO_254001)
            (try simp only [hl275002_112] at HO_254002)
            (try simp only [hl275002_112] at HO_264000)
            (try simp only [hl275002_112] at HO_264001)
            (try simp only [hl275002_112] at HO_264002)
            (try simp only [hl275002_112] at HO_275000)
            (try simp only [hl275002_112] at HO_275001)
            (try simp only [hl275002_112] at HO_316000)
            (try simp only [hl275002_112] at HO_316001)
            (try simp only [hl275002_112] at HO_316002)
            cases kq with
            | zero => exact absurd HA.out (by simp [laws_FnExactBackwardMachine.j2])
            | succ kj112 =>
             have H := HA.out
             clear HA
             simp only [laws_FnExactBackwardMachine.j2] at H
             by_cases c160 : x87_112 = true
             ·subst c160
              have H1 : (some false) = some r := by rw [if_pos rfl] at H; exact H
              clear H
              have H := H1
              clear H1
              obtain rfl := Option.some.inj H
              go_wp2
              go_ret
              exact ⟨by first | rfl | (simp [errW_none, errW_some] <;> rfl) | (simp [*, errW_none, errW_some] <;> rfl), by repeat (first | (with_reducible first | exact HB.out | apply below_alloc | apply pw_below_drewN | apply below_drew1 | refine below_set ?_ GE232.out | refine below_set ?_ GE253.out | refine below_set ?_ GE263.out | refine below_set ?_ GE274.out | refine below_set ?_ GE315.out) | exact HB.out)⟩
             ·replace c160 := Bool.eq_false_iff.mpr c160
              subst c160
              have H1 : ((laws_heldMachine.f kj112 t292 t293 t294 1).bind fun t317 => (if t317 < 0 then (some false) else (if t317 = t291 then (some true) else (some false)))) = some r := by rw [if_neg (show ¬ (false = true) by decide)] at H; exact H
              clear H
              have H := H1
              clear H1
              replace H := Option.bind_eq_some_iff.mp H
              obtain ⟨t317, A1610, H⟩ := H
              replace H : (if t317 < 0 then (some false) else (if t317 = t291 then (some true) else (some false))) = some r := H
              have A161 := Aside0.mk A1610
              clear A1610
              by_cases c162 : t317 < 0
              ·rw [if_pos c162] at H
               have c162b0 : decide (t317 < 0) = true := decide_eq_true c162
               clear c162
               obtain rfl := Option.some.inj H
               have hnb163 := NB274_232.out
               have hnc163 := NB232_274.out
               have hnb164 := NB274_253.out
               have hnc164 := NB253_274.out
               have hnb165 := NB274_263.out
               have hnc165 := NB263_274.out
               have hnb166 := NB274_315.out
               have hnc166 := NB315_274.out
               have hcz167_0 : wc.cell? ⟨gb274, 0, none⟩ = some (.slice Ao38 t292.length co38) := (blk_cell BK274.out 0).trans rfl
               have hcz167_1 : wc.cell? ⟨gb274, 1, none⟩ = some (.slice Ao43 t293.length co43) := (blk_cell BK274.out 1).trans rfl
               have hcz167_2 : wc.cell? ⟨gb274, 2, none⟩ = some (.slice Ao44 t294.length co44) := (blk_cell BK274.out 2).trans rfl
               have hfz167_0 := blk_frozen BK274.out 0
               have hfz167_1 := blk_frozen BK274.out 1
               have hfz167_2 := blk_frozen BK274.out 2
               go_wp2_with (first | ((with_reducible refine gate_callee (f := 23) rfl ?_); refine goesL_ (some 90) rfl rfl Try.func23 (by kernel_rfl) rfl #[.agg #[.slice Ao38 t292.length co38, .slice Ao43 t293.length co43, .slice Ao44 t294.length co44], .int .i64 1] rfl a3_ ?_; (with_reducible refine (laws_heldMachine.calls kj112 _ _ t292 _ _ t293 _ _ t294 1 t317 _ ?side1 ?side2 ?side3 ?side4 ?side5 ?side6 A161.out).mono ?_); (case side1 => exact a97_); (case side2 => exact (Kd.R_reads' HO_275000.out).2.1); (case side3 => exact a98_); (case side4 => exact (Kd.R_reads' HO_275001.out).2.1); (case side5 => exact a99_); (case side6 => exact (Kd.R_reads' HO_275002.out).2.1); rintro e w168 ⟨rfl, hb⟩; refine ⟨_, rfl, ?_⟩; have n0_ := Aside0.mk (Kd.R_below a5_ hb); have n1_ := Aside0.mk (Kd.R_below a6_ hb); have n2_ := Aside0.mk (Kd.R_below a7_ hb); have n3_ := Aside0.mk (Kd.R_below a8_ hb); have n4_ := Aside0.mk (Kd.R_below a9_ hb); have n5_ := Aside0.mk (Kd.R_below a10_ hb); have n6_ := Aside0.mk (Kd.R_below a11_ hb); have n7_ := Aside0.mk (Kd.R_below a12_ hb); have n8_ := Aside0.mk (Kd.R_below a13_ hb); have n9_ := Aside0.mk (Kd.R_below a83_ hb); have n10_ := Aside0.mk (Kd.R_below a84_ hb); have n11_ := Aside0.mk (Kd.R_below a85_ hb); have n12_ := Aside0.mk (blk_below (g := gb232) a2_ hb); have n13_ := Aside0.mk (blk_below (g := gb253) a4_ hb); have n14_ := Aside0.mk (blk_below (g := gb263) a14_ hb); have n15_ := Aside0.mk (blk_below (g := gb274) a15_ hb); have n16_ := Aside0.mk (blk_below (g := gb315) a82_ hb); have n17_ := Aside0.mk (below_step a47_ hb); clear HO_254000; clear HO_254001; clear HO_254002; clear HO_264000; clear HO_264001; clear HO_264002; clear HO_275000; clear HO_275001; clear HO_275002; clear HO_316000; clear HO_316001; clear HO_316002; clear BK232; clear BK253; clear BK263; clear BK274; clear BK315; clear HB; have HO_254000 := n0_; have HO_254001 := n1_; have HO_254002 := n2_; have HO_264000 := n3_; have HO_264001 := n4_; have HO_264002 := n5_; have HO_275000 := n6_; have HO_275001 := n7_; have HO_275002 := n8_; have HO_316000 := n9_; have HO_316001 := n10_; have HO_316002 := n11_; have BK232 := n12_; have BK253 := n13_; have BK263 := n14_; have BK274 := n15_; have BK315 := n16_; have HB := n17_; clear n0_ n1_ n2_ n3_ n4_ n5_ n6_ n7_ n8_ n9_ n10_ n11_ n12_ n13_ n14_ n15_ n16_ n17_; (try clear hb); (try clear hb2); (try clear hk); (try clear hi)))
               go_ret
               exact ⟨by first | rfl | (simp [errW_none, errW_some] <;> rfl) | (simp [*, errW_none, errW_some] <;> rfl), by repeat (first | (with_reducible first | exact HB.out | apply below_alloc | apply pw_below_drewN | apply below_drew1 | refine below_set ?_ GE232.out | refine below_set ?_ GE253.out | refine below_set ?_ GE263.out | refine below_set ?_ GE274.out | refine below_set ?_ GE315.out) | exact HB.out)⟩
              ·rw [if_neg c162] at H
               have c162b0 : decide (t317 < 0) = false := decide_eq_false c162
               clear c162
               by_cases c169 : t317 = t291
               ·rw [if_pos c169] at H
                have c169b0 : (t317 == t291) = true := beq_iff_eq.mpr c169
                have c169b1 : (t317 != t291) = false := bne_eq_false_iff_eq.mpr c169
                clear c169
                obtain rfl := Option.some.inj H
                have hnb170 := NB274_232.out
                have hnc170 := NB232_274.out
                have hnb171 := NB274_253.out
                have hnc171 := NB253_274.out
                have hnb172 := NB274_263.out
                have hnc172 := NB263_274.out
                have hnb173 := NB274_315.out
                have hnc173 := NB315_274.out
                have hcz174_0 : wc.cell? ⟨gb274, 0, none⟩ = some (.slice Ao38 t292.length co38) := (blk_cell BK274.out 0).trans rfl
                have hcz174_1 : wc.cell? ⟨gb274, 1, none⟩ = some (.slice Ao43 t293.length co43) := (blk_cell BK274.out 1).trans rfl
                have hcz174_2 : wc.cell? ⟨gb274, 2, none⟩ = some (.slice Ao44 t294.length co44) := (blk_cell BK274.out 2).trans rfl
                have hfz174_0 := blk_frozen BK274.out 0
                have hfz174_1 := blk_frozen BK274.out 1
                have hfz174_2 := blk_frozen BK274.out 2
                go_wp2_with (first | ((with_reducible refine gate_callee (f := 23) rfl ?_); refine goesL_ (some 90) rfl rfl Try.func23 (by kernel_rfl) rfl #[.agg #[.slice Ao38 t292.length co38, .slice Ao43 t293.length co43, .slice Ao44 t294.length co44], .int .i64 1] rfl a3_ ?_; (with_reducible refine (laws_heldMachine.calls kj112 _ _ t292 _ _ t293 _ _ t294 1 t317 _ ?side1 ?side2 ?side3 ?side4 ?side5 ?side6 A161.out).mono ?_); (case side1 => exact a97_); (case side2 => exact (Kd.R_reads' HO_275000.out).2.1); (case side3 => exact a98_); (case side4 => exact (Kd.R_reads' HO_275001.out).2.1); (case side5 => exact a99_); (case side6 => exact (Kd.R_reads' HO_275002.out).2.1); rintro e w175 ⟨rfl, hb⟩; refine ⟨_, rfl, ?_⟩; have n0_ := Aside0.mk (Kd.R_below a5_ hb); have n1_ := Aside0.mk (Kd.R_below a6_ hb); have n2_ := Aside0.mk (Kd.R_below a7_ hb); have n3_ := Aside0.mk (Kd.R_below a8_ hb); have n4_ := Aside0.mk (Kd.R_below a9_ hb); have n5_ := Aside0.mk (Kd.R_below a10_ hb); have n6_ := Aside0.mk (Kd.R_below a11_ hb); have n7_ := Aside0.mk (Kd.R_below a12_ hb); have n8_ := Aside0.mk (Kd.R_below a13_ hb); have n9_ := Aside0.mk (Kd.R_below a83_ hb); have n10_ := Aside0.mk (Kd.R_below a84_ hb); have n11_ := Aside0.mk (Kd.R_below a85_ hb); have n12_ := Aside0.mk (blk_below (g := gb232) a2_ hb); have n13_ := Aside0.mk (blk_below (g := gb253) a4_ hb); have n14_ := Aside0.mk (blk_below (g := gb263) a14_ hb); have n15_ := Aside0.mk (blk_below (g := gb274) a15_ hb); have n16_ := Aside0.mk (blk_below (g := gb315) a82_ hb); have n17_ := Aside0.mk (below_step a47_ hb); clear HO_254000; clear HO_254001; clear HO_254002; clear HO_264000; clear HO_264001; clear HO_264002; clear HO_275000; clear HO_275001; clear HO_275002; clear HO_316000; clear HO_316001; clear HO_316002; clear BK232; clear BK253; clear BK263; clear BK274; clear BK315; clear HB; have HO_254000 := n0_; have HO_254001 := n1_; have HO_254002 := n2_; have HO_264000 := n3_; have HO_264001 := n4_; have HO_264002 := n5_; have HO_275000 := n6_; have HO_275001 := n7_; have HO_275002 := n8_; have HO_316000 := n9_; have HO_316001 := n10_; have HO_316002 := n11_; have BK232 := n12_; have BK253 := n13_; have BK263 := n14_; have BK274 := n15_; have BK315 := n16_; have HB := n17_; clear n0_ n1_ n2_ n3_ n4_ n5_ n6_ n7_ n8_ n9_ n10_ n11_ n12_ n13_ n14_ n15_ n16_ n17_; (try clear hb); (try clear hb2); (try clear hk); (try clear hi)))
                go_ret
                exact ⟨by first | rfl | (simp [errW_none, errW_some] <;> rfl) | (simp [*, errW_none, errW_some] <;> rfl), by repeat (first | (with_reducible first | exact HB.out | apply below_alloc | apply pw_below_drewN | apply below_drew1 | refine below_set ?_ GE232.out | refine below_set ?_ GE253.out | refine below_set ?_ GE263.out | refine below_set ?_ GE274.out | refine below_set ?_ GE315.out) | exact HB.out)⟩
               ·rw [if_neg c169] at H
                have c169b0 : (t317 == t291) = false := beq_eq_false_iff_ne.mpr c169
                have c169b1 : (t317 != t291) = true := bne_iff_ne.mpr c169
                obtain rfl := Option.some.inj H
                have hnb176 := NB274_232.out
                have hnc176 := NB232_274.out
                have hnb177 := NB274_253.out
                have hnc177 := NB253_274.out
                have hnb178 := NB274_263.out
                have hnc178 := NB263_274.out
                have hnb179 := NB274_315.out
                have hnc179 := NB315_274.out
                have hcz180_0 : wc.cell? ⟨gb274, 0, none⟩ = some (.slice Ao38 t292.length co38) := (blk_cell BK274.out 0).trans rfl
                have hcz180_1 : wc.cell? ⟨gb274, 1, none⟩ = some (.slice Ao43 t293.length co43) := (blk_cell BK274.out 1).trans rfl
                have hcz180_2 : wc.cell? ⟨gb274, 2, none⟩ = some (.slice Ao44 t294.length co44) := (blk_cell BK274.out 2).trans rfl
                have hfz180_0 := blk_frozen BK274.out 0
                have hfz180_1 := blk_frozen BK274.out 1
                have hfz180_2 := blk_frozen BK274.out 2
                go_wp2_with (first | ((with_reducible refine gate_callee (f := 23) rfl ?_); refine goesL_ (some 90) rfl rfl Try.func23 (by kernel_rfl) rfl #[.agg #[.slice Ao38 t292.length co38, .slice Ao43 t293.length co43, .slice Ao44 t294.length co44], .int .i64 1] rfl a3_ ?_; (with_reducible refine (laws_heldMachine.calls kj112 _ _ t292 _ _ t293 _ _ t294 1 t317 _ ?side1 ?side2 ?side3 ?side4 ?side5 ?side6 A161.out).mono ?_); (case side1 => exact a97_); (case side2 => exact (Kd.R_reads' HO_275000.out).2.1); (case side3 => exact a98_); (case side4 => exact (Kd.R_reads' HO_275001.out).2.1); (case side5 => exact a99_); (case side6 => exact (Kd.R_reads' HO_275002.out).2.1); rintro e w181 ⟨rfl, hb⟩; refine ⟨_, rfl, ?_⟩; have n0_ := Aside0.mk (Kd.R_below a5_ hb); have n1_ := Aside0.mk (Kd.R_below a6_ hb); have n2_ := Aside0.mk (Kd.R_below a7_ hb); have n3_ := Aside0.mk (Kd.R_below a8_ hb); have n4_ := Aside0.mk (Kd.R_below a9_ hb); have n5_ := Aside0.mk (Kd.R_below a10_ hb); have n6_ := Aside0.mk (Kd.R_below a11_ hb); have n7_ := Aside0.mk (Kd.R_below a12_ hb); have n8_ := Aside0.mk (Kd.R_below a13_ hb); have n9_ := Aside0.mk (Kd.R_below a83_ hb); have n10_ := Aside0.mk (Kd.R_below a84_ hb); have n11_ := Aside0.mk (Kd.R_below a85_ hb); have n12_ := Aside0.mk (blk_below (g := gb232) a2_ hb); have n13_ := Aside0.mk (blk_below (g := gb253) a4_ hb); have n14_ := Aside0.mk (blk_below (g := gb263) a14_ hb); have n15_ := Aside0.mk (blk_below (g := gb274) a15_ hb); have n16_ := Aside0.mk (blk_below (g := gb315) a82_ hb); have n17_ := Aside0.mk (below_step a47_ hb); clear HO_254000; clear HO_254001; clear HO_254002; clear HO_264000; clear HO_264001; clear HO_264002; clear HO_275000; clear HO_275001; clear HO_275002; clear HO_316000; clear HO_316001; clear HO_316002; clear BK232; clear BK253; clear BK263; clear BK274; clear BK315; clear HB; have HO_254000 := n0_; have HO_254001 := n1_; have HO_254002 := n2_; have HO_264000 := n3_; have HO_264001 := n4_; have HO_264002 := n5_; have HO_275000 := n6_; have HO_275001 := n7_; have HO_275002 := n8_; have HO_316000 := n9_; have HO_316001 := n10_; have HO_316002 := n11_; have BK232 := n12_; have BK253 := n13_; have BK263 := n14_; have BK274 := n15_; have BK315 := n16_; have HB := n17_; clear n0_ n1_ n2_ n3_ n4_ n5_ n6_ n7_ n8_ n9_ n10_ n11_ n12_ n13_ n14_ n15_ n16_ n17_; (try clear hb); (try clear hb2); (try clear hk); (try clear hi)))
                go_ret
                exact ⟨by first | rfl | (simp [errW_none, errW_some] <;> rfl) | (simp [*, errW_none, errW_some] <;> rfl), by repeat (first | (with_reducible first | exact HB.out | apply below_alloc | apply pw_below_drewN | apply below_drew1 | refine below_set ?_ GE232.out | refine below_set ?_ GE253.out | refine below_set ?_ GE263.out | refine below_set ?_ GE274.out | refine below_set ?_ GE315.out) | exact HB.out)⟩
          ·rw [if_neg c110] at H
           have c110b0 : (t295 == t291) = false := beq_eq_false_iff_ne.mpr c110
           have c110b1 : (t295 != t291) = true := bne_iff_ne.mpr c110
           obtain rfl := Option.some.inj H
           have hnb182 := NB274_232.out
           have hnc182 := NB232_274.out
           have hnb183 := NB274_253.out
           have hnc183 := NB253_274.out
           have hnb184 := NB274_263.out
           have hnc184 := NB263_274.out
           have hcz185_0 : wc.cell? ⟨gb274, 0, none⟩ = some (.slice Ao38 t264.length co38) := (blk_cell BK274.out 0).trans rfl
           have hcz185_1 : wc.cell? ⟨gb274, 1, none⟩ = some (.slice Ao43 t267.length co43) := (blk_cell BK274.out 1).trans rfl
           have hcz185_2 : wc.cell? ⟨gb274, 2, none⟩ = some (.slice Ao44 t270.length co44) := (blk_cell BK274.out 2).trans rfl
           have hfz185_0 := blk_frozen BK274.out 0
           have hfz185_1 := blk_frozen BK274.out 1
           have hfz185_2 := blk_frozen BK274.out 2
           go_wp2_with (first | ((with_reducible refine gate_callee (f := 22) rfl ?_); refine goesL_ (some 64) rfl rfl Try.func22 (by kernel_rfl) rfl #[.agg #[.slice Ao38 t264.length co38, .slice Ao43 t267.length co43, .slice Ao44 t270.length co44], .int .i64 1] rfl a3_ ?_; (with_reducible refine (laws_markMachine.calls kj67 (fun k_ => some k_ = (.slice Ao38 t264.length co38 : Value).ownBlock) (.slice Ao38 t264.length co38) t264 (fun k_ => some k_ = (.slice Ao43 t267.length co43 : Value).ownBlock) (.slice Ao43 t267.length co43) t267 (fun k_ => some k_ = (.slice Ao44 t270.length co44 : Value).ownBlock) (.slice Ao44 t270.length co44) t270 1 t291 t292 t293 t294 w _ ?side1 ?side2 ?side3 ?side4 ?side5 ?side6 ?side7 ?side8 ?side9 ?side10 A100.out).mono ?_); (case side1 => exact a109_); (case side2 => exact Kd.R_tight rfl HO_275000.out); (case side3 => exact a129_); (case side4 => exact a130_); (case side5 => exact Kd.R_tight rfl HO_275001.out); (case side6 => exact a131_); (case side7 => exact a132_); (case side8 => exact Kd.R_tight rfl HO_275002.out); (case side9 => exact a133_); (case side10 => exact a134_); rintro e w186 ⟨rfl, hy0, hy1, hy2, hb, hkp⟩; refine ⟨_, rfl, ?_⟩; have n0_ := Aside0.mk (Kd.R_mono (ok' := fun k_ => nbk k_ Ao25 t246.length co25 ∧ nbk k_ Ao26 t249.length co26 ∧ nbk k_ Ao30 t287.length co30 ∧ nbk k_ Ao34 t288.length co34 ∧ nbk k_ Ao35 t289.length co35 ∧ nbk k_ Ao38 t264.length co38 ∧ nbk k_ Ao43 t267.length co43 ∧ nbk k_ Ao44 t270.length co44) (Kd.R_keptB (HO_254000.out) hkp (fun k_ hk_ hs_ => Or.elim hs_ (fun e_ => (hk_.2.2.2.2.2.1) e_) (fun e_ => Or.elim e_ (fun e_ => (hk_.2.2.2.2.2.2.1) e_) (fun e_ => (hk_.2.2.2.2.2.2.2) e_)))) (fun k_ hk_ => ⟨hk_.1.1, hk_.1.2.1, hk_.1.2.2.1, hk_.1.2.2.2.1, hk_.1.2.2.2.2.1, hk_.1.2.2.2.2.2.1, hk_.1.2.2.2.2.2.2.1, hk_.1.2.2.2.2.2.2.2⟩)); have n1_ := Aside0.mk (Kd.R_mono (ok' := fun k_ => nbk k_ Ao22 t243.length co22 ∧ nbk k_ Ao26 t249.length co26 ∧ nbk k_ Ao30 t287.length co30 ∧ nbk k_ Ao34 t288.length co34 ∧ nbk k_ Ao35 t289.length co35 ∧ nbk k_ Ao38 t264.length co38 ∧ nbk k_ Ao43 t267.length co43 ∧ nbk k_ Ao44 t270.length co44) (Kd.R_keptB (HO_254001.out) hkp (fun k_ hk_ hs_ => Or.elim hs_ (fun e_ => (hk_.2.2.2.2.2.1) e_) (fun e_ => Or.elim e_ (fun e_ => (hk_.2.2.2.2.2.2.1) e_) (fun e_ => (hk_.2.2.2.2.2.2.2) e_)))) (fun k_ hk_ => ⟨hk_.1.1, hk_.1.2.1, hk_.1.2.2.1, hk_.1.2.2.2.1, hk_.1.2.2.2.2.1, hk_.1.2.2.2.2.2.1, hk_.1.2.2.2.2.2.2.1, hk_.1.2.2.2.2.2.2.2⟩)); have n2_ := Aside0.mk (Kd.R_mono (ok' := fun k_ => nbk k_ Ao22 t243.length co22 ∧ nbk k_ Ao25 t246.length co25 ∧ nbk k_ Ao30 t287.length co30 ∧ nbk k_ Ao34 t288.length co34 ∧ nbk k_ Ao35 t289.length co35 ∧ nbk k_ Ao38 t264.length co38 ∧ nbk k_ Ao43 t267.length co43 ∧ nbk k_ Ao44 t270.length co44) (Kd.R_keptB (HO_254002.out) hkp (fun k_ hk_ hs_ => Or.elim hs_ (fun e_ => (hk_.2.2.2.2.2.1) e_) (fun e_ => Or.elim e_ (fun e_ => (hk_.2.2.2.2.2.2.1) e_) (fun e_ => (hk_.2.2.2.2.2.2.2) e_)))) (fun k_ hk_ => ⟨hk_.1.1, hk_.1.2.1, hk_.1.2.2.1, hk_.1.2.2.2.1, hk_.1.2.2.2.2.1, hk_.1.2.2.2.2.2.1, hk_.1.2.2.2.2.2.2.1, hk_.1.2.2.2.2.2.2.2⟩)); have n3_ := Aside0.mk (Kd.R_mono (ok' := fun k_ => nbk k_ Ao22 t243.length co22 ∧ nbk k_ Ao25 t246.length co25 ∧ nbk k_ Ao26 t249.length co26 ∧ nbk k_ Ao34 t288.length co34 ∧ nbk k_ Ao35 t289.length co35 ∧ nbk k_ Ao38 t264.length co38 ∧ nbk k_ Ao43 t267.length co43 ∧ nbk k_ Ao44 t270.length co44) (Kd.R_keptB (HO_264000.out) hkp (fun k_ hk_ hs_ => Or.elim hs_ (fun e_ => (hk_.2.2.2.2.2.1) e_) (fun e_ => Or.elim e_ (fun e_ => (hk_.2.2.2.2.2.2.1) e_) (fun e_ => (hk_.2.2.2.2.2.2.2) e_)))) (fun k_ hk_ => ⟨hk_.1.1, hk_.1.2.1, hk_.1.2.2.1, hk_.1.2.2.2.1, hk_.1.2.2.2.2.1, hk_.1.2.2.2.2.2.1, hk_.1.2.2.2.2.2.2.1, hk_.1.2.2.2.2.2.2.2⟩)); have n4_ := Aside0.mk (Kd.R_mono (ok' := fun k_ => nbk k_ Ao22 t243.length co22 ∧ nbk k_ Ao25 t246.length co25 ∧ nbk k_ Ao26 t249.length co26 ∧ nbk k_ Ao30 t287.length co30 ∧ nbk k_ Ao35 t289.length co35 ∧ nbk k_ Ao38 t264.length co38 ∧ nbk k_ Ao43 t267.length co43 ∧ nbk k_ Ao44 t270.length co44) (Kd.R_keptB (HO_264001.out) hkp (fun k_ hk_ hs_ => Or.elim hs_ (fun e_ => (hk_.2.2.2.2.2.1) e_) (fun e_ => Or.elim e_ (fun e_ => (hk_.2.2.2.2.2.2.1) e_) (fun e_ => (hk_.2.2.2.2.2.2.2) e_)))) (fun k_ hk_ => ⟨hk_.1.1, hk_.1.2.1, hk_.1.2.2.1, hk_.1.2.2.2.1, hk_.1.2.2.2.2.1, hk_.1.2.2.2.2.2.1, hk_.1.2.2.2.2.2.2.1, hk_.1.2.2.2.2.2.2.2⟩)); have n5_ := Aside0.mk (Kd.R_mono (ok' := fun k_ => nbk k_ Ao22 t243.length co22 ∧ nbk k_ Ao25 t246.length co25 ∧ nbk k_ Ao26 t249.length co26 ∧ nbk k_ Ao30 t287.length co30 ∧ nbk k_ Ao34 t288.length co34 ∧ nbk k_ Ao38 t264.length co38 ∧ nbk k_ Ao43 t267.length co43 ∧ nbk k_ Ao44 t270.length co44) (Kd.R_keptB (HO_264002.out) hkp (fun k_ hk_ hs_ => Or.elim hs_ (fun e_ => (hk_.2.2.2.2.2.1) e_) (fun e_ => Or.elim e_ (fun e_ => (hk_.2.2.2.2.2.2.1) e_) (fun e_ => (hk_.2.2.2.2.2.2.2) e_)))) (fun k_ hk_ => ⟨hk_.1.1, hk_.1.2.1, hk_.1.2.2.1, hk_.1.2.2.2.1, hk_.1.2.2.2.2.1, hk_.1.2.2.2.2.2.1, hk_.1.2.2.2.2.2.2.1, hk_.1.2.2.2.2.2.2.2⟩)); have n6_ := Aside0.mk (Kd.R_reok rfl hy0 (fun k_ e_ => HO_275000.out.1 k_ e_)); have n7_ := Aside0.mk (Kd.R_reok rfl hy1 (fun k_ e_ => HO_275001.out.1 k_ e_)); have n8_ := Aside0.mk (Kd.R_reok rfl hy2 (fun k_ e_ => HO_275002.out.1 k_ e_)); have n9_ := Aside0.mk (blk_kept a2_ hkp (fun hs_ => Or.elim hs_ (fun e_ => (fun e_ => (Kd.R_ne HO_275000.out BK232.out (by decide)) e_) e_) (fun e_ => Or.elim e_ (fun e_ => (fun e_ => (Kd.R_ne HO_275001.out BK232.out (by decide)) e_) e_) (fun e_ => (fun e_ => (Kd.R_ne HO_275002.out BK232.out (by decide)) e_) e_)))); have n10_ := Aside0.mk (blk_kept a4_ hkp (fun hs_ => Or.elim hs_ (fun e_ => (fun e_ => (Kd.R_ne HO_275000.out BK253.out (by decide)) e_) e_) (fun e_ => Or.elim e_ (fun e_ => (fun e_ => (Kd.R_ne HO_275001.out BK253.out (by decide)) e_) e_) (fun e_ => (fun e_ => (Kd.R_ne HO_275002.out BK253.out (by decide)) e_) e_)))); have n11_ := Aside0.mk (blk_kept a14_ hkp (fun hs_ => Or.elim hs_ (fun e_ => (fun e_ => (Kd.R_ne HO_275000.out BK263.out (by decide)) e_) e_) (fun e_ => Or.elim e_ (fun e_ => (fun e_ => (Kd.R_ne HO_275001.out BK263.out (by decide)) e_) e_) (fun e_ => (fun e_ => (Kd.R_ne HO_275002.out BK263.out (by decide)) e_) e_)))); have n12_ := Aside0.mk (blk_kept a15_ hkp (fun hs_ => Or.elim hs_ (fun e_ => (fun e_ => (Kd.R_ne HO_275000.out BK274.out (by decide)) e_) e_) (fun e_ => Or.elim e_ (fun e_ => (fun e_ => (Kd.R_ne HO_275001.out BK274.out (by decide)) e_) e_) (fun e_ => (fun e_ => (Kd.R_ne HO_275002.out BK274.out (by decide)) e_) e_)))); have n13_ := Aside0.mk (hb); clear HO_254000; clear HO_254001; clear HO_254002; clear HO_264000; clear HO_264001; clear HO_264002; clear HO_275000; clear HO_275001; clear HO_275002; clear BK232; clear BK253; clear BK263; clear BK274; clear HB; have HO_254000 := n0_; have HO_254001 := n1_; have HO_254002 := n2_; have HO_264000 := n3_; have HO_264001 := n4_; have HO_264002 := n5_; have HO_275000 := n6_; have HO_275001 := n7_; have HO_275002 := n8_; have BK232 := n9_; have BK253 := n10_; have BK263 := n11_; have BK274 := n12_; have HB := n13_; clear n0_ n1_ n2_ n3_ n4_ n5_ n6_ n7_ n8_ n9_ n10_ n11_ n12_ n13_; (try clear hb); (try clear hkp); (try clear hy0); (try clear hy1); (try clear hy2); have hcz187_0 : w186.cell? ⟨gb274, 0, none⟩ = some (.slice Ao38 t264.length co38) := (blk_cell BK274.out 0).trans rfl; have hcz187_1 : w186.cell? ⟨gb274, 1, none⟩ = some (.slice Ao43 t267.length co43) := (blk_cell BK274.out 1).trans rfl; have hcz187_2 : w186.cell? ⟨gb274, 2, none⟩ = some (.slice Ao44 t270.length co44) := (blk_cell BK274.out 2).trans rfl; have hfz187_0 := blk_frozen BK274.out 0; have hfz187_1 := blk_frozen BK274.out 1; have hfz187_2 := blk_frozen BK274.out 2) | ((with_reducible refine gate_callee (f := 23) rfl ?_); refine goesL_ (some 67) rfl rfl Try.func23 (by kernel_rfl) rfl #[.agg #[.slice Ao38 t292.length co38, .slice Ao43 t293.length co43, .slice Ao44 t294.length co44], .int .i64 1] rfl a49_ ?_; (with_reducible refine (laws_heldMachine.calls kj67 _ _ t292 _ _ t293 _ _ t294 1 t295 _ ?side1 ?side2 ?side3 ?side4 ?side5 ?side6 A101.out).mono ?_); (case side1 => exact a97_); (case side2 => exact a125_); (case side3 => exact a98_); (case side4 => exact a126_); (case side5 => exact a99_); (case side6 => exact a127_); rintro e w188 ⟨rfl, hb⟩; refine ⟨_, rfl, ?_⟩; have n0_ := Aside0.mk (Kd.R_below a5_ hb); have n1_ := Aside0.mk (Kd.R_below a6_ hb); have n2_ := Aside0.mk (Kd.R_below a7_ hb); have n3_ := Aside0.mk (Kd.R_below a8_ hb); have n4_ := Aside0.mk (Kd.R_below a9_ hb); have n5_ := Aside0.mk (Kd.R_below a10_ hb); have n6_ := Aside0.mk (Kd.R_below a11_ hb); have n7_ := Aside0.mk (Kd.R_below a12_ hb); have n8_ := Aside0.mk (Kd.R_below a13_ hb); have n9_ := Aside0.mk (blk_below (g := gb232) a2_ hb); have n10_ := Aside0.mk (blk_below (g := gb253) a4_ hb); have n11_ := Aside0.mk (blk_below (g := gb263) a14_ hb); have n12_ := Aside0.mk (blk_below (g := gb274) a15_ hb); have n13_ := Aside0.mk (below_step a1_ hb); clear HO_254000; clear HO_254001; clear HO_254002; clear HO_264000; clear HO_264001; clear HO_264002; clear HO_275000; clear HO_275001; clear HO_275002; clear BK232; clear BK253; clear BK263; clear BK274; clear HB; have HO_254000 := n0_; have HO_254001 := n1_; have HO_254002 := n2_; have HO_264000 := n3_; have HO_264001 := n4_; have HO_264002 := n5_; have HO_275000 := n6_; have HO_275001 := n7_; have HO_275002 := n8_; have BK232 := n9_; have BK253 := n10_; have BK263 := n11_; have BK274 := n12_; have HB := n13_; clear n0_ n1_ n2_ n3_ n4_ n5_ n6_ n7_ n8_ n9_ n10_ n11_ n12_ n13_; (try clear hb); (try clear hb2); (try clear hk); (try clear hi)))
           go_ret
           exact ⟨by first | rfl | (simp [errW_none, errW_some] <;> rfl) | (simp [*, errW_none, errW_some] <;> rfl), by repeat (first | (with_reducible first | exact HB.out | apply below_alloc | apply pw_below_drewN | apply below_drew1 | refine below_set ?_ GE232.out | refine below_set ?_ GE253.out | refine below_set ?_ GE263.out | refine below_set ?_ GE274.out) | exact HB.out)⟩
     ·replace c66 := Bool.eq_false_iff.mpr c66
      subst c66
      have H1 : (some false) = some r := by rw [if_neg (show ¬ (false = true) by decide)] at H; exact H
      clear H
      have H := H1
      clear H1
      obtain rfl := Option.some.inj H
      try go_wp2
      have n0_ := Aside0.mk (Kd.R_drew HO_254000.out)
      have n1_ := Aside0.mk (Kd.R_drew HO_254001.out)
      have n2_ := Aside0.mk (Kd.R_drew HO_254002.out)
      have n3_ := Aside0.mk (Kd.R_drew HO_264000.out)
      have n4_ := Aside0.mk (Kd.R_drew HO_264001.out)
      have n5_ := Aside0.mk (Kd.R_drew HO_264002.out)
      have n6_ := Aside0.mk (Kd.R_drew HO_275000.out)
      have n7_ := Aside0.mk (Kd.R_drew HO_275001.out)
      have n8_ := Aside0.mk (Kd.R_drew HO_275002.out)
      have n9_ := Aside0.mk (blk_drew BK232.out)
      have n10_ := Aside0.mk (blk_drew BK253.out)
      have n11_ := Aside0.mk (blk_drew BK263.out)
      have n12_ := Aside0.mk (blk_drew BK274.out)
      have n13_ := Aside0.mk (below_drew1 HB.out)
      clear HO_254000 HO_254001 HO_254002 HO_264000 HO_264001 HO_264002 HO_275000 HO_275001 HO_275002 BK232 BK253 BK263 BK274 HB; have HO_254000 := n0_; have HO_254001 := n1_; have HO_254002 := n2_; have HO_264000 := n3_; have HO_264001 := n4_; have HO_264002 := n5_; have HO_275000 := n6_; have HO_275001 := n7_; have HO_275002 := n8_; have BK232 := n9_; have BK253 := n10_; have BK263 := n11_; have BK274 := n12_; have HB := n13_; clear n0_ n1_ n2_ n3_ n4_ n5_ n6_ n7_ n8_ n9_ n10_ n11_ n12_ n13_
      refine start_ (n := 5) (S := fun w' => w'.cell? ⟨gb263, 0, none⟩ = some (.slice Ao30 t254.length co30) ∧ w'.cell? ⟨gb263, 1, none⟩ = some (.slice Ao34 t257.length co34) ∧ w'.cell? ⟨gb263, 2, none⟩ = some (.slice Ao35 t260.length co35) ∧ w'.cell? ⟨gb232, 0, none⟩ = some (.slice A0_0 l0_0.length c0_0) ∧ w'.cell? ⟨gb232, 1, none⟩ = some (.slice A0_1 l0_1.length c0_1) ∧ w'.cell? ⟨gb232, 2, none⟩ = some (.slice A0_2 l0_2.length c0_2)) (ds := []) #[false, false, false, false, false] (by kernel_rfl) rfl rfl ⟨(blk_cell BK263.out 0).trans rfl, (blk_cell BK263.out 1).trans rfl, (blk_cell BK263.out 2).trans rfl, (blk_cell BK232.out 0).trans rfl, (blk_cell BK232.out 1).trans rfl, (blk_cell BK232.out 2).trans rfl⟩ (fun hHeld => ?_)
      generalize wc.drew = w189 at HO_254000 HO_254001 HO_254002 HO_264000 HO_264001 HO_264002 HO_275000 HO_275001 HO_275002 BK232 BK253 BK263 BK274 HB hHeld ⊢
      refine take_ (i := 0) (N := some 41) (v := ?_) (a' := ?_) #[true, false, false, false, false] rfl rfl (by kernel_rfl) (fun _ _ _ h => h) (Or.inl ⟨by rfl, ?_⟩) hHeld ?_ ?_
      rotate_left
      ·rintro w' ⟨s0, s1, s2, s3, s4, s5⟩
       go_simp; with_reducible rfl
      rotate_left
      ·simp only [Act.put, List.setIfInBounds_toArray, List.set_cons_zero, List.set_cons_succ, i64_w, i32_w]
       rfl
      refine take_ (i := 1) (N := some 42) (v := ?_) (a' := ?_) #[true, true, false, false, false] rfl rfl (by kernel_rfl) (fun _ _ _ h => h) (Or.inl ⟨by rfl, ?_⟩) hHeld ?_ ?_
      rotate_left
      ·rintro w' ⟨s0, s1, s2, s3, s4, s5⟩
       go_simp; with_reducible rfl
      rotate_left
      ·simp only [Act.put, List.setIfInBounds_toArray, List.set_cons_zero, List.set_cons_succ, i64_w, i32_w]
       rfl
      refine one_ (i := 2) (N := some 43) #[true, true, true, false, false] rfl rfl (by kernel_rfl) (by decide) (fun K hK => ?_)
      refine goes_ Try.func17 (by kernel_rfl) rfl #[.agg #[.slice A0_0 l0_0.length c0_0, .slice A0_1 l0_1.length c0_1, .slice A0_2 l0_2.length c0_2]] (by rfl) rfl rfl a3_ ?_
      with_reducible refine (laws_toMachine.calls kj10 _ _ l0_0 _ _ l0_1 _ _ l0_2 t276 t279 t282 _ ?side1 ?side2 ?side3 ?side4 ?side5 ?side6 A64.out).mono ?_
      (case side1 => exact a106_); (case side2 => exact HC0_0.out); (case side3 => exact a107_); (case side4 => exact HC0_1.out); (case side5 => exact a108_); (case side6 => exact HC0_2.out)
      rintro e w190 ⟨v277, v280, v283, rfl, ho0, ho1, ho2, hb⟩
      refine ⟨_, rfl, ?_⟩
      have n0_ := Aside0.mk (Kd.R_mono (Kd.R_told (Kd.R_told (Kd.R_told (Kd.R_old a5_ hb) (Kd.R_base ho0)) (Kd.R_base ho1)) (Kd.R_base ho2)) (fun _ h_ => h_.1))
      have n1_ := Aside0.mk (Kd.R_mono (Kd.R_told (Kd.R_told (Kd.R_told (Kd.R_old a6_ hb) (Kd.R_base ho0)) (Kd.R_base ho1)) (Kd.R_base ho2)) (fun _ h_ => h_.1))
      have n2_ := Aside0.mk (Kd.R_mono (Kd.R_told (Kd.R_told (Kd.R_told (Kd.R_old a7_ hb) (Kd.R_base ho0)) (Kd.R_base ho1)) (Kd.R_base ho2)) (fun _ h_ => h_.1))
      have n3_ := Aside0.mk (Kd.R_mono (Kd.R_told (Kd.R_told (Kd.R_told (Kd.R_old a8_ hb) (Kd.R_base ho0)) (Kd.R_base ho1)) (Kd.R_base ho2)) (fun _ h_ => h_.1))
      have n4_ := Aside0.mk (Kd.R_mono (Kd.R_told (Kd.R_told (Kd.R_told (Kd.R_old a9_ hb) (Kd.R_base ho0)) (Kd.R_base ho1)) (Kd.R_base ho2)) (fun _ h_ => h_.1))
      have n5_ := Aside0.mk (Kd.R_mono (Kd.R_told (Kd.R_told (Kd.R_told (Kd.R_old a10_ hb) (Kd.R_base ho0)) (Kd.R_base ho1)) (Kd.R_base ho2)) (fun _ h_ => h_.1))
      have n6_ := Aside0.mk (Kd.R_mono (Kd.R_told (Kd.R_told (Kd.R_told (Kd.R_old a11_ hb) (Kd.R_base ho0)) (Kd.R_base ho1)) (Kd.R_base ho2)) (fun _ h_ => h_.1))
      have n7_ := Aside0.mk (Kd.R_mono (Kd.R_told (Kd.R_told (Kd.R_told (Kd.R_old a12_ hb) (Kd.R_base ho0)) (Kd.R_base ho1)) (Kd.R_base ho2)) (fun _ h_ => h_.1))
      have n8_ := Aside0.mk (Kd.R_mono (Kd.R_told (Kd.R_told (Kd.R_told (Kd.R_old a13_ hb) (Kd.R_base ho0)) (Kd.R_base ho1)) (Kd.R_base ho2)) (fun _ h_ => h_.1))
      have n9_ := Aside0.mk (Kd.R_lower (Kd.R_new' (Kd.R_new' (Kd.R_new' (Kd.R_new' (Kd.R_new' (Kd.R_new' (Kd.R_new' (Kd.R_new' (Kd.R_new' ho0 (Kd.R_lt a5_)) (Kd.R_lt a6_)) (Kd.R_lt a7_)) (Kd.R_lt a8_)) (Kd.R_lt a9_)) (Kd.R_lt a10_)) (Kd.R_lt a11_)) (Kd.R_lt a12_)) (Kd.R_lt a13_)) (below_size a1_))
      have n10_ := Aside0.mk (Kd.R_lower (Kd.R_new' (Kd.R_new' (Kd.R_new' (Kd.R_new' (Kd.R_new' (Kd.R_new' (Kd.R_new' (Kd.R_new' (Kd.R_new' ho1 (Kd.R_lt a5_)) (Kd.R_lt a6_)) (Kd.R_lt a7_)) (Kd.R_lt a8_)) (Kd.R_lt a9_)) (Kd.R_lt a10_)) (Kd.R_lt a11_)) (Kd.R_lt a12_)) (Kd.R_lt a13_)) (below_size a1_))
      have n11_ := Aside0.mk (Kd.R_lower (Kd.R_new' (Kd.R_new' (Kd.R_new' (Kd.R_new' (Kd.R_new' (Kd.R_new' (Kd.R_new' (Kd.R_new' (Kd.R_new' ho2 (Kd.R_lt a5_)) (Kd.R_lt a6_)) (Kd.R_lt a7_)) (Kd.R_lt a8_)) (Kd.R_lt a9_)) (Kd.R_lt a10_)) (Kd.R_lt a11_)) (Kd.R_lt a12_)) (Kd.R_lt a13_)) (below_size a1_))
      have n12_ := Aside0.mk (blk_below (g := gb232) a2_ hb)
      have n13_ := Aside0.mk (blk_below (g := gb253) a4_ hb)
      have n14_ := Aside0.mk (blk_below (g := gb263) a14_ hb)
      have n15_ := Aside0.mk (blk_below (g := gb274) a15_ hb)
      have n16_ := Aside0.mk (below_step a1_ hb)
      clear HO_254000 HO_254001 HO_254002 HO_264000 HO_264001 HO_264002 HO_275000 HO_275001 HO_275002 BK232 BK253 BK263 BK274 HB; have HO_254000 := n0_; have HO_254001 := n1_; have HO_254002 := n2_; have HO_264000 := n3_; have HO_264001 := n4_; have HO_264002 := n5_; have HO_275000 := n6_; have HO_275001 := n7_; have HO_275002 := n8_; have HO278 := n9_; have HO281 := n10_; have HO284 := n11_; have BK232 := n12_; have BK253 := n13_; have BK263 := n14_; have BK274 := n15_; have HB := n16_; clear n0_ n1_ n2_ n3_ n4_ n5_ n6_ n7_ n8_ n9_ n10_ n11_ n12_ n13_ n14_ n15_ n16_; (try clear hb); (try clear hb2); (try clear hk); (try clear hi); (try clear ho0); (try clear ho1); (try clear ho2)
      obtain ⟨Ao191, co191, eo191⟩ := Kd.R_slice HO278.out
      (first | subst eo191 | (injection eo191 with f1_ f2_ f3_; have f4_ := f1_.symm; have f5_ := f3_.symm; clear f1_ f2_ f3_; subst f4_; subst f5_))
      obtain ⟨Ao192, co192, eo192⟩ := Kd.R_slice HO281.out
      (first | subst eo192 | (injection eo192 with f1_ f2_ f3_; have f4_ := f1_.symm; have f5_ := f3_.symm; clear f1_ f2_ f3_; subst f4_; subst f5_))
      obtain ⟨Ao193, co193, eo193⟩ := Kd.R_slice HO284.out
      (first | subst eo193 | (injection eo193 with f1_ f2_ f3_; have f4_ := f1_.symm; have f5_ := f3_.symm; clear f1_ f2_ f3_; subst f4_; subst f5_))
      refine hK.out _ _ ⟨(blk_cell BK263.out 0).trans rfl, (blk_cell BK263.out 1).trans rfl, (blk_cell BK263.out 2).trans rfl, (blk_cell BK232.out 0).trans rfl, (blk_cell BK232.out 1).trans rfl, (blk_cell BK232.out 2).trans rfl⟩ (fun hHeld => ?_)
      clear hK K; refine norm_ (a' := ?_) ?_ ?_; rotate_left
      ·show Act.put _ (some 43) _ = _
       simp only [Act.put, List.setIfInBounds_toArray, List.set_cons_zero, List.set_cons_succ, i64_w, i32_w]
       rfl
      refine one_ (i := 3) (N := some 44) #[true, true, true, true, false] rfl rfl (by kernel_rfl) (by decide) (fun K hK => ?_)
      refine goes_ Try.func19 (by kernel_rfl) rfl #[.agg #[.slice Ao30 t254.length co30, .slice Ao34 t257.length co34, .slice Ao35 t260.length co35], .agg #[.slice Ao191 t276.length co191, .slice Ao192 t279.length co192, .slice Ao193 t282.length co193]] (by rfl) rfl rfl a3_ ?_
      with_reducible refine (laws_eqMachine.calls kj10 _ _ t254 _ _ t257 _ _ t260 _ _ t276 _ _ t279 _ _ t282 false _ ?side1 ?side2 ?side3 ?side4 ?side5 ?side6 ?side7 ?side8 ?side9 ?side10 ?side11 ?side12 A65.out).mono ?_
      (case side1 => exact a116_)
      (case side2 => exact (Kd.R_reads' HO_264000.out).2.1)
      (case side3 => exact a117_)
      (case side4 => exact (Kd.R_reads' HO_264001.out).2.1)
      (case side5 => exact a118_)
      (case side6 => exact (Kd.R_reads' HO_264002.out).2.1)
      (case side7 => exact a122_)
      (case side8 => exact (Kd.R_reads' HO278.out).2.1)
      (case side9 => exact a123_)
      (case side10 => exact (Kd.R_reads' HO281.out).2.1)
      (case side11 => exact a124_)
      (case side12 => exact (Kd.R_reads' HO284.out).2.1)
      rintro e w194 ⟨rfl, hb⟩
      refine ⟨_, rfl, ?_⟩
      have n0_ := Aside0.mk (Kd.R_below a5_ hb)
      have n1_ := Aside0.mk (Kd.R_below a6_ hb)
      have n2_ := Aside0.mk (Kd.R_below a7_ hb)
      have n3_ := Aside0.mk (Kd.R_below a8_ hb)
      have n4_ := Aside0.mk (Kd.R_below a9_ hb)
      have n5_ := Aside0.mk (Kd.R_below a10_ hb)
      have n6_ := Aside0.mk (Kd.R_below a11_ hb)
      have n7_ := Aside0.mk (Kd.R_below a12_ hb)
      have n8_ := Aside0.mk (Kd.R_below a13_ hb)
      have n9_ := Aside0.mk (Kd.R_below a79_ hb)
      have n10_ := Aside0.mk (Kd.R_below a80_ hb)
      have n11_ := Aside0.mk (Kd.R_below a81_ hb)
      have n12_ := Aside0.mk (blk_below (g := gb232) a2_ hb)
      have n13_ := Aside0.mk (blk_below (g := gb253) a4_ hb)
      have n14_ := Aside0.mk (blk_below (g := gb263) a14_ hb)
      have n15_ := Aside0.mk (blk_below (g := gb274) a15_ hb)
      have n16_ := Aside0.mk (below_step a1_ hb)
      clear HO_254000 HO_254001 HO_254002 HO_264000 HO_264001 HO_264002 HO_275000 HO_275001 HO_275002 HO278 HO281 HO284 BK232 BK253 BK263 BK274 HB; have HO_254000 := n0_; have HO_254001 := n1_; have HO_254002 := n2_; have HO_264000 := n3_; have HO_264001 := n4_; have HO_264002 := n5_; have HO_275000 := n6_; have HO_275001 := n7_; have HO_275002 := n8_; have HO278 := n9_; have HO281 := n10_; have HO284 := n11_; have BK232 := n12_; have BK253 := n13_; have BK263 := n14_; have BK274 := n15_; have HB := n16_; clear n0_ n1_ n2_ n3_ n4_ n5_ n6_ n7_ n8_ n9_ n10_ n11_ n12_ n13_ n14_ n15_ n16_; (try clear hb); (try clear hb2); (try clear hk); (try clear hi)
      refine hK.out _ _ ⟨(blk_cell BK263.out 0).trans rfl, (blk_cell BK263.out 1).trans rfl, (blk_cell BK263.out 2).trans rfl, (blk_cell BK232.out 0).trans rfl, (blk_cell BK232.out 1).trans rfl, (blk_cell BK232.out 2).trans rfl⟩ (fun hHeld => ?_)
      clear hK K; refine norm_ (a' := ?_) ?_ ?_; rotate_left
      ·show Act.put _ (some 44) _ = _
       simp only [Act.put, List.setIfInBounds_toArray, List.set_cons_zero, List.set_cons_succ, i64_w, i32_w]
       rfl
      refine pure_ (i := 4) (N := some 45) (v := ?_) (a' := ?_) #[true, true, true, true, true] rfl rfl (by kernel_rfl) (fun _ _ _ h => h) (Or.inl ⟨by rfl, ?_⟩) ?_ ?_
      rotate_left
      ·intro w'
       go_simp; with_reducible rfl
      rotate_left
      ·simp only [Act.put, List.setIfInBounds_toArray, List.set_cons_zero, List.set_cons_succ, i64_w, i32_w]
       rfl
      refine done_ (by kernel_rfl) ?_
      try go_wp2
      go_ret
      exact ⟨by first | rfl | (simp [errW_none, errW_some] <;> rfl) | (simp [*, errW_none, errW_some] <;> rfl), by repeat (first | (with_reducible first | exact HB.out | apply below_alloc | apply pw_below_drewN | apply below_drew1 | refine below_set ?_ GE232.out | refine below_set ?_ GE253.out | refine below_set ?_ GE263.out | refine below_set ?_ GE274.out) | exact HB.out)⟩

end Go.Proofs.Ytnjcmalmnofbmaa.XFnExactBackwardMachine
